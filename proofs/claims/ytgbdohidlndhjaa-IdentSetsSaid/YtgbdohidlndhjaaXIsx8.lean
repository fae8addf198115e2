/- Printed by px.py, a program of this session over the print of the kit: functions that the law reaches, as Lean functions, each with a proof that its Go code answers so. No condition. -/
import Derived.Test.YtgbdohidlndhjaaXIsx0
import Derived.Test.YtgbdohidlndhjaaXIsx3
import Derived.Test.YtgbdohidlndhjaaXIsx4
import Derived.Test.YtgbdohidlndhjaaXIsx5
import Derived.Test.YtgbdohidlndhjaaXIsx6
import Derived.Test.YtgbdohidlndhjaaXIsx7
import Derived.Test.YtgbdohidlndhjaaEStep
namespace Go.Proofs.Ytgbdohidlndhjaa.XIs
open Go.RowKit Go.Proofs.YtgbdohidlndhjaaW.PrintWords Go.Proofs.YtgbdohidlndhjaaW.PrintLast Go.Proofs.YtgbdohidlndhjaaW.PrintMore Go.Proofs.Ytgbdohidlndhjaa.EStep
attribute [local go_sem] max2_int min2_int max_two min_two max_three min_three max_four min_four   -- for this text's walks alone
set_option linter.unusedVariables false
set_option linter.unusedSimpArgs false

/-! ### rafterlaw11_IdentSets: function 5 -/
def rafterlaw11_IdentSets.l0 : Nat → List (S23) → List (S23) → List ByteArray → Int → ByteArray → Int → Option (Bool)
 | 0, _, _, _, _, _, _ => none
 | k + 1, x0, x1, x7, x8, x294000, x294001 => if x8 < (x0.length : Int) then (if 0 ≤ x8 then (if ((rd_T23 x0 x8).f0).toList = ([] : List UInt8) then (rafterlaw11_IdentSets.l0 k x0 x1 x7 (wrap64 (x8 + 1)) x294000 x294001) else (if x7.length < 8796093022208 then (rafterlaw11_IdentSets.l0 k x0 x1 (x7 ++ [(rd_T23 x0 x8).f0]) (wrap64 (x8 + 1)) x294000 x294001) else (none))) else (none)) else (if (x0.length : Int) = 0 then ((rafterlaw11_awake.f k).bind fun t301 => (if t301 = true then ((ident_Set.f x0).bind fun t302 => ((rafterref11_Set.f k x0).bind fun t305 => ((rafterref11_Same.f k t302 t305).bind fun t308 => (if t308 = true then ((ident_Has.f k x0 x294000 x294001).bind fun t309 => ((rafterref11_Has.f k x0 x294000 x294001).bind fun t310 => (if (t309 == t310) = true then ((ident_Meet.f k x0 x1).bind fun t311 => ((rafterref11_Meet.f k x0 x1).bind fun t312 => (if (t311 == t312) = true then ((ident_Patches.f k x0).bind fun t313 => ((rafterref02_Set.f k x7).bind fun t316 => ((rafterref01_Same.f k t313 t316).bind fun t319 => (if t319 = true then (some true) else (some false))))) else (some false)))) else (some false)))) else (some false))))) else (some false))) else (if 0 < (x0.length : Int) then ((ident_Less.f k ((rd_T23 x0 0).f0) ((rd_T23 x0 0).f1) x294000 x294001).bind fun t321 => ((rafterref11_Less.f ((rd_T23 x0 0).f0) ((rd_T23 x0 0).f1) x294000 x294001).bind fun t323 => ((rafterlaw11_awake.f k).bind fun t324 => (if t324 = true then ((ident_Set.f x0).bind fun t325 => ((rafterref11_Set.f k x0).bind fun t328 => ((rafterref11_Same.f k t325 t328).bind fun t331 => (if t331 = true then ((ident_Has.f k x0 x294000 x294001).bind fun t332 => ((rafterref11_Has.f k x0 x294000 x294001).bind fun t333 => (if (t332 == t333) = true then ((ident_Meet.f k x0 x1).bind fun t334 => ((rafterref11_Meet.f k x0 x1).bind fun t335 => (if (t334 == t335) = true then ((ident_Patches.f k x0).bind fun t336 => ((rafterref02_Set.f k x7).bind fun t339 => ((rafterref01_Same.f k t336 t339).bind fun t342 => (if t342 = true then (some (t321 == t323)) else (some false))))) else (some false)))) else (some false)))) else (some false))))) else (some false))))) else (none)))
def rafterlaw11_IdentSets.f (k : Nat) (l0 : List (S23)) (l1 : List (S23)) (a2_0 : ByteArray) (a2_1 : Int) : Option (Bool) := (rafterlaw11_light.f k l0).bind fun t294 => (if t294 = true then ((rafterlaw11_light.f k l1).bind fun t295 => (if t295 = true then (rafterlaw11_IdentSets.l0 k l0 l1 ([] : List ByteArray) 0 a2_0 a2_1) else ((rafterlaw11_awake.f k).bind fun t343 => (some t343)))) else ((rafterlaw11_awake.f k).bind fun t344 => (some t344)))
theorem rafterlaw11_IdentSets.mono_l : ∀ k, (∀ y0 y1 y2 y3 y4 y5, LeO (rafterlaw11_IdentSets.l0 k y0 y1 y2 y3 y4 y5) (rafterlaw11_IdentSets.l0 (k + 1) y0 y1 y2 y3 y4 y5))
 | 0 => fun _ _ _ _ _ _ r h => by simp [rafterlaw11_IdentSets.l0] at h
 | k + 1 => by
  have ih0 := rafterlaw11_IdentSets.mono_l k
  ·intro y0 y1 y2 y3 y4 y5
   unfold rafterlaw11_IdentSets.l0
   repeat' first
   | (with_reducible exact ih0 _ _ _ _ _ _)
   | (with_reducible exact ident_Has.mono _ _ _ _)
   | (with_reducible exact ident_Less.mono _ _ _ _ _)
   | (with_reducible exact ident_Meet.mono _ _ _)
   | (with_reducible exact ident_Patches.mono _ _)
   | (with_reducible exact rafterlaw11_awake.mono _)
   | (with_reducible exact rafterlaw11_light.mono _ _)
   | (with_reducible exact rafterref01_Same.mono _ _ _)
   | (with_reducible exact rafterref02_Set.mono _ _)
   | (with_reducible exact rafterref11_Has.mono _ _ _ _)
   | (with_reducible exact rafterref11_Meet.mono _ _ _)
   | (with_reducible exact rafterref11_Same.mono _ _ _)
   | (with_reducible exact rafterref11_Set.mono _ _)
   | (with_reducible exact LeO.refl _)
   | (with_reducible exact LeO.none _)
   | (with_reducible refine LeO.ite ?_ ?_)
   | (with_reducible refine LeO.bind ?_ (fun _ => ?_))
   | exact ih0 _ _ _ _ _ _
   | exact ident_Has.mono _ _ _ _
   | exact ident_Less.mono _ _ _ _ _
   | exact ident_Meet.mono _ _ _
   | exact ident_Patches.mono _ _
   | exact rafterlaw11_awake.mono _
   | exact rafterlaw11_light.mono _ _
   | exact rafterref01_Same.mono _ _ _
   | exact rafterref02_Set.mono _ _
   | exact rafterref11_Has.mono _ _ _ _
   | exact rafterref11_Meet.mono _ _ _
   | exact rafterref11_Same.mono _ _ _
   | exact rafterref11_Set.mono _ _
   | exact LeO.none _
   | refine LeO.ite ?_ ?_
   | refine LeO.bind ?_ (fun _ => ?_)
theorem rafterlaw11_IdentSets.mono : ∀ a0 a1 a2 a3 k, LeO (rafterlaw11_IdentSets.f k a0 a1 a2 a3) (rafterlaw11_IdentSets.f (k + 1) a0 a1 a2 a3) := by
 intro a0 a1 a2 a3 k
 have ih0 := rafterlaw11_IdentSets.mono_l k
 unfold rafterlaw11_IdentSets.f
 repeat' first
   | (with_reducible exact ih0 _ _ _ _ _ _)
   | (with_reducible exact ident_Has.mono _ _ _ _)
   | (with_reducible exact ident_Less.mono _ _ _ _ _)
   | (with_reducible exact ident_Meet.mono _ _ _)
   | (with_reducible exact ident_Patches.mono _ _)
   | (with_reducible exact rafterlaw11_awake.mono _)
   | (with_reducible exact rafterlaw11_light.mono _ _)
   | (with_reducible exact rafterref01_Same.mono _ _ _)
   | (with_reducible exact rafterref02_Set.mono _ _)
   | (with_reducible exact rafterref11_Has.mono _ _ _ _)
   | (with_reducible exact rafterref11_Meet.mono _ _ _)
   | (with_reducible exact rafterref11_Same.mono _ _ _)
   | (with_reducible exact rafterref11_Set.mono _ _)
   | (with_reducible exact LeO.refl _)
   | (with_reducible exact LeO.none _)
   | (with_reducible refine LeO.ite ?_ ?_)
   | (with_reducible refine LeO.bind ?_ (fun _ => ?_))
   | exact ih0 _ _ _ _ _ _
   | exact ident_Has.mono _ _ _ _
   | exact ident_Less.mono _ _ _ _ _
   | exact ident_Meet.mono _ _ _
   | exact ident_Patches.mono _ _
   | exact rafterlaw11_awake.mono _
   | exact rafterlaw11_light.mono _ _
   | exact rafterref01_Same.mono _ _ _
   | exact rafterref02_Set.mono _ _
   | exact rafterref11_Has.mono _ _ _ _
   | exact rafterref11_Meet.mono _ _ _
   | exact rafterref11_Same.mono _ _ _
   | exact rafterref11_Set.mono _ _
   | exact LeO.none _
   | refine LeO.ite ?_ ?_
   | refine LeO.bind ?_ (fun _ => ?_)
def rafterlaw11_IdentSets.T9 : Bool × List (List Nat × List Nat) := (true, [([], []), ([0], [0]), ([1], [1]), ([2], [2]), ([3], [3]), ([4, 3], [3, 4]), ([5, 3], [3, 5]), ([3], [3]), ([6, 7, 3, 3], [3, 6, 7]), ([3], [3]), ([9, 3], [3, 9]), ([10, 3], [3, 10]), ([3], [3]), ([11, 12, 8, 3], [3, 11, 12]), ([8, 13, 3], [3, 8, 13]), ([3, 14], [3, 14]), ([15, 13, 0, 1, 2, 3, 4, 5, 6, 7, 8, 9, 10, 11, 12, 13, 14, 15], [15])])
def rafterlaw11_IdentSets.B9 : List Nat := [0, 1, 3, 7, 15, 31, 63, 15, 255, 15, 527, 1551, 15, 8191, 16383, 32767, 65535]
theorem rafterlaw11_IdentSets.tab9 : rtab .any (opsOf Try.f5 9) = rafterlaw11_IdentSets.T9 := by kernel_rfl
theorem rafterlaw11_IdentSets.bits9 : waitsOk rafterlaw11_IdentSets.T9.2 rafterlaw11_IdentSets.B9 = true := by kernel_rfl
def rafterlaw11_IdentSets.T10 : Bool × List (List Nat × List Nat) := (true, [([], []), ([0, 0], [0]), ([1], [1]), ([2, 1, 1], [1, 2]), ([1], [1]), ([4, 3, 1], [1, 4]), ([3, 5, 5, 1], [1, 3, 5]), ([1, 6], [1, 6]), ([7, 6], [7]), ([8], [8]), ([8], [8]), ([9, 10, 8, 8], [8, 9, 10]), ([8], [8]), ([8], [8]), ([12, 13, 11, 8], [8, 12, 13]), ([11, 14, 8], [8, 11, 14]), ([8, 15], [8, 15]), ([16, 14], [16]), ([17], [17]), ([17], [17]), ([18, 19, 17, 17], [17, 18, 19]), ([17], [17]), ([17], [17]), ([21, 22, 20, 17], [17, 21, 22]), ([20, 23, 17], [17, 20, 23]), ([17, 24], [17, 24]), ([25, 23], [25]), ([26], [26]), ([27, 26, 26], [26, 27]), ([26], [26]), ([29, 28, 26], [26, 29]), ([28, 30, 30, 26], [26, 28, 30]), ([26, 31], [26, 31]), ([32, 31], [32]), ([33], [33]), ([33, 34], [33, 34]), ([35, 33, 0, 1, 2, 3, 4, 5, 6, 7, 8, 9, 10, 11, 12, 13, 14, 15, 16, 17, 18, 19, 20, 21, 22, 23, 24, 25, 26, 27, 28, 29, 30, 31, 32, 33, 34, 35], [35])])
def rafterlaw11_IdentSets.B10 : List Nat := [0, 1, 3, 7, 3, 31, 63, 127, 255, 511, 511, 2047, 511, 511, 16383, 32767, 65535, 131071, 262143, 262143, 1048575, 262143, 262143, 8388607, 16777215, 33554431, 67108863, 134217727, 268435455, 134217727, 1073741823, 2147483647, 4294967295, 8589934591, 17179869183, 34359738367, 68719476735]
theorem rafterlaw11_IdentSets.tab10 : rtab .any (opsOf Try.f5 10) = rafterlaw11_IdentSets.T10 := by kernel_rfl
theorem rafterlaw11_IdentSets.bits10 : waitsOk rafterlaw11_IdentSets.T10.2 rafterlaw11_IdentSets.B10 = true := by kernel_rfl
set_option maxHeartbeats 8000000 in
set_option maxRecDepth 100000 in
theorem rafterlaw11_IdentSets.calls (k : Nat) (A0 : Option Addr) (c0 : Nat) (l0 : List (S23)) (A1 : Option Addr) (c1 : Nat) (l1 : List (S23)) (a2_0 : ByteArray) (a2_1 : Int) (r : Bool) (w : World) (hr0 : Kd.C k23 w A0 l0.length l0) (hc0 : l0.length ≤ c0) (hr1 : Kd.C k23 w A1 l1.length l1) (hc1 : l1.length ≤ c1) (hG : EGlob.G w) (h : rafterlaw11_IdentSets.f k l0 l1 a2_0 a2_1 = some r) (hr_ : r = true := by first | rfl | assumption) :
  Calls Try.prog 5 #[.slice A0 l0.length c0, .slice A1 l1.length c1, .agg #[.string a2_0, .int .i64 a2_1]] w fun e w' => e = .returned (.bool r) ∧ Below w.heap.size w w' := by
 subst hr_
 have hu23 := Try.underlying23
 have HG := Aside0.mk hG
 clear hG
 have HR0 := Aside0.mk hr0
 have HC0 := Aside0.mk hc0
 clear hr0 hc0
 have HR1 := Aside0.mk hr1
 have HC1 := Aside0.mk hc1
 clear hr1 hc1
 have HB := Aside0.mk (Below.refl w.heap.size w)
 have H : ((rafterlaw11_light.f k l0).bind fun t294 => (if t294 = true then ((rafterlaw11_light.f k l1).bind fun t295 => (if t295 = true then (rafterlaw11_IdentSets.l0 k l0 l1 ([] : List ByteArray) 0 a2_0 a2_1) else ((rafterlaw11_awake.f k).bind fun t343 => (some t343)))) else ((rafterlaw11_awake.f k).bind fun t344 => (some t344)))) = some true := h
 clear h
 replace H := Option.bind_eq_some_iff.mp H
 obtain ⟨t294, A40, H⟩ := H
 replace H : (if t294 = true then ((rafterlaw11_light.f k l1).bind fun t295 => (if t295 = true then (rafterlaw11_IdentSets.l0 k l0 l1 ([] : List ByteArray) 0 a2_0 a2_1) else ((rafterlaw11_awake.f k).bind fun t343 => (some t343)))) else ((rafterlaw11_awake.f k).bind fun t344 => (some t344))) = some true := H
 have A4 := Aside0.mk A40
 clear A40
 by_cases c5 : t294 = true
 ·subst c5
  have H1 : ((rafterlaw11_light.f k l1).bind fun t295 => (if t295 = true then (rafterlaw11_IdentSets.l0 k l0 l1 ([] : List ByteArray) 0 a2_0 a2_1) else ((rafterlaw11_awake.f k).bind fun t343 => (some t343)))) = some true := by rw [if_pos rfl] at H; exact H
  clear H
  have H := H1
  clear H1
  replace H := Option.bind_eq_some_iff.mp H
  obtain ⟨t295, A60, H⟩ := H
  replace H : (if t295 = true then (rafterlaw11_IdentSets.l0 k l0 l1 ([] : List ByteArray) 0 a2_0 a2_1) else ((rafterlaw11_awake.f k).bind fun t343 => (some t343))) = some true := H
  have A6 := Aside0.mk A60
  clear A60
  by_cases c7 : t295 = true
  ·subst c7
   have H1 : (rafterlaw11_IdentSets.l0 k l0 l1 ([] : List ByteArray) 0 a2_0 a2_1) = some true := by rw [if_pos rfl] at H; exact H
   clear H
   have H := H1
   clear H1
   have H' := Aside0.mk H
   clear H
   go_enter Try.func5, Try.ntmps5
   go_wp2_with (first | ((with_reducible refine gate_dst (N := 5) rfl ?_); refine box_event ?hg (N := 5) ?hd (cs := #[.string a2_0, .int .i64 a2_1]) (t := 23) ?hr ?_; (case hd => rfl); (case hg => rfl); (case hr => first | (go_simp; done) | (go_simp; rfl)); intro gb293 hg w8 hbox hb; have n0_ := Aside0.mk (below_step (by repeat (first | (with_reducible first | exact HB.out | apply below_alloc | apply pw_below_drewN | apply below_drew1) | exact HB.out)) hb); have n1_ := Aside0.mk (hbox); have n2_ := Aside0.mk ((by rw [hg]; exact (below_size (by repeat (first | (with_reducible first | exact HB.out | apply below_alloc | apply pw_below_drewN | apply below_drew1) | exact HB.out))) : w.heap.size ≤ gb293)); have n3_ := Aside0.mk ((by rw [hg]; exact (below_size (by repeat (first | (with_reducible first | exact HB.out | apply below_alloc | apply pw_below_drewN | apply below_drew1) | exact HB.out))) : w.heap.size ≤ gb293)); clear HB; have HB := n0_; have BK293 := n1_; have GW293 := n2_; have GE293 := n3_; clear n0_ n1_ n2_ n3_; clear hb hbox hg) | ((with_reducible refine gate_callee (f := 13) rfl ?_); refine goesL_ (some 11) rfl rfl Try.func13 (by kernel_rfl) rfl #[.slice A0 l0.length c0] rfl (by (try simp only [List.map_toArray, List.map_cons, List.map_nil]); first | done | rfl | (simp only [List.length_drop, List.length_take]; rfl)) ?_; (with_reducible refine (rafterlaw11_light.calls k _ _ l0 true _ ?side1 ?side2 A4.out).mono ?_); (case side1 => repeat (first | exact (Kd.C_below HR0.out HB.out) | (with_reducible refine Kd.C_alloc ?_ _) | (with_reducible refine Kd.C_drewN ?_ _) | (with_reducible refine Kd.C_drew ?_))); (case side2 => exact HC0.out); rintro e w' ⟨rfl, ⟨nd, rfl⟩⟩; refine ⟨_, rfl, ?_⟩) | (go_at_call 13; (with_reducible refine (rafterlaw11_light.calls k _ _ l1 true _ ?side1 ?side2 A6.out).mono ?_); (case side1 => repeat (first | exact (Kd.C_below HR1.out (by repeat (first | (with_reducible first | exact HB.out | apply below_alloc | apply pw_below_drewN | apply below_drew1 | refine below_set ?_ GE293.out) | exact HB.out))) | (with_reducible refine Kd.C_alloc ?_ _) | (with_reducible refine Kd.C_drewN ?_ _) | (with_reducible refine Kd.C_drew ?_))); (case side2 => exact HC1.out); rintro e w' ⟨rfl, ⟨nd, rfl⟩⟩))
   go_loopg [7, 8] k (fun kq v7 v8 w' => ∃ (x7_1 : List ByteArray) (x8_1 : Int), v8 = .int .i64 x8_1 ∧ Aside0 (rafterlaw11_IdentSets.l0 kq l0 l1 x7_1 x8_1 a2_0 a2_1 = some true) ∧ Aside0 (kq ≤ k) ∧ Aside0 (Kd.R Kd.string 9 w' w.heap.size (fun _ => True) v7 x7_1) ∧ Aside0 (w'.heap[gb293]? = some (.cells #[.string a2_0, .int .i64 a2_1] 23 (0, 0))) ∧ Aside0 (Below w.heap.size w w'))
   case atStart => exact ⟨(([] : List ByteArray)), (0), (by first | rfl | (simp; done) | (simp [*]; done)), H', ⟨Nat.le_refl _⟩, ⟨by first | exact Kd.R_nil _ _ _ _ _ | exact Kd.N_nil _ _ _ _ _ | exact Kd.V_nil _ _ _ _ _ | exact Kd.Q_nil _ _ _ _ _ | exact Kd.S_nil _ _ _ _ _⟩, ⟨by (with_reducible repeat (first | refine blk_drewN ?_ _ | refine blk_drew ?_ | refine blk_alloc ?_ _)); exact BK293.out⟩, ⟨by repeat (first | (with_reducible first | exact HB.out | apply below_alloc | apply pw_below_drewN | apply below_drew1 | refine below_set ?_ GE293.out) | exact HB.out)⟩⟩
   case round =>
    clear H'
    try clear c1
    try clear p2
    try clear c5
    try clear c7
    obtain ⟨x7_1, x8_1, rfl, HA, HK1, HO_7, BK293, HB⟩ := hrel
    cases gk with
    | zero => exact absurd HA.out (by simp [rafterlaw11_IdentSets.l0])
    | succ k1 =>
     have H := HA.out
     clear HA
     simp only [rafterlaw11_IdentSets.l0] at H
     by_cases c9 : x8_1 < (l0.length : Int)
     ·rw [if_pos c9] at H
      have c9b0 : decide (x8_1 < (l0.length : Int)) = true := decide_eq_true c9
      clear c9
      by_cases c10 : 0 ≤ x8_1
      ·rw [if_pos c10] at H
       have c10b0 : decide (0 ≤ x8_1) = true := decide_eq_true c10
       clear c10
       by_cases c11 : ((rd_T23 l0 x8_1).f0).toList = ([] : List UInt8)
       ·rw [if_pos c11] at H
        have c11b0 : (((rd_T23 l0 x8_1).f0).toList == ([] : List UInt8)) = true := beq_iff_eq.mpr c11
        have c11b1 : (((rd_T23 l0 x8_1).f0).toList != ([] : List UInt8)) = false := bne_eq_false_iff_eq.mpr c11
        clear c11
        have H' := Aside0.mk H
        clear H
        have p296 : 0 ≤ (x8_1 : Int) := of_decide_eq_true (by first | (with_reducible assumption) | assumption)
        have q296 : x8_1 < (l0.length : Int) := of_decide_eq_true (by first | (with_reducible assumption) | assumption)
        obtain ⟨ad296, e296, hx296_0, hx296_1⟩ := at_T23 HR0.out x8_1 p296 q296
        cases e296
        replace hx296_0 := (HB.out.cell (World.block_lt_of_cell? w _ hx296_0)).trans hx296_0
        replace hx296_1 := (HB.out.cell (World.block_lt_of_cell? w _ hx296_1)).trans hx296_1
        replace p296 := eq_true p296
        replace q296 := eq_true q296
        go_wp2
        go_roundg k1
        case measure => have := HK1.out; omega
        case rel => exact ⟨(x7_1), (wrap64 (x8_1 + 1)), (by first | rfl | (simp; done) | (simp [*]; done)), H', ⟨by have := HK1.out; omega⟩, ⟨by (with_reducible repeat (first | apply Kd.R_alloc | apply Kd.R_drewN | apply Kd.R_drew)); exact HO_7.out⟩, ⟨by (with_reducible repeat (first | refine blk_drewN ?_ _ | refine blk_drew ?_ | refine blk_alloc ?_ _)); exact BK293.out⟩, ⟨by repeat (first | (with_reducible first | exact HB.out | apply below_alloc | apply pw_below_drewN | apply below_drew1 | refine below_set ?_ GE293.out) | exact HB.out)⟩⟩
       ·rw [if_neg c11] at H
        have c11b0 : (((rd_T23 l0 x8_1).f0).toList == ([] : List UInt8)) = false := beq_eq_false_iff_ne.mpr c11
        have c11b1 : (((rd_T23 l0 x8_1).f0).toList != ([] : List UInt8)) = true := bne_iff_ne.mpr c11
        by_cases c12 : x7_1.length < 8796093022208
        ·rw [if_pos c12] at H
         have LMc12 := Aside0.mk c12
         clear c12
         obtain ⟨y298, hy298⟩ : ∃ y_ : List ByteArray, y_ = (x7_1 ++ [(rd_T23 l0 x8_1).f0]) := ⟨_, rfl⟩
         replace H : (rafterlaw11_IdentSets.l0 k1 l0 l1 y298 (wrap64 (x8_1 + 1)) a2_0 a2_1) = some true := by first | (rw [hy298]; with_reducible exact H) | (have H2_ := (Option.bind_some _ _).symm.trans H; rw [hy298]; with_reducible exact H2_) | (have H2_ := (Option.bind_some _ _).symm.trans H; with_reducible exact H2_) | with_reducible exact H | (rw [hy298]; exact H) | exact H
         have Ny298 := Aside0.mk hy298
         clear hy298
         have H' := Aside0.mk H
         clear H
         have p296 : 0 ≤ (x8_1 : Int) := of_decide_eq_true (by first | (with_reducible assumption) | assumption)
         have q296 : x8_1 < (l0.length : Int) := of_decide_eq_true (by first | (with_reducible assumption) | assumption)
         obtain ⟨ad296, e296, hx296_0, hx296_1⟩ := at_T23 HR0.out x8_1 p296 q296
         cases e296
         replace hx296_0 := (HB.out.cell (World.block_lt_of_cell? w _ hx296_0)).trans hx296_0
         replace hx296_1 := (HB.out.cell (World.block_lt_of_cell? w _ hx296_1)).trans hx296_1
         replace p296 := eq_true p296
         replace q296 := eq_true q296
         have p297 : 0 ≤ (x8_1 : Int) := of_decide_eq_true (by first | (with_reducible assumption) | assumption)
         have q297 : x8_1 < (l0.length : Int) := of_decide_eq_true (by first | (with_reducible assumption) | assumption)
         obtain ⟨ad297, e297, hx297_0, hx297_1⟩ := at_T23 HR0.out x8_1 p297 q297
         obtain rfl : ad296 = ad297 := (by injection e297)
         replace hx297_0 := (HB.out.cell (World.block_lt_of_cell? w _ hx297_0)).trans hx297_0
         replace hx297_1 := (HB.out.cell (World.block_lt_of_cell? w _ hx297_1)).trans hx297_1
         replace p297 := eq_true p297
         replace q297 := eq_true q297
         go_wp2_with (first | ((with_reducible refine gate_builtin (b := .append) (xs := #[.tmp 31, .tmp 37]) rfl ?_); at_builtin; refine Kd.R_append Kd.string (w0 := w) w.heap.size rfl (.tmp 31) (.tmp 37) 35 9 (.string ⟨#[]⟩) 16 rfl Try.underlying35 info9 rfl (by decide) (by omega) u7 x7_1 ((rd_T23 l0 x8_1).f0) [.string ((rd_T23 l0 x8_1).f0)] (fun _ => True) (fun _ => False) rfl rfl ?aP (fun _ hk => hk.elim) ?aF ?aO ?aB ?aS ?aL ?_; (case aP => exact rfl); (case aB => exact (by repeat (first | (with_reducible first | exact HB.out | apply below_alloc | apply pw_below_drewN | apply below_drew1 | refine below_set ?_ GE293.out) | exact HB.out))); (case aF => exact (fun _ _ => trivial)); (case aO => exact (by (with_reducible repeat (first | apply Kd.R_alloc | apply Kd.R_drewN | apply Kd.R_drew)); exact HO_7.out)); (case aS => exact (below_size (by repeat (first | (with_reducible first | exact HB.out | apply below_alloc | apply pw_below_drewN | apply below_drew1 | refine below_set ?_ GE293.out) | exact HB.out)))); (case aL => have := LMc12.out; omega); intro v299 w13 ho hb hg hat; rw [← Ny298.out] at ho; have n0_ := Aside0.mk (blk_grown (g := gb293) (o := .cells #[.string a2_0, .int .i64 a2_1] 23 (0, 0)) (by (with_reducible repeat (first | refine blk_drewN ?_ _ | refine blk_drew ?_ | refine blk_alloc ?_ _)); exact BK293.out) hg (Kd.R_ne HO_7.out BK293.out (by decide))); have n1_ := Aside0.mk (hb); have n2_ := Aside0.mk (ho); clear BK293; clear HB; clear HO_7; have BK293 := n0_; have HB := n1_; have HO300 := n2_; clear n0_ n1_ n2_; clear ho hb hg hat))
         go_roundg k1
         case measure => have := HK1.out; omega
         case rel => exact ⟨(y298), (wrap64 (x8_1 + 1)), (by first | rfl | (simp; done) | (simp [*]; done)), H', ⟨by have := HK1.out; omega⟩, ⟨by (with_reducible repeat (first | apply Kd.R_alloc | apply Kd.R_drewN | apply Kd.R_drew)); exact HO300.out⟩, ⟨by (with_reducible repeat (first | refine blk_drewN ?_ _ | refine blk_drew ?_ | refine blk_alloc ?_ _)); exact BK293.out⟩, ⟨by repeat (first | (with_reducible first | exact HB.out | apply below_alloc | apply pw_below_drewN | apply below_drew1 | refine below_set ?_ GE293.out) | exact HB.out)⟩⟩
        ·rw [if_neg c12] at H
         exact absurd H (by simp)
      ·rw [if_neg c10] at H
       exact absurd H (by simp)
     ·rw [if_neg c9] at H
      have c9b0 : decide (x8_1 < (l0.length : Int)) = false := decide_eq_false c9
      clear c9
      by_cases c14 : (l0.length : Int) = 0
      ·rw [if_pos c14] at H
       have c14b0 : ((l0.length : Int) == 0) = true := beq_iff_eq.mpr c14
       have c14b1 : ((l0.length : Int) != 0) = false := bne_eq_false_iff_eq.mpr c14
       clear c14
       replace H := Option.bind_eq_some_iff.mp H
       obtain ⟨t301, A150, H⟩ := H
       replace H : (if t301 = true then ((ident_Set.f l0).bind fun t302 => ((rafterref11_Set.f k1 l0).bind fun t305 => ((rafterref11_Same.f k1 t302 t305).bind fun t308 => (if t308 = true then ((ident_Has.f k1 l0 a2_0 a2_1).bind fun t309 => ((rafterref11_Has.f k1 l0 a2_0 a2_1).bind fun t310 => (if (t309 == t310) = true then ((ident_Meet.f k1 l0 l1).bind fun t311 => ((rafterref11_Meet.f k1 l0 l1).bind fun t312 => (if (t311 == t312) = true then ((ident_Patches.f k1 l0).bind fun t313 => ((rafterref02_Set.f k1 x7_1).bind fun t316 => ((rafterref01_Same.f k1 t313 t316).bind fun t319 => (if t319 = true then (some true) else (some false))))) else (some false)))) else (some false)))) else (some false))))) else (some false)) = some true := H
       have A15 := Aside0.mk A150
       clear A150
       by_cases c16 : t301 = true
       ·subst c16
        have H1 : ((ident_Set.f l0).bind fun t302 => ((rafterref11_Set.f k1 l0).bind fun t305 => ((rafterref11_Same.f k1 t302 t305).bind fun t308 => (if t308 = true then ((ident_Has.f k1 l0 a2_0 a2_1).bind fun t309 => ((rafterref11_Has.f k1 l0 a2_0 a2_1).bind fun t310 => (if (t309 == t310) = true then ((ident_Meet.f k1 l0 l1).bind fun t311 => ((rafterref11_Meet.f k1 l0 l1).bind fun t312 => (if (t311 == t312) = true then ((ident_Patches.f k1 l0).bind fun t313 => ((rafterref02_Set.f k1 x7_1).bind fun t316 => ((rafterref01_Same.f k1 t313 t316).bind fun t319 => (if t319 = true then (some true) else (some false))))) else (some false)))) else (some false)))) else (some false))))) = some true := by rw [if_pos rfl] at H; exact H
        clear H
        have H := H1
        clear H1
        replace H := Option.bind_eq_some_iff.mp H
        obtain ⟨t302, A170, H⟩ := H
        replace H : ((rafterref11_Set.f k1 l0).bind fun t305 => ((rafterref11_Same.f k1 t302 t305).bind fun t308 => (if t308 = true then ((ident_Has.f k1 l0 a2_0 a2_1).bind fun t309 => ((rafterref11_Has.f k1 l0 a2_0 a2_1).bind fun t310 => (if (t309 == t310) = true then ((ident_Meet.f k1 l0 l1).bind fun t311 => ((rafterref11_Meet.f k1 l0 l1).bind fun t312 => (if (t311 == t312) = true then ((ident_Patches.f k1 l0).bind fun t313 => ((rafterref02_Set.f k1 x7_1).bind fun t316 => ((rafterref01_Same.f k1 t313 t316).bind fun t319 => (if t319 = true then (some true) else (some false))))) else (some false)))) else (some false)))) else (some false)))) = some true := H
        have A17 := Aside0.mk A170
        clear A170
        replace H := Option.bind_eq_some_iff.mp H
        obtain ⟨t305, A180, H⟩ := H
        replace H : ((rafterref11_Same.f k1 t302 t305).bind fun t308 => (if t308 = true then ((ident_Has.f k1 l0 a2_0 a2_1).bind fun t309 => ((rafterref11_Has.f k1 l0 a2_0 a2_1).bind fun t310 => (if (t309 == t310) = true then ((ident_Meet.f k1 l0 l1).bind fun t311 => ((rafterref11_Meet.f k1 l0 l1).bind fun t312 => (if (t311 == t312) = true then ((ident_Patches.f k1 l0).bind fun t313 => ((rafterref02_Set.f k1 x7_1).bind fun t316 => ((rafterref01_Same.f k1 t313 t316).bind fun t319 => (if t319 = true then (some true) else (some false))))) else (some false)))) else (some false)))) else (some false))) = some true := H
        have A18 := Aside0.mk A180
        clear A180
        replace H := Option.bind_eq_some_iff.mp H
        obtain ⟨t308, A190, H⟩ := H
        replace H : (if t308 = true then ((ident_Has.f k1 l0 a2_0 a2_1).bind fun t309 => ((rafterref11_Has.f k1 l0 a2_0 a2_1).bind fun t310 => (if (t309 == t310) = true then ((ident_Meet.f k1 l0 l1).bind fun t311 => ((rafterref11_Meet.f k1 l0 l1).bind fun t312 => (if (t311 == t312) = true then ((ident_Patches.f k1 l0).bind fun t313 => ((rafterref02_Set.f k1 x7_1).bind fun t316 => ((rafterref01_Same.f k1 t313 t316).bind fun t319 => (if t319 = true then (some true) else (some false))))) else (some false)))) else (some false)))) else (some false)) = some true := H
        have A19 := Aside0.mk A190
        clear A190
        by_cases c20 : t308 = true
        ·subst c20
         have H1 : ((ident_Has.f k1 l0 a2_0 a2_1).bind fun t309 => ((rafterref11_Has.f k1 l0 a2_0 a2_1).bind fun t310 => (if (t309 == t310) = true then ((ident_Meet.f k1 l0 l1).bind fun t311 => ((rafterref11_Meet.f k1 l0 l1).bind fun t312 => (if (t311 == t312) = true then ((ident_Patches.f k1 l0).bind fun t313 => ((rafterref02_Set.f k1 x7_1).bind fun t316 => ((rafterref01_Same.f k1 t313 t316).bind fun t319 => (if t319 = true then (some true) else (some false))))) else (some false)))) else (some false)))) = some true := by rw [if_pos rfl] at H; exact H
         clear H
         have H := H1
         clear H1
         replace H := Option.bind_eq_some_iff.mp H
         obtain ⟨t309, A210, H⟩ := H
         replace H : ((rafterref11_Has.f k1 l0 a2_0 a2_1).bind fun t310 => (if (t309 == t310) = true then ((ident_Meet.f k1 l0 l1).bind fun t311 => ((rafterref11_Meet.f k1 l0 l1).bind fun t312 => (if (t311 == t312) = true then ((ident_Patches.f k1 l0).bind fun t313 => ((rafterref02_Set.f k1 x7_1).bind fun t316 => ((rafterref01_Same.f k1 t313 t316).bind fun t319 => (if t319 = true then (some true) else (some false))))) else (some false)))) else (some false))) = some true := H
         have A21 := Aside0.mk A210
         clear A210
         replace H := Option.bind_eq_some_iff.mp H
         obtain ⟨t310, A220, H⟩ := H
         replace H : (if (t309 == t310) = true then ((ident_Meet.f k1 l0 l1).bind fun t311 => ((rafterref11_Meet.f k1 l0 l1).bind fun t312 => (if (t311 == t312) = true then ((ident_Patches.f k1 l0).bind fun t313 => ((rafterref02_Set.f k1 x7_1).bind fun t316 => ((rafterref01_Same.f k1 t313 t316).bind fun t319 => (if t319 = true then (some true) else (some false))))) else (some false)))) else (some false)) = some true := H
         have A22 := Aside0.mk A220
         clear A220
         by_cases c23 : (t309 == t310) = true
         ·rw [if_pos c23] at H
          have c23b0 : (t309 == t310) = true := c23
          (try (have c23b1 : decide (t309 = t310) = true := by simpa using c23))
          (try (have c23b2 : (t309 == t310) = true := by simpa using c23))
          clear c23
          replace H := Option.bind_eq_some_iff.mp H
          obtain ⟨t311, A240, H⟩ := H
          replace H : ((rafterref11_Meet.f k1 l0 l1).bind fun t312 => (if (t311 == t312) = true then ((ident_Patches.f k1 l0).bind fun t313 => ((rafterref02_Set.f k1 x7_1).bind fun t316 => ((rafterref01_Same.f k1 t313 t316).bind fun t319 => (if t319 = true then (some true) else (some false))))) else (some false))) = some true := H
          have A24 := Aside0.mk A240
          clear A240
          replace H := Option.bind_eq_some_iff.mp H
          obtain ⟨t312, A250, H⟩ := H
          replace H : (if (t311 == t312) = true then ((ident_Patches.f k1 l0).bind fun t313 => ((rafterref02_Set.f k1 x7_1).bind fun t316 => ((rafterref01_Same.f k1 t313 t316).bind fun t319 => (if t319 = true then (some true) else (some false))))) else (some false)) = some true := H
          have A25 := Aside0.mk A250
          clear A250
          by_cases c26 : (t311 == t312) = true
          ·rw [if_pos c26] at H
           have c26b0 : (t311 == t312) = true := c26
           (try (have c26b1 : decide (t311 = t312) = true := by simpa using c26))
           (try (have c26b2 : (t311 == t312) = true := by simpa using c26))
           clear c26
           replace H := Option.bind_eq_some_iff.mp H
           obtain ⟨t313, A270, H⟩ := H
           replace H : ((rafterref02_Set.f k1 x7_1).bind fun t316 => ((rafterref01_Same.f k1 t313 t316).bind fun t319 => (if t319 = true then (some true) else (some false)))) = some true := H
           have A27 := Aside0.mk A270
           clear A270
           replace H := Option.bind_eq_some_iff.mp H
           obtain ⟨t316, A280, H⟩ := H
           replace H : ((rafterref01_Same.f k1 t313 t316).bind fun t319 => (if t319 = true then (some true) else (some false))) = some true := H
           have A28 := Aside0.mk A280
           clear A280
           replace H := Option.bind_eq_some_iff.mp H
           obtain ⟨t319, A290, H⟩ := H
           replace H : (if t319 = true then (some true) else (some false)) = some true := H
           have A29 := Aside0.mk A290
           clear A290
           by_cases c30 : t319 = true
           ·subst c30
            have H1 : (some true) = some true := rfl
            clear H
            have H := H1
            clear H1
            clear H
            try go_wp2
            have n0_ := Aside0.mk (Kd.R_drew HO_7.out)
            have n1_ := Aside0.mk (blk_drew BK293.out)
            have n2_ := Aside0.mk (below_drew1 HB.out)
            clear HO_7
            clear BK293
            clear HB
            have HO_7 := n0_
            have BK293 := n1_
            have HB := n2_
            clear n0_ n1_ n2_
            refine start_ (n := 17) (S := fun w' => True) (ds := []) #[false, false, false, false, false, false, false, false, false, false, false, false, false, false, false, false, false] (by kernel_rfl) rfl rfl trivial (fun hHeld => ?_); refine with_tabW rafterlaw11_IdentSets.tab9 rafterlaw11_IdentSets.bits9 (fun HT_ HW_ => ?_)
            generalize wr.drew = w31 at HO_7 BK293 HB hHeld ⊢
            refine pq_ 0 (some 39) HT_ ?_; refine pq_ 1 (some 40) HT_ ?_; refine pq_ 2 (some 41) HT_ ?_; refine pq_ 3 (some 42) HT_ ?_; refine pf_ 4 (some 43) HT_ ?_; refine pf_ 5 (some 44) HT_ ?_; refine pf_ 6 (some 45) HT_ ?_; refine pf_ 7 (some 46) HT_ ?_; refine pf_ 8 (some 47) HT_ ?_; refine pf_ 9 (some 48) HT_ ?_; refine pf_ 10 (some 49) HT_ ?_; refine pf_ 11 (some 50) HT_ ?_; refine pf_ 12 (some 51) HT_ ?_
            refine pf_ 13 (some 52) HT_ ?_; refine pf_ 14 (some 53) HT_ ?_; refine pq_ 15 (some 54) HT_ ?_; refine pq_ 16 (some 9) HT_ ?_
            refine done_ (done_of HT_.out (by kernel_rfl)) ?_
            try go_wp2
            have n0_ := Aside0.mk (Kd.R_drew HO_7.out)
            have n1_ := Aside0.mk (blk_drew BK293.out)
            have n2_ := Aside0.mk (below_drew1 HB.out)
            clear HO_7
            clear BK293
            clear HB
            have HO_7 := n0_
            have BK293 := n1_
            have HB := n2_
            clear n0_ n1_ n2_
            refine start_ (n := 37) (S := fun w' => w'.cell? ⟨gb293, 0, none⟩ = some (.string a2_0) ∧ w'.cell? ⟨gb293, 1, none⟩ = some (.int .i64 a2_1)) (ds := []) #[false, false, false, false, false, false, false, false, false, false, false, false, false, false, false, false, false, false, false, false, false, false, false, false, false, false, false, false, false, false, false, false, false, false, false, false, false] (by kernel_rfl) rfl rfl ⟨(blk_cell BK293.out 0).trans rfl, (blk_cell BK293.out 1).trans rfl⟩ (fun hHeld => ?_); refine with_tabW rafterlaw11_IdentSets.tab10 rafterlaw11_IdentSets.bits10 (fun HT_ HW_ => ?_)
            generalize w31.drew = w32 at HO_7 BK293 HB hHeld ⊢
            refine one_ (i := 0) (N := some 55) #[true, false, false, false, false, false, false, false, false, false, false, false, false, false, false, false, false, false, false, false, false, false, false, false, false, false, false, false, false, false, false, false, false, false, false, false, false] rfl rfl (one_of HT_.out (by kernel_rfl)) (by decide) (fun K hK => ?_)
            refine goes_ Try.func6 (by kernel_rfl) rfl #[] (by rfl) rfl rfl (by (try simp only [List.map_toArray, List.map_cons, List.map_nil]); first | done | rfl | (simp only [List.length_drop, List.length_take]; rfl)) ?_
            with_reducible refine (rafterlaw11_awake.calls k1  true _ ?side1 A15.out).mono ?_
            (case side1 => exact EGlob.G_below HG.out (by repeat (first | (with_reducible first | exact HB.out | apply below_alloc | apply pw_below_drewN | apply below_drew1 | refine below_set ?_ GE293.out) | exact HB.out)))
            rintro e w33 ⟨rfl, hb⟩
            refine ⟨_, rfl, ?_⟩
            have n0_ := Aside0.mk (Kd.R_below (by (with_reducible repeat (first | apply Kd.R_alloc | apply Kd.R_drewN | apply Kd.R_drew)); exact HO_7.out) hb)
            have n1_ := Aside0.mk (blk_below (g := gb293) (o := .cells #[.string a2_0, .int .i64 a2_1] 23 (0, 0)) (by (with_reducible repeat (first | refine blk_drewN ?_ _ | refine blk_drew ?_ | refine blk_alloc ?_ _)); exact BK293.out) hb)
            have n2_ := Aside0.mk (below_step (by repeat (first | (with_reducible first | exact HB.out | apply below_alloc | apply pw_below_drewN | apply below_drew1 | refine below_set ?_ GE293.out) | exact HB.out)) hb)
            clear HO_7
            clear BK293
            clear HB
            have HO_7 := n0_
            have BK293 := n1_
            have HB := n2_
            clear n0_ n1_ n2_
            (try clear hb)
            (try clear hb2)
            (try clear hk)
            (try clear hi)
            refine hK.out _ _ ⟨(blk_cell BK293.out 0).trans rfl, (blk_cell BK293.out 1).trans rfl⟩ (fun hHeld => ?_)
            clear hK K
            refine norm_ (a' := ?_) ?_ ?_
            rotate_left
            ·show Act.put _ (some 55) _ = _
             simp only [Act.put, List.setIfInBounds_toArray, List.set_cons_zero, List.set_cons_succ, i64_w, i32_w]
             rfl
            refine pq_ 1 (some 56) HT_ ?_; refine pq_ 2 (some 57) HT_ ?_; refine pq_ 4 (some 59) HT_ ?_
            refine one_ (i := 3) (N := some 58) #[true, true, true, true, true, false, false, false, false, false, false, false, false, false, false, false, false, false, false, false, false, false, false, false, false, false, false, false, false, false, false, false, false, false, false, false, false] rfl rfl (one_of HT_.out (by kernel_rfl)) (by decide) (fun K hK => ?_)
            refine goes_ Try.func17 (by kernel_rfl) rfl #[.slice A0 l0.length c0] (by rfl) rfl rfl (by (try simp only [List.map_toArray, List.map_cons, List.map_nil]); first | done | rfl | (simp only [List.length_drop, List.length_take]; rfl)) ?_
            with_reducible refine (ident_Set.calls _ _ l0 t302 _ ?side1 ?side2 A17.out).mono ?_
            (case side1 => repeat (first | exact (Kd.C_below HR0.out HB.out) | (with_reducible refine Kd.C_alloc ?_ _) | (with_reducible refine Kd.C_drewN ?_ _) | (with_reducible refine Kd.C_drew ?_)))
            (case side2 => exact HC0.out)
            rintro e w34 ⟨v303, rfl, ho0, hb⟩
            refine ⟨_, rfl, ?_⟩
            have n0_ := Aside0.mk (Kd.R_below (by (with_reducible repeat (first | apply Kd.R_alloc | apply Kd.R_drewN | apply Kd.R_drew)); exact HO_7.out) hb)
            have n1_ := Aside0.mk (Kd.R_lower (Kd.R_newB ho0 (g := gb293) (o := .cells #[.string a2_0, .int .i64 a2_1] 23 (0, 0)) (by (with_reducible repeat (first | refine blk_drewN ?_ _ | refine blk_drew ?_ | refine blk_alloc ?_ _)); exact BK293.out)) (below_size (by repeat (first | (with_reducible first | exact HB.out | apply below_alloc | apply pw_below_drewN | apply below_drew1 | refine below_set ?_ GE293.out) | exact HB.out))))
            have n2_ := Aside0.mk (blk_below (g := gb293) (o := .cells #[.string a2_0, .int .i64 a2_1] 23 (0, 0)) (by (with_reducible repeat (first | refine blk_drewN ?_ _ | refine blk_drew ?_ | refine blk_alloc ?_ _)); exact BK293.out) hb)
            have n3_ := Aside0.mk (below_step (by repeat (first | (with_reducible first | exact HB.out | apply below_alloc | apply pw_below_drewN | apply below_drew1 | refine below_set ?_ GE293.out) | exact HB.out)) hb)
            clear HO_7
            clear BK293
            clear HB
            have HO_7 := n0_
            have HO304 := n1_
            have BK293 := n2_
            have HB := n3_
            clear n0_ n1_ n2_ n3_
            (try clear hb)
            (try clear hb2)
            (try clear hk)
            (try clear hi)
            (try clear ho0)
            refine hK.out _ _ ⟨(blk_cell BK293.out 0).trans rfl, (blk_cell BK293.out 1).trans rfl⟩ (fun hHeld => ?_)
            clear hK K
            refine norm_ (a' := ?_) ?_ ?_
            rotate_left
            ·show Act.put _ (some 58) _ = _
             simp only [Act.put, List.setIfInBounds_toArray, List.set_cons_zero, List.set_cons_succ, i64_w, i32_w]
             rfl
            refine one_ (i := 5) (N := some 60) #[true, true, true, true, true, true, false, false, false, false, false, false, false, false, false, false, false, false, false, false, false, false, false, false, false, false, false, false, false, false, false, false, false, false, false, false, false] rfl rfl (one_of HT_.out (by kernel_rfl)) (by decide) (fun K hK => ?_)
            refine goes_ Try.func18 (by kernel_rfl) rfl #[.slice A0 l0.length c0] (by rfl) rfl rfl (by (try simp only [List.map_toArray, List.map_cons, List.map_nil]); first | done | rfl | (simp only [List.length_drop, List.length_take]; rfl)) ?_
            with_reducible refine (rafterref11_Set.calls k1 _ _ l0 t305 _ ?side1 ?side2 A18.out).mono ?_
            (case side1 => repeat (first | exact (Kd.C_below HR0.out HB.out) | (with_reducible refine Kd.C_alloc ?_ _) | (with_reducible refine Kd.C_drewN ?_ _) | (with_reducible refine Kd.C_drew ?_)))
            (case side2 => exact HC0.out)
            rintro e w35 ⟨v306, rfl, ho0, hb⟩
            refine ⟨_, rfl, ?_⟩
            have n0_ := Aside0.mk (Kd.R_below (by (with_reducible repeat (first | apply Kd.R_alloc | apply Kd.R_drewN | apply Kd.R_drew)); exact HO_7.out) hb)
            have n1_ := Aside0.mk (Kd.R_elder' (by (with_reducible repeat (first | apply Kd.R_alloc | apply Kd.R_drewN | apply Kd.R_drew)); exact HO304.out) (Kd.R_base ho0) hb)
            have n2_ := Aside0.mk (Kd.R_lower (Kd.R_newB (Kd.R_new' ho0 (Kd.R_lt (by (with_reducible repeat (first | apply Kd.R_alloc | apply Kd.R_drewN | apply Kd.R_drew)); exact HO304.out))) (g := gb293) (o := .cells #[.string a2_0, .int .i64 a2_1] 23 (0, 0)) (by (with_reducible repeat (first | refine blk_drewN ?_ _ | refine blk_drew ?_ | refine blk_alloc ?_ _)); exact BK293.out)) (below_size (by repeat (first | (with_reducible first | exact HB.out | apply below_alloc | apply pw_below_drewN | apply below_drew1 | refine below_set ?_ GE293.out) | exact HB.out))))
            have n3_ := Aside0.mk (blk_below (g := gb293) (o := .cells #[.string a2_0, .int .i64 a2_1] 23 (0, 0)) (by (with_reducible repeat (first | refine blk_drewN ?_ _ | refine blk_drew ?_ | refine blk_alloc ?_ _)); exact BK293.out) hb)
            have n4_ := Aside0.mk (below_step (by repeat (first | (with_reducible first | exact HB.out | apply below_alloc | apply pw_below_drewN | apply below_drew1 | refine below_set ?_ GE293.out) | exact HB.out)) hb)
            clear HO_7
            clear HO304
            clear BK293
            clear HB
            have HO_7 := n0_
            have HO304 := n1_
            have HO307 := n2_
            have BK293 := n3_
            have HB := n4_
            clear n0_ n1_ n2_ n3_ n4_
            (try clear hb)
            (try clear hb2)
            (try clear hk)
            (try clear hi)
            (try clear ho0)
            obtain ⟨Ao36, co36, eo36⟩ := Kd.R_slice HO304.out
            (first | subst eo36 | (injection eo36 with f1_ f2_ f3_; have f4_ := f1_.symm; have f5_ := f3_.symm; clear f1_ f2_ f3_; subst f4_; subst f5_))
            obtain ⟨Ao37, co37, eo37⟩ := Kd.R_slice HO307.out
            (first | subst eo37 | (injection eo37 with f1_ f2_ f3_; have f4_ := f1_.symm; have f5_ := f3_.symm; clear f1_ f2_ f3_; subst f4_; subst f5_))
            refine hK.out _ _ ⟨(blk_cell BK293.out 0).trans rfl, (blk_cell BK293.out 1).trans rfl⟩ (fun hHeld => ?_)
            clear hK K
            refine norm_ (a' := ?_) ?_ ?_
            rotate_left
            ·show Act.put _ (some 60) _ = _
             simp only [Act.put, List.setIfInBounds_toArray, List.set_cons_zero, List.set_cons_succ, i64_w, i32_w]
             rfl
            refine one_ (i := 6) (N := some 61) #[true, true, true, true, true, true, true, false, false, false, false, false, false, false, false, false, false, false, false, false, false, false, false, false, false, false, false, false, false, false, false, false, false, false, false, false, false] rfl rfl (one_of HT_.out (by kernel_rfl)) (by decide) (fun K hK => ?_)
            refine goes_ Try.func16 (by kernel_rfl) rfl #[.slice Ao36 t302.length co36, .slice Ao37 t305.length co37] (by rfl) rfl rfl (by (try simp only [List.map_toArray, List.map_cons, List.map_nil]); first | done | rfl | (simp only [List.length_drop, List.length_take]; rfl)) ?_
            with_reducible refine (rafterref11_Same.calls k1 _ _ t302 _ _ t305 true _ ?side1 ?side2 ?side3 ?side4 A19.out).mono ?_
            (case side1 => repeat (first | exact (Kd.R_reads' HO304.out).2.2 | (with_reducible refine Kd.C_alloc ?_ _) | (with_reducible refine Kd.C_drewN ?_ _) | (with_reducible refine Kd.C_drew ?_)))
            (case side2 => exact (Kd.R_reads' HO304.out).2.1)
            (case side3 => repeat (first | exact (Kd.R_reads' HO307.out).2.2 | (with_reducible refine Kd.C_alloc ?_ _) | (with_reducible refine Kd.C_drewN ?_ _) | (with_reducible refine Kd.C_drew ?_)))
            (case side4 => exact (Kd.R_reads' HO307.out).2.1)
            rintro e w' ⟨rfl, ⟨nd, rfl⟩⟩
            refine ⟨_, rfl, ?_⟩
            refine hK.out _ _ ⟨(blk_cell BK293.out 0).trans rfl, (blk_cell BK293.out 1).trans rfl⟩ (fun hHeld => ?_)
            clear hK K
            refine norm_ (a' := ?_) ?_ ?_
            rotate_left
            ·show Act.put _ (some 61) _ = _
             simp only [Act.put, List.setIfInBounds_toArray, List.set_cons_zero, List.set_cons_succ, i64_w, i32_w]
             rfl
            refine pq_ 7 (some 62) HT_ ?_; refine pq_ 8 (some 63) HT_ ?_; refine pq_ 9 (some 64) HT_ ?_; refine pq_ 12 (some 67) HT_ ?_; refine tq_ 10 (some 65) HT_ HW_ hHeld ?_; refine tq_ 13 (some 68) HT_ HW_ hHeld ?_
            refine one_ (i := 11) (N := some 66) #[true, true, true, true, true, true, true, true, true, true, true, true, true, true, false, false, false, false, false, false, false, false, false, false, false, false, false, false, false, false, false, false, false, false, false, false, false] rfl rfl (one_of HT_.out (by kernel_rfl)) (by decide) (fun K hK => ?_)
            refine goes_ Try.func19 (by kernel_rfl) rfl #[.slice A0 l0.length c0, .agg #[.string a2_0, .int .i64 a2_1]] (by rfl) rfl rfl (by (try simp only [List.map_toArray, List.map_cons, List.map_nil]); first | done | rfl | (simp only [List.length_drop, List.length_take]; rfl)) ?_
            with_reducible refine (ident_Has.calls k1 _ _ l0 a2_0 a2_1 t309 _ ?side1 ?side2 A21.out).mono ?_
            (case side1 => repeat (first | exact (Kd.C_below HR0.out (by repeat (first | (with_reducible first | exact HB.out | apply below_alloc | apply pw_below_drewN | apply below_drew1 | refine below_set ?_ GE293.out) | exact HB.out))) | (with_reducible refine Kd.C_alloc ?_ _) | (with_reducible refine Kd.C_drewN ?_ _) | (with_reducible refine Kd.C_drew ?_)))
            (case side2 => exact HC0.out)
            rintro e w38 ⟨rfl, hb⟩
            refine ⟨_, rfl, ?_⟩
            have n0_ := Aside0.mk (Kd.R_below (by (with_reducible repeat (first | apply Kd.R_alloc | apply Kd.R_drewN | apply Kd.R_drew)); exact HO_7.out) hb)
            have n1_ := Aside0.mk (Kd.R_below (by (with_reducible repeat (first | apply Kd.R_alloc | apply Kd.R_drewN | apply Kd.R_drew)); exact HO304.out) hb)
            have n2_ := Aside0.mk (Kd.R_below (by (with_reducible repeat (first | apply Kd.R_alloc | apply Kd.R_drewN | apply Kd.R_drew)); exact HO307.out) hb)
            have n3_ := Aside0.mk (blk_below (g := gb293) (o := .cells #[.string a2_0, .int .i64 a2_1] 23 (0, 0)) (by (with_reducible repeat (first | refine blk_drewN ?_ _ | refine blk_drew ?_ | refine blk_alloc ?_ _)); exact BK293.out) hb)
            have n4_ := Aside0.mk (below_step (by repeat (first | (with_reducible first | exact HB.out | apply below_alloc | apply pw_below_drewN | apply below_drew1 | refine below_set ?_ GE293.out) | exact HB.out)) hb)
            clear HO_7
            clear HO304
            clear HO307
            clear BK293
            clear HB
            have HO_7 := n0_
            have HO304 := n1_
            have HO307 := n2_
            have BK293 := n3_
            have HB := n4_
            clear n0_ n1_ n2_ n3_ n4_
            (try clear hb)
            (try clear hb2)
            (try clear hk)
            (try clear hi)
            refine hK.out _ _ ⟨(blk_cell BK293.out 0).trans rfl, (blk_cell BK293.out 1).trans rfl⟩ (fun hHeld => ?_)
            clear hK K
            refine norm_ (a' := ?_) ?_ ?_
            rotate_left
            ·show Act.put _ (some 66) _ = _
             simp only [Act.put, List.setIfInBounds_toArray, List.set_cons_zero, List.set_cons_succ, i64_w, i32_w]
             rfl
            refine one_ (i := 14) (N := some 69) #[true, true, true, true, true, true, true, true, true, true, true, true, true, true, true, false, false, false, false, false, false, false, false, false, false, false, false, false, false, false, false, false, false, false, false, false, false] rfl rfl (one_of HT_.out (by kernel_rfl)) (by decide) (fun K hK => ?_)
            refine goes_ Try.func20 (by kernel_rfl) rfl #[.slice A0 l0.length c0, .agg #[.string a2_0, .int .i64 a2_1]] (by rfl) rfl rfl (by (try simp only [List.map_toArray, List.map_cons, List.map_nil]); first | done | rfl | (simp only [List.length_drop, List.length_take]; rfl)) ?_
            with_reducible refine (rafterref11_Has.calls k1 _ _ l0 a2_0 a2_1 t310 _ ?side1 ?side2 A22.out).mono ?_
            (case side1 => repeat (first | exact (Kd.C_below HR0.out HB.out) | (with_reducible refine Kd.C_alloc ?_ _) | (with_reducible refine Kd.C_drewN ?_ _) | (with_reducible refine Kd.C_drew ?_)))
            (case side2 => exact HC0.out)
            rintro e w39 ⟨rfl, hb⟩
            refine ⟨_, rfl, ?_⟩
            have n0_ := Aside0.mk (Kd.R_below (by (with_reducible repeat (first | apply Kd.R_alloc | apply Kd.R_drewN | apply Kd.R_drew)); exact HO_7.out) hb)
            have n1_ := Aside0.mk (Kd.R_below (by (with_reducible repeat (first | apply Kd.R_alloc | apply Kd.R_drewN | apply Kd.R_drew)); exact HO304.out) hb)
            have n2_ := Aside0.mk (Kd.R_below (by (with_reducible repeat (first | apply Kd.R_alloc | apply Kd.R_drewN | apply Kd.R_drew)); exact HO307.out) hb)
            have n3_ := Aside0.mk (blk_below (g := gb293) (o := .cells #[.string a2_0, .int .i64 a2_1] 23 (0, 0)) (by (with_reducible repeat (first | refine blk_drewN ?_ _ | refine blk_drew ?_ | refine blk_alloc ?_ _)); exact BK293.out) hb)
            have n4_ := Aside0.mk (below_step (by repeat (first | (with_reducible first | exact HB.out | apply below_alloc | apply pw_below_drewN | apply below_drew1 | refine below_set ?_ GE293.out) | exact HB.out)) hb)
            clear HO_7
            clear HO304
            clear HO307
            clear BK293
            clear HB
            have HO_7 := n0_
            have HO304 := n1_
            have HO307 := n2_
            have BK293 := n3_
            have HB := n4_
            clear n0_ n1_ n2_ n3_ n4_
            (try clear hb)
            (try clear hb2)
            (try clear hk)
            (try clear hi)
            refine hK.out _ _ ⟨(blk_cell BK293.out 0).trans rfl, (blk_cell BK293.out 1).trans rfl⟩ (fun hHeld => ?_)
            clear hK K
            refine norm_ (a' := ?_) ?_ ?_
            rotate_left
            ·show Act.put _ (some 69) _ = _
             simp only [Act.put, List.setIfInBounds_toArray, List.set_cons_zero, List.set_cons_succ, i64_w, i32_w]
             rfl
            refine pq_ 15 (some 70) HT_ ?_; refine pq_ 16 (some 71) HT_ ?_; refine pq_ 17 (some 72) HT_ ?_; refine pq_ 18 (some 73) HT_ ?_; refine pq_ 19 (some 74) HT_ ?_; refine pq_ 21 (some 76) HT_ ?_; refine pq_ 22 (some 77) HT_ ?_
            refine one_ (i := 20) (N := some 75) #[true, true, true, true, true, true, true, true, true, true, true, true, true, true, true, true, true, true, true, true, true, true, true, false, false, false, false, false, false, false, false, false, false, false, false, false, false] rfl rfl (one_of HT_.out (by kernel_rfl)) (by decide) (fun K hK => ?_)
            refine goes_ Try.func21 (by kernel_rfl) rfl #[.slice A0 l0.length c0, .slice A1 l1.length c1] (by rfl) rfl rfl (by (try simp only [List.map_toArray, List.map_cons, List.map_nil]); first | done | rfl | (simp only [List.length_drop, List.length_take]; rfl)) ?_
            with_reducible refine (ident_Meet.calls k1 _ _ l0 _ _ l1 t311 _ ?side1 ?side2 ?side3 ?side4 A24.out).mono ?_
            (case side1 => repeat (first | exact (Kd.C_below HR0.out HB.out) | (with_reducible refine Kd.C_alloc ?_ _) | (with_reducible refine Kd.C_drewN ?_ _) | (with_reducible refine Kd.C_drew ?_)))
            (case side2 => exact HC0.out)
            (case side3 => repeat (first | exact (Kd.C_below HR1.out HB.out) | (with_reducible refine Kd.C_alloc ?_ _) | (with_reducible refine Kd.C_drewN ?_ _) | (with_reducible refine Kd.C_drew ?_)))
            (case side4 => exact HC1.out)
            rintro e w40 ⟨rfl, hb⟩
            refine ⟨_, rfl, ?_⟩
            have n0_ := Aside0.mk (Kd.R_below (by (with_reducible repeat (first | apply Kd.R_alloc | apply Kd.R_drewN | apply Kd.R_drew)); exact HO_7.out) hb)
            have n1_ := Aside0.mk (Kd.R_below (by (with_reducible repeat (first | apply Kd.R_alloc | apply Kd.R_drewN | apply Kd.R_drew)); exact HO304.out) hb)
            have n2_ := Aside0.mk (Kd.R_below (by (with_reducible repeat (first | apply Kd.R_alloc | apply Kd.R_drewN | apply Kd.R_drew)); exact HO307.out) hb)
            have n3_ := Aside0.mk (blk_below (g := gb293) (o := .cells #[.string a2_0, .int .i64 a2_1] 23 (0, 0)) (by (with_reducible repeat (first | refine blk_drewN ?_ _ | refine blk_drew ?_ | refine blk_alloc ?_ _)); exact BK293.out) hb)
            have n4_ := Aside0.mk (below_step (by repeat (first | (with_reducible first | exact HB.out | apply below_alloc | apply pw_below_drewN | apply below_drew1 | refine below_set ?_ GE293.out) | exact HB.out)) hb)
            clear HO_7
            clear HO304
            clear HO307
            clear BK293
            clear HB
            have HO_7 := n0_
            have HO304 := n1_
            have HO307 := n2_
            have BK293 := n3_
            have HB := n4_
            clear n0_ n1_ n2_ n3_ n4_
            (try clear hb)
            (try clear hb2)
            (try clear hk)
            (try clear hi)
            refine hK.out _ _ ⟨(blk_cell BK293.out 0).trans rfl, (blk_cell BK293.out 1).trans rfl⟩ (fun hHeld => ?_)
            clear hK K
            refine norm_ (a' := ?_) ?_ ?_
            rotate_left
            ·show Act.put _ (some 75) _ = _
             simp only [Act.put, List.setIfInBounds_toArray, List.set_cons_zero, List.set_cons_succ, i64_w, i32_w]
             rfl
            refine one_ (i := 23) (N := some 78) #[true, true, true, true, true, true, true, true, true, true, true, true, true, true, true, true, true, true, true, true, true, true, true, true, false, false, false, false, false, false, false, false, false, false, false, false, false] rfl rfl (one_of HT_.out (by kernel_rfl)) (by decide) (fun K hK => ?_)
            refine goes_ Try.func22 (by kernel_rfl) rfl #[.slice A0 l0.length c0, .slice A1 l1.length c1] (by rfl) rfl rfl (by (try simp only [List.map_toArray, List.map_cons, List.map_nil]); first | done | rfl | (simp only [List.length_drop, List.length_take]; rfl)) ?_
            with_reducible refine (rafterref11_Meet.calls k1 _ _ l0 _ _ l1 t312 _ ?side1 ?side2 ?side3 ?side4 A25.out).mono ?_
            (case side1 => repeat (first | exact (Kd.C_below HR0.out HB.out) | (with_reducible refine Kd.C_alloc ?_ _) | (with_reducible refine Kd.C_drewN ?_ _) | (with_reducible refine Kd.C_drew ?_)))
            (case side2 => exact HC0.out)
            (case side3 => repeat (first | exact (Kd.C_below HR1.out HB.out) | (with_reducible refine Kd.C_alloc ?_ _) | (with_reducible refine Kd.C_drewN ?_ _) | (with_reducible refine Kd.C_drew ?_)))
            (case side4 => exact HC1.out)
            rintro e w41 ⟨rfl, hb⟩
            refine ⟨_, rfl, ?_⟩
            have n0_ := Aside0.mk (Kd.R_below (by (with_reducible repeat (first | apply Kd.R_alloc | apply Kd.R_drewN | apply Kd.R_drew)); exact HO_7.out) hb)
            have n1_ := Aside0.mk (Kd.R_below (by (with_reducible repeat (first | apply Kd.R_alloc | apply Kd.R_drewN | apply Kd.R_drew)); exact HO304.out) hb)
            have n2_ := Aside0.mk (Kd.R_below (by (with_reducible repeat (first | apply Kd.R_alloc | apply Kd.R_drewN | apply Kd.R_drew)); exact HO307.out) hb)
            have n3_ := Aside0.mk (blk_below (g := gb293) (o := .cells #[.string a2_0, .int .i64 a2_1] 23 (0, 0)) (by (with_reducible repeat (first | refine blk_drewN ?_ _ | refine blk_drew ?_ | refine blk_alloc ?_ _)); exact BK293.out) hb)
            have n4_ := Aside0.mk (below_step (by repeat (first | (with_reducible first | exact HB.out | apply below_alloc | apply pw_below_drewN | apply below_drew1 | refine below_set ?_ GE293.out) | exact HB.out)) hb)
            clear HO_7
            clear HO304
            clear HO307
            clear BK293
            clear HB
            have HO_7 := n0_
            have HO304 := n1_
            have HO307 := n2_
            have BK293 := n3_
            have HB := n4_
            clear n0_ n1_ n2_ n3_ n4_
            (try clear hb)
            (try clear hb2)
            (try clear hk)
            (try clear hi)
            refine hK.out _ _ ⟨(blk_cell BK293.out 0).trans rfl, (blk_cell BK293.out 1).trans rfl⟩ (fun hHeld => ?_)
            clear hK K
            refine norm_ (a' := ?_) ?_ ?_
            rotate_left
            ·show Act.put _ (some 78) _ = _
             simp only [Act.put, List.setIfInBounds_toArray, List.set_cons_zero, List.set_cons_succ, i64_w, i32_w]
             rfl
            refine pq_ 24 (some 79) HT_ ?_; refine pq_ 25 (some 80) HT_ ?_; refine pq_ 26 (some 81) HT_ ?_; refine pq_ 27 (some 82) HT_ ?_; refine pq_ 29 (some 84) HT_ ?_
            refine one_ (i := 28) (N := some 83) #[true, true, true, true, true, true, true, true, true, true, true, true, true, true, true, true, true, true, true, true, true, true, true, true, true, true, true, true, true, true, false, false, false, false, false, false, false] rfl rfl (one_of HT_.out (by kernel_rfl)) (by decide) (fun K hK => ?_)
            refine goes_ Try.func24 (by kernel_rfl) rfl #[.slice A0 l0.length c0] (by rfl) rfl rfl (by (try simp only [List.map_toArray, List.map_cons, List.map_nil]); first | done | rfl | (simp only [List.length_drop, List.length_take]; rfl)) ?_
            with_reducible refine (ident_Patches.calls k1 _ _ l0 t313 _ ?side1 ?side2 A27.out).mono ?_
            (case side1 => repeat (first | exact (Kd.C_below HR0.out HB.out) | (with_reducible refine Kd.C_alloc ?_ _) | (with_reducible refine Kd.C_drewN ?_ _) | (with_reducible refine Kd.C_drew ?_)))
            (case side2 => exact HC0.out)
            rintro e w42 ⟨v314, rfl, ho0, hb⟩
            refine ⟨_, rfl, ?_⟩
            have n0_ := Aside0.mk (Kd.R_elder' (by (with_reducible repeat (first | apply Kd.R_alloc | apply Kd.R_drewN | apply Kd.R_drew)); exact HO_7.out) (Kd.R_base ho0) hb)
            have n1_ := Aside0.mk (Kd.R_below (by (with_reducible repeat (first | apply Kd.R_alloc | apply Kd.R_drewN | apply Kd.R_drew)); exact HO304.out) hb)
            have n2_ := Aside0.mk (Kd.R_below (by (with_reducible repeat (first | apply Kd.R_alloc | apply Kd.R_drewN | apply Kd.R_drew)); exact HO307.out) hb)
            have n3_ := Aside0.mk (Kd.R_lower (Kd.R_new' ho0 (Kd.R_lt (by (with_reducible repeat (first | apply Kd.R_alloc | apply Kd.R_drewN | apply Kd.R_drew)); exact HO_7.out))) (below_size (by repeat (first | (with_reducible first | exact HB.out | apply below_alloc | apply pw_below_drewN | apply below_drew1 | refine below_set ?_ GE293.out) | exact HB.out))))
            have n4_ := Aside0.mk (blk_below (g := gb293) (o := .cells #[.string a2_0, .int .i64 a2_1] 23 (0, 0)) (by (with_reducible repeat (first | refine blk_drewN ?_ _ | refine blk_drew ?_ | refine blk_alloc ?_ _)); exact BK293.out) hb)
            have n5_ := Aside0.mk (below_step (by repeat (first | (with_reducible first | exact HB.out | apply below_alloc | apply pw_below_drewN | apply below_drew1 | refine below_set ?_ GE293.out) | exact HB.out)) hb)
            clear HO_7
            clear HO304
            clear HO307
            clear BK293
            clear HB
            have HO_7 := n0_
            have HO304 := n1_
            have HO307 := n2_
            have HO315 := n3_
            have BK293 := n4_
            have HB := n5_
            clear n0_ n1_ n2_ n3_ n4_ n5_
            (try clear hb)
            (try clear hb2)
            (try clear hk)
            (try clear hi)
            (try clear ho0)
            obtain ⟨Ao43, co43, eo43⟩ := Kd.R_slice HO_7.out
            (first | subst eo43 | (injection eo43 with f1_ f2_ f3_; have f4_ := f1_.symm; have f5_ := f3_.symm; clear f1_ f2_ f3_; subst f4_; subst f5_))
            refine hK.out _ _ ⟨(blk_cell BK293.out 0).trans rfl, (blk_cell BK293.out 1).trans rfl⟩ (fun hHeld => ?_)
            clear hK K
            refine norm_ (a' := ?_) ?_ ?_
            rotate_left
            ·show Act.put _ (some 83) _ = _
             simp only [Act.put, List.setIfInBounds_toArray, List.set_cons_zero, List.set_cons_succ, i64_w, i32_w]
             rfl
            refine one_ (i := 30) (N := some 85) #[true, true, true, true, true, true, true, true, true, true, true, true, true, true, true, true, true, true, true, true, true, true, true, true, true, true, true, true, true, true, true, false, false, false, false, false, false] rfl rfl (one_of HT_.out (by kernel_rfl)) (by decide) (fun K hK => ?_)
            refine goes_ Try.func25 (by kernel_rfl) rfl #[.slice Ao43 x7_1.length co43] (by rfl) rfl rfl (by (try simp only [List.map_toArray, List.map_cons, List.map_nil]); first | done | rfl | (simp only [List.length_drop, List.length_take]; rfl)) ?_
            with_reducible refine (rafterref02_Set.calls k1 _ _ x7_1 t316 _ ?side1 ?side2 A28.out).mono ?_
            (case side1 => repeat (first | exact (Kd.R_reads' HO_7.out).2.2 | (with_reducible refine Kd.C_alloc ?_ _) | (with_reducible refine Kd.C_drewN ?_ _) | (with_reducible refine Kd.C_drew ?_)))
            (case side2 => exact (Kd.R_reads' HO_7.out).2.1)
            rintro e w44 ⟨v317, rfl, ho0, hb⟩
            refine ⟨_, rfl, ?_⟩
            have n0_ := Aside0.mk (Kd.R_elder' (by (with_reducible repeat (first | apply Kd.R_alloc | apply Kd.R_drewN | apply Kd.R_drew)); exact HO_7.out) (Kd.R_base ho0) hb)
            have n1_ := Aside0.mk (Kd.R_below (by (with_reducible repeat (first | apply Kd.R_alloc | apply Kd.R_drewN | apply Kd.R_drew)); exact HO304.out) hb)
            have n2_ := Aside0.mk (Kd.R_below (by (with_reducible repeat (first | apply Kd.R_alloc | apply Kd.R_drewN | apply Kd.R_drew)); exact HO307.out) hb)
            have n3_ := Aside0.mk (Kd.R_elder' (by (with_reducible repeat (first | apply Kd.R_alloc | apply Kd.R_drewN | apply Kd.R_drew)); exact HO315.out) (Kd.R_base ho0) hb)
            have n4_ := Aside0.mk (Kd.R_lower (Kd.R_new' (Kd.R_new' ho0 (Kd.R_lt (by (with_reducible repeat (first | apply Kd.R_alloc | apply Kd.R_drewN | apply Kd.R_drew)); exact HO_7.out))) (Kd.R_lt (by (with_reducible repeat (first | apply Kd.R_alloc | apply Kd.R_drewN | apply Kd.R_drew)); exact HO315.out))) (below_size (by repeat (first | (with_reducible first | exact HB.out | apply below_alloc | apply pw_below_drewN | apply below_drew1 | refine below_set ?_ GE293.out) | exact HB.out))))
            have n5_ := Aside0.mk (blk_below (g := gb293) (o := .cells #[.string a2_0, .int .i64 a2_1] 23 (0, 0)) (by (with_reducible repeat (first | refine blk_drewN ?_ _ | refine blk_drew ?_ | refine blk_alloc ?_ _)); exact BK293.out) hb)
            have n6_ := Aside0.mk (below_step (by repeat (first | (with_reducible first | exact HB.out | apply below_alloc | apply pw_below_drewN | apply below_drew1 | refine below_set ?_ GE293.out) | exact HB.out)) hb)
            clear HO_7
            clear HO304
            clear HO307
            clear HO315
            clear BK293
            clear HB
            have HO_7 := n0_
            have HO304 := n1_
            have HO307 := n2_
            have HO315 := n3_
            have HO318 := n4_
            have BK293 := n5_
            have HB := n6_
            clear n0_ n1_ n2_ n3_ n4_ n5_ n6_
            (try clear hb)
            (try clear hb2)
            (try clear hk)
            (try clear hi)
            (try clear ho0)
            obtain ⟨Ao45, co45, eo45⟩ := Kd.R_slice HO315.out
            (first | subst eo45 | (injection eo45 with f1_ f2_ f3_; have f4_ := f1_.symm; have f5_ := f3_.symm; clear f1_ f2_ f3_; subst f4_; subst f5_))
            obtain ⟨Ao46, co46, eo46⟩ := Kd.R_slice HO318.out
            (first | subst eo46 | (injection eo46 with f1_ f2_ f3_; have f4_ := f1_.symm; have f5_ := f3_.symm; clear f1_ f2_ f3_; subst f4_; subst f5_))
            refine hK.out _ _ ⟨(blk_cell BK293.out 0).trans rfl, (blk_cell BK293.out 1).trans rfl⟩ (fun hHeld => ?_)
            clear hK K
            refine norm_ (a' := ?_) ?_ ?_
            rotate_left
            ·show Act.put _ (some 85) _ = _
             simp only [Act.put, List.setIfInBounds_toArray, List.set_cons_zero, List.set_cons_succ, i64_w, i32_w]
             rfl
            refine one_ (i := 31) (N := some 86) #[true, true, true, true, true, true, true, true, true, true, true, true, true, true, true, true, true, true, true, true, true, true, true, true, true, true, true, true, true, true, true, true, false, false, false, false, false] rfl rfl (one_of HT_.out (by kernel_rfl)) (by decide) (fun K hK => ?_)
            refine goes_ Try.func23 (by kernel_rfl) rfl #[.slice Ao45 t313.length co45, .slice Ao46 t316.length co46] (by rfl) rfl rfl (by (try simp only [List.map_toArray, List.map_cons, List.map_nil]); first | done | rfl | (simp only [List.length_drop, List.length_take]; rfl)) ?_
            with_reducible refine (rafterref01_Same.calls k1 _ _ t313 _ _ t316 true _ ?side1 ?side2 ?side3 ?side4 A29.out).mono ?_
            (case side1 => repeat (first | exact (Kd.R_reads' HO315.out).2.2 | (with_reducible refine Kd.C_alloc ?_ _) | (with_reducible refine Kd.C_drewN ?_ _) | (with_reducible refine Kd.C_drew ?_)))
            (case side2 => exact (Kd.R_reads' HO315.out).2.1)
            (case side3 => repeat (first | exact (Kd.R_reads' HO318.out).2.2 | (with_reducible refine Kd.C_alloc ?_ _) | (with_reducible refine Kd.C_drewN ?_ _) | (with_reducible refine Kd.C_drew ?_)))
            (case side4 => exact (Kd.R_reads' HO318.out).2.1)
            rintro e w' ⟨rfl, ⟨nd, rfl⟩⟩
            refine ⟨_, rfl, ?_⟩
            refine hK.out _ _ ⟨(blk_cell BK293.out 0).trans rfl, (blk_cell BK293.out 1).trans rfl⟩ (fun hHeld => ?_)
            clear hK K
            refine norm_ (a' := ?_) ?_ ?_
            rotate_left
            ·show Act.put _ (some 86) _ = _
             simp only [Act.put, List.setIfInBounds_toArray, List.set_cons_zero, List.set_cons_succ, i64_w, i32_w]
             rfl
            refine pq_ 32 (some 87) HT_ ?_; refine pq_ 33 (some 88) HT_ ?_; refine pq_ 34 (some 89) HT_ ?_; refine pq_ 35 (some 90) HT_ ?_; refine pq_ 36 (some 6) HT_ ?_
            refine done_ (done_of HT_.out (by kernel_rfl)) ?_
            try go_wp2
            go_ret
            exact ⟨by first | rfl | (simp [errW_none, errW_some] <;> rfl) | (simp [*, errW_none, errW_some] <;> rfl), by repeat (first | (with_reducible first | exact HB.out | apply below_alloc | apply pw_below_drewN | apply below_drew1 | refine below_set ?_ GE293.out) | exact HB.out)⟩
           ·replace c30 := Bool.eq_false_iff.mpr c30
            subst c30
            have H1 : (some false) = some true := by rw [if_neg (show ¬ (false = true) by decide)] at H; exact H
            clear H
            have H := H1
            clear H1
            exact absurd (Option.some.inj H) (by decide)
          ·rw [if_neg c26] at H
           have c26b0 : (t311 == t312) = false := by simpa using c26
           (try (have c26b1 : decide (t311 = t312) = false := by simpa using c26))
           (try (have c26b2 : (t311 == t312) = false := by simpa using c26))
           (try (have c26b3 : ¬ (t311 = t312) := by simpa using c26))
           clear c26
           exact absurd (Option.some.inj H) (by decide)
         ·rw [if_neg c23] at H
          have c23b0 : (t309 == t310) = false := by simpa using c23
          (try (have c23b1 : decide (t309 = t310) = false := by simpa using c23))
          (try (have c23b2 : (t309 == t310) = false := by simpa using c23))
          (try (have c23b3 : ¬ (t309 = t310) := by simpa using c23))
          clear c23
          exact absurd (Option.some.inj H) (by decide)
        ·replace c20 := Bool.eq_false_iff.mpr c20
         subst c20
         have H1 : (some false) = some true := by rw [if_neg (show ¬ (false = true) by decide)] at H; exact H
         clear H
         have H := H1
         clear H1
         exact absurd (Option.some.inj H) (by decide)
       ·replace c16 := Bool.eq_false_iff.mpr c16
        subst c16
        have H1 : (some false) = some true := by rw [if_neg (show ¬ (false = true) by decide)] at H; exact H
        clear H
        have H := H1
        clear H1
        exact absurd (Option.some.inj H) (by decide)
      ·rw [if_neg c14] at H
       have c14b0 : ((l0.length : Int) == 0) = false := beq_eq_false_iff_ne.mpr c14
       have c14b1 : ((l0.length : Int) != 0) = true := bne_iff_ne.mpr c14
       have c14b2 : ¬ (l0 = []) := fun h_ => c14 (by rw [h_]; rfl)
       by_cases c47 : 0 < (l0.length : Int)
       ·rw [if_pos c47] at H
        have c47b0 : decide (0 < (l0.length : Int)) = true := decide_eq_true c47
        have c47b1 : decide (0 < l0.length) = true := decide_eq_true (by omega)
        clear c47
        replace H := Option.bind_eq_some_iff.mp H
        obtain ⟨t321, A480, H⟩ := H
        replace H : ((rafterref11_Less.f ((rd_T23 l0 0).f0) ((rd_T23 l0 0).f1) a2_0 a2_1).bind fun t323 => ((rafterlaw11_awake.f k1).bind fun t324 => (if t324 = true then ((ident_Set.f l0).bind fun t325 => ((rafterref11_Set.f k1 l0).bind fun t328 => ((rafterref11_Same.f k1 t325 t328).bind fun t331 => (if t331 = true then ((ident_Has.f k1 l0 a2_0 a2_1).bind fun t332 => ((rafterref11_Has.f k1 l0 a2_0 a2_1).bind fun t333 => (if (t332 == t333) = true then ((ident_Meet.f k1 l0 l1).bind fun t334 => ((rafterref11_Meet.f k1 l0 l1).bind fun t335 => (if (t334 == t335) = true then ((ident_Patches.f k1 l0).bind fun t336 => ((rafterref02_Set.f k1 x7_1).bind fun t339 => ((rafterref01_Same.f k1 t336 t339).bind fun t342 => (if t342 = true then (some (t321 == t323)) else (some false))))) else (some false)))) else (some false)))) else (some false))))) else (some false)))) = some true := H
        have A48 := Aside0.mk A480
        clear A480
        replace H := Option.bind_eq_some_iff.mp H
        obtain ⟨t323, A490, H⟩ := H
        replace H : ((rafterlaw11_awake.f k1).bind fun t324 => (if t324 = true then ((ident_Set.f l0).bind fun t325 => ((rafterref11_Set.f k1 l0).bind fun t328 => ((rafterref11_Same.f k1 t325 t328).bind fun t331 => (if t331 = true then ((ident_Has.f k1 l0 a2_0 a2_1).bind fun t332 => ((rafterref11_Has.f k1 l0 a2_0 a2_1).bind fun t333 => (if (t332 == t333) = true then ((ident_Meet.f k1 l0 l1).bind fun t334 => ((rafterref11_Meet.f k1 l0 l1).bind fun t335 => (if (t334 == t335) = true then ((ident_Patches.f k1 l0).bind fun t336 => ((rafterref02_Set.f k1 x7_1).bind fun t339 => ((rafterref01_Same.f k1 t336 t339).bind fun t342 => (if t342 = true then (some (t321 == t323)) else (some false))))) else (some false)))) else (some false)))) else (some false))))) else (some false))) = some true := H
        have A49 := Aside0.mk A490
        clear A490
        replace H := Option.bind_eq_some_iff.mp H
        obtain ⟨t324, A500, H⟩ := H
        replace H : (if t324 = true then ((ident_Set.f l0).bind fun t325 => ((rafterref11_Set.f k1 l0).bind fun t328 => ((rafterref11_Same.f k1 t325 t328).bind fun t331 => (if t331 = true then ((ident_Has.f k1 l0 a2_0 a2_1).bind fun t332 => ((rafterref11_Has.f k1 l0 a2_0 a2_1).bind fun t333 => (if (t332 == t333) = true then ((ident_Meet.f k1 l0 l1).bind fun t334 => ((rafterref11_Meet.f k1 l0 l1).bind fun t335 => (if (t334 == t335) = true then ((ident_Patches.f k1 l0).bind fun t336 => ((rafterref02_Set.f k1 x7_1).bind fun t339 => ((rafterref01_Same.f k1 t336 t339).bind fun t342 => (if t342 = true then (some (t321 == t323)) else (some false))))) else (some false)))) else (some false)))) else (some false))))) else (some false)) = some true := H
        have A50 := Aside0.mk A500
        clear A500
        by_cases c51 : t324 = true
        ·subst c51
         have H1 : ((ident_Set.f l0).bind fun t325 => ((rafterref11_Set.f k1 l0).bind fun t328 => ((rafterref11_Same.f k1 t325 t328).bind fun t331 => (if t331 = true then ((ident_Has.f k1 l0 a2_0 a2_1).bind fun t332 => ((rafterref11_Has.f k1 l0 a2_0 a2_1).bind fun t333 => (if (t332 == t333) = true then ((ident_Meet.f k1 l0 l1).bind fun t334 => ((rafterref11_Meet.f k1 l0 l1).bind fun t335 => (if (t334 == t335) = true then ((ident_Patches.f k1 l0).bind fun t336 => ((rafterref02_Set.f k1 x7_1).bind fun t339 => ((rafterref01_Same.f k1 t336 t339).bind fun t342 => (if t342 = true then (some (t321 == t323)) else (some false))))) else (some false)))) else (some false)))) else (some false))))) = some true := by rw [if_pos rfl] at H; exact H
         clear H
         have H := H1
         clear H1
         replace H := Option.bind_eq_some_iff.mp H
         obtain ⟨t325, A520, H⟩ := H
         replace H : ((rafterref11_Set.f k1 l0).bind fun t328 => ((rafterref11_Same.f k1 t325 t328).bind fun t331 => (if t331 = true then ((ident_Has.f k1 l0 a2_0 a2_1).bind fun t332 => ((rafterref11_Has.f k1 l0 a2_0 a2_1).bind fun t333 => (if (t332 == t333) = true then ((ident_Meet.f k1 l0 l1).bind fun t334 => ((rafterref11_Meet.f k1 l0 l1).bind fun t335 => (if (t334 == t335) = true then ((ident_Patches.f k1 l0).bind fun t336 => ((rafterref02_Set.f k1 x7_1).bind fun t339 => ((rafterref01_Same.f k1 t336 t339).bind fun t342 => (if t342 = true then (some (t321 == t323)) else (some false))))) else (some false)))) else (some false)))) else (some false)))) = some true := H
         have A52 := Aside0.mk A520
         clear A520
         replace H := Option.bind_eq_some_iff.mp H
         obtain ⟨t328, A530, H⟩ := H
         replace H : ((rafterref11_Same.f k1 t325 t328).bind fun t331 => (if t331 = true then ((ident_Has.f k1 l0 a2_0 a2_1).bind fun t332 => ((rafterref11_Has.f k1 l0 a2_0 a2_1).bind fun t333 => (if (t332 == t333) = true then ((ident_Meet.f k1 l0 l1).bind fun t334 => ((rafterref11_Meet.f k1 l0 l1).bind fun t335 => (if (t334 == t335) = true then ((ident_Patches.f k1 l0).bind fun t336 => ((rafterref02_Set.f k1 x7_1).bind fun t339 => ((rafterref01_Same.f k1 t336 t339).bind fun t342 => (if t342 = true then (some (t321 == t323)) else (some false))))) else (some false)))) else (some false)))) else (some false))) = some true := H
         have A53 := Aside0.mk A530
         clear A530
         replace H := Option.bind_eq_some_iff.mp H
         obtain ⟨t331, A540, H⟩ := H
         replace H : (if t331 = true then ((ident_Has.f k1 l0 a2_0 a2_1).bind fun t332 => ((rafterref11_Has.f k1 l0 a2_0 a2_1).bind fun t333 => (if (t332 == t333) = true then ((ident_Meet.f k1 l0 l1).bind fun t334 => ((rafterref11_Meet.f k1 l0 l1).bind fun t335 => (if (t334 == t335) = true then ((ident_Patches.f k1 l0).bind fun t336 => ((rafterref02_Set.f k1 x7_1).bind fun t339 => ((rafterref01_Same.f k1 t336 t339).bind fun t342 => (if t342 = true then (some (t321 == t323)) else (some false))))) else (some false)))) else (some false)))) else (some false)) = some true := H
         have A54 := Aside0.mk A540
         clear A540
         by_cases c55 : t331 = true
         ·subst c55
          have H1 : ((ident_Has.f k1 l0 a2_0 a2_1).bind fun t332 => ((rafterref11_Has.f k1 l0 a2_0 a2_1).bind fun t333 => (if (t332 == t333) = true then ((ident_Meet.f k1 l0 l1).bind fun t334 => ((rafterref11_Meet.f k1 l0 l1).bind fun t335 => (if (t334 == t335) = true then ((ident_Patches.f k1 l0).bind fun t336 => ((rafterref02_Set.f k1 x7_1).bind fun t339 => ((rafterref01_Same.f k1 t336 t339).bind fun t342 => (if t342 = true then (some (t321 == t323)) else (some false))))) else (some false)))) else (some false)))) = some true := by rw [if_pos rfl] at H; exact H
          clear H
          have H := H1
          clear H1
          replace H := Option.bind_eq_some_iff.mp H
          obtain ⟨t332, A560, H⟩ := H
          replace H : ((rafterref11_Has.f k1 l0 a2_0 a2_1).bind fun t333 => (if (t332 == t333) = true then ((ident_Meet.f k1 l0 l1).bind fun t334 => ((rafterref11_Meet.f k1 l0 l1).bind fun t335 => (if (t334 == t335) = true then ((ident_Patches.f k1 l0).bind fun t336 => ((rafterref02_Set.f k1 x7_1).bind fun t339 => ((rafterref01_Same.f k1 t336 t339).bind fun t342 => (if t342 = true then (some (t321 == t323)) else (some false))))) else (some false)))) else (some false))) = some true := H
          have A56 := Aside0.mk A560
          clear A560
          replace H := Option.bind_eq_some_iff.mp H
          obtain ⟨t333, A570, H⟩ := H
          replace H : (if (t332 == t333) = true then ((ident_Meet.f k1 l0 l1).bind fun t334 => ((rafterref11_Meet.f k1 l0 l1).bind fun t335 => (if (t334 == t335) = true then ((ident_Patches.f k1 l0).bind fun t336 => ((rafterref02_Set.f k1 x7_1).bind fun t339 => ((rafterref01_Same.f k1 t336 t339).bind fun t342 => (if t342 = true then (some (t321 == t323)) else (some false))))) else (some false)))) else (some false)) = some true := H
          have A57 := Aside0.mk A570
          clear A570
          by_cases c58 : (t332 == t333) = true
          ·rw [if_pos c58] at H
           have c58b0 : (t332 == t333) = true := c58
           (try (have c58b1 : decide (t332 = t333) = true := by simpa using c58))
           (try (have c58b2 : (t332 == t333) = true := by simpa using c58))
           clear c58
           replace H := Option.bind_eq_some_iff.mp H
           obtain ⟨t334, A590, H⟩ := H
           replace H : ((rafterref11_Meet.f k1 l0 l1).bind fun t335 => (if (t334 == t335) = true then ((ident_Patches.f k1 l0).bind fun t336 => ((rafterref02_Set.f k1 x7_1).bind fun t339 => ((rafterref01_Same.f k1 t336 t339).bind fun t342 => (if t342 = true then (some (t321 == t323)) else (some false))))) else (some false))) = some true := H
           have A59 := Aside0.mk A590
           clear A590
           replace H := Option.bind_eq_some_iff.mp H
           obtain ⟨t335, A600, H⟩ := H
           replace H : (if (t334 == t335) = true then ((ident_Patches.f k1 l0).bind fun t336 => ((rafterref02_Set.f k1 x7_1).bind fun t339 => ((rafterref01_Same.f k1 t336 t339).bind fun t342 => (if t342 = true then (some (t321 == t323)) else (some false))))) else (some false)) = some true := H
           have A60 := Aside0.mk A600
           clear A600
           by_cases c61 : (t334 == t335) = true
           ·rw [if_pos c61] at H
            have c61b0 : (t334 == t335) = true := c61
            (try (have c61b1 : decide (t334 = t335) = true := by simpa using c61))
            (try (have c61b2 : (t334 == t335) = true := by simpa using c61))
            clear c61
            replace H := Option.bind_eq_some_iff.mp H
            obtain ⟨t336, A620, H⟩ := H
            replace H : ((rafterref02_Set.f k1 x7_1).bind fun t339 => ((rafterref01_Same.f k1 t336 t339).bind fun t342 => (if t342 = true then (some (t321 == t323)) else (some false)))) = some true := H
            have A62 := Aside0.mk A620
            clear A620
            replace H := Option.bind_eq_some_iff.mp H
            obtain ⟨t339, A630, H⟩ := H
            replace H : ((rafterref01_Same.f k1 t336 t339).bind fun t342 => (if t342 = true then (some (t321 == t323)) else (some false))) = some true := H
            have A63 := Aside0.mk A630
            clear A630
            replace H := Option.bind_eq_some_iff.mp H
            obtain ⟨t342, A640, H⟩ := H
            replace H : (if t342 = true then (some (t321 == t323)) else (some false)) = some true := H
            have A64 := Aside0.mk A640
            clear A640
            by_cases c65 : t342 = true
            ·subst c65
             have H1 : (some (t321 == t323)) = some true := by rw [if_pos rfl] at H; exact H
             clear H
             have H := H1
             clear H1
             have HQ_ := Option.some.inj H
             clear H
             try go_wp2
             have n0_ := Aside0.mk (Kd.R_drew HO_7.out)
             have n1_ := Aside0.mk (blk_drew BK293.out)
             have n2_ := Aside0.mk (below_drew1 HB.out)
             clear HO_7
             clear BK293
             clear HB
             have HO_7 := n0_
             have BK293 := n1_
             have HB := n2_
             clear n0_ n1_ n2_
             have p320 : 0 ≤ (0 : Int) := (by omega)
             have q320 : 0 < (l0.length : Int) := of_decide_eq_true (by first | (with_reducible assumption) | assumption)
             obtain ⟨ad320, e320, hx320_0, hx320_1⟩ := at_T23 HR0.out 0 p320 q320
             have hw320_1 := hx320_1
             (try rw [show ((0 : Int)).toNat = 0 from rfl] at hw320_1)
             (try rw [show 0 * 2 = 0 from rfl] at hw320_1)
             (try rw [Addr.add_zero'] at hw320_1)
             have hw320_0 := hx320_0
             (try rw [show ((0 : Int)).toNat = 0 from rfl] at hw320_0)
             (try rw [show 0 * 2 = 0 from rfl] at hw320_0)
             (try rw [Addr.add_zero'] at hw320_0)
             cases e320
             have qi320 : (0 < l0.length) = True := eq_true (by omega)
             (try rw [show ((0 : Int)).toNat = 0 from rfl] at hx320_0)
             (try rw [show 0 * 2 = 0 from rfl] at hx320_0)
             (try rw [Addr.add_zero'] at hx320_0)
             (try rw [show ((0 : Int)).toNat = 0 from rfl] at hx320_1)
             (try rw [show 0 * 2 = 0 from rfl] at hx320_1)
             (try rw [Addr.add_zero'] at hx320_1)
             replace hx320_0 := (HB.out.cell (World.block_lt_of_cell? w _ hx320_0)).trans hx320_0
             replace hx320_1 := (HB.out.cell (World.block_lt_of_cell? w _ hx320_1)).trans hx320_1
             replace p320 := eq_true p320
             replace q320 := eq_true q320
             have p322 : 0 ≤ (0 : Int) := (by omega)
             have q322 : 0 < (l0.length : Int) := of_decide_eq_true (by first | (with_reducible assumption) | assumption)
             obtain ⟨ad322, e322, hx322_0, hx322_1⟩ := at_T23 HR0.out 0 p322 q322
             have hw322_1 := hx322_1
             (try rw [show ((0 : Int)).toNat = 0 from rfl] at hw322_1)
             (try rw [show 0 * 2 = 0 from rfl] at hw322_1)
             (try rw [Addr.add_zero'] at hw322_1)
             have hw322_0 := hx322_0
             (try rw [show ((0 : Int)).toNat = 0 from rfl] at hw322_0)
             (try rw [show 0 * 2 = 0 from rfl] at hw322_0)
             (try rw [Addr.add_zero'] at hw322_0)
             obtain rfl : ad320 = ad322 := (by injection e322)
             have qi322 : (0 < l0.length) = True := eq_true (by omega)
             (try rw [show ((0 : Int)).toNat = 0 from rfl] at hx322_0)
             (try rw [show 0 * 2 = 0 from rfl] at hx322_0)
             (try rw [Addr.add_zero'] at hx322_0)
             (try rw [show ((0 : Int)).toNat = 0 from rfl] at hx322_1)
             (try rw [show 0 * 2 = 0 from rfl] at hx322_1)
             (try rw [Addr.add_zero'] at hx322_1)
             replace hx322_0 := (HB.out.cell (World.block_lt_of_cell? w _ hx322_0)).trans hx322_0
             replace hx322_1 := (HB.out.cell (World.block_lt_of_cell? w _ hx322_1)).trans hx322_1
             replace p322 := eq_true p322
             replace q322 := eq_true q322
             refine start_ (n := 17) (S := fun w' => w'.cell? ⟨gb293, 0, none⟩ = some (.string a2_0) ∧ w'.cell? ⟨gb293, 1, none⟩ = some (.int .i64 a2_1) ∧ w'.cell? ad320 = some (.string ((rd_T23 l0 0).f0)) ∧ w'.cell? ⟨ad320.block, ad320.off + 1, none⟩ = some (.int .i64 ((rd_T23 l0 0).f1)) ∧ w'.cell? ad320 = some (.string ((rd_T23 l0 0).f0)) ∧ w'.cell? ⟨ad320.block, ad320.off + 1, none⟩ = some (.int .i64 ((rd_T23 l0 0).f1))) (ds := []) #[false, false, false, false, false, false, false, false, false, false, false, false, false, false, false, false, false] (by kernel_rfl) rfl rfl ⟨(blk_cell BK293.out 0).trans rfl, (blk_cell BK293.out 1).trans rfl, ((HB.out.cell (World.block_lt_of_cell? w _ hw320_0)).trans hw320_0), ((HB.out.cell (World.block_lt_of_cell? w _ hw320_1)).trans hw320_1), ((HB.out.cell (World.block_lt_of_cell? w _ hw322_0)).trans hw322_0), ((HB.out.cell (World.block_lt_of_cell? w _ hw322_1)).trans hw322_1)⟩ (fun hHeld => ?_); refine with_tabW rafterlaw11_IdentSets.tab9 rafterlaw11_IdentSets.bits9 (fun HT_ HW_ => ?_)
             generalize wr.drew = w66 at HO_7 BK293 HB hx320_0 hx320_1 hx322_0 hx322_1 hHeld ⊢
             refine pq_ 0 (some 39) HT_ ?_; refine pq_ 1 (some 40) HT_ ?_; refine pq_ 2 (some 41) HT_ ?_; refine pq_ 3 (some 42) HT_ ?_; refine pq_ 4 (some 43) HT_ ?_; refine pq_ 5 (some 44) HT_ ?_; refine pq_ 9 (some 48) HT_ ?_; refine pq_ 10 (some 49) HT_ ?_; refine tq_ 6 (some 45) HT_ HW_ hHeld ?_; refine tq_ 7 (some 46) HT_ HW_ hHeld ?_; refine tq_ 11 (some 50) HT_ HW_ hHeld ?_; refine tq_ 12 (some 51) HT_ HW_ hHeld ?_
             refine one_ (i := 8) (N := some 47) #[true, true, true, true, true, true, true, true, true, true, true, true, true, false, false, false, false] rfl rfl (one_of HT_.out (by kernel_rfl)) (by decide) (fun K hK => ?_)
             refine goes_ Try.func14 (by kernel_rfl) rfl #[.agg #[.string ((rd_T23 l0 0).f0), .int .i64 ((rd_T23 l0 0).f1)], .agg #[.string a2_0, .int .i64 a2_1]] (by rfl) rfl rfl (by (try simp only [List.map_toArray, List.map_cons, List.map_nil]); first | done | rfl | (simp only [List.length_drop, List.length_take]; rfl)) ?_
             with_reducible refine (ident_Less.calls k1 ((rd_T23 l0 0).f0) ((rd_T23 l0 0).f1) a2_0 a2_1 t321 _ A48.out).mono ?_
             rintro e w67 ⟨rfl, hb⟩
             refine ⟨_, rfl, ?_⟩
             have n0_ := Aside0.mk (Kd.R_below (by (with_reducible repeat (first | apply Kd.R_alloc | apply Kd.R_drewN | apply Kd.R_drew)); exact HO_7.out) hb)
             have n1_ := Aside0.mk (blk_below (g := gb293) (o := .cells #[.string a2_0, .int .i64 a2_1] 23 (0, 0)) (by (with_reducible repeat (first | refine blk_drewN ?_ _ | refine blk_drew ?_ | refine blk_alloc ?_ _)); exact BK293.out) hb)
             have n2_ := Aside0.mk (below_step (by repeat (first | (with_reducible first | exact HB.out | apply below_alloc | apply pw_below_drewN | apply below_drew1 | refine below_set ?_ GE293.out) | exact HB.out)) hb)
             clear HO_7
             clear BK293
             clear HB
             have HO_7 := n0_
             have BK293 := n1_
             have HB := n2_
             clear n0_ n1_ n2_
             (try clear hb)
             (try clear hb2)
             (try clear hk)
             (try clear hi)
             refine hK.out _ _ ⟨(blk_cell BK293.out 0).trans rfl, (blk_cell BK293.out 1).trans rfl, ((HB.out.cell (World.block_lt_of_cell? w _ hw320_0)).trans hw320_0), ((HB.out.cell (World.block_lt_of_cell? w _ hw320_1)).trans hw320_1), ((HB.out.cell (World.block_lt_of_cell? w _ hw322_0)).trans hw322_0), ((HB.out.cell (World.block_lt_of_cell? w _ hw322_1)).trans hw322_1)⟩ (fun hHeld => ?_)
             clear hK K
             refine norm_ (a' := ?_) ?_ ?_
             rotate_left
             ·show Act.put _ (some 47) _ = _
              simp only [Act.put, List.setIfInBounds_toArray, List.set_cons_zero, List.set_cons_succ, i64_w, i32_w]
              rfl
             refine one_ (i := 13) (N := some 52) #[true, true, true, true, true, true, true, true, true, true, true, true, true, true, false, false, false] rfl rfl (one_of HT_.out (by kernel_rfl)) (by decide) (fun K hK => ?_)
             refine goes_ Try.func15 (by kernel_rfl) rfl #[.agg #[.string ((rd_T23 l0 0).f0), .int .i64 ((rd_T23 l0 0).f1)], .agg #[.string a2_0, .int .i64 a2_1]] (by rfl) rfl rfl (by (try simp only [List.map_toArray, List.map_cons, List.map_nil]); first | done | rfl | (simp only [List.length_drop, List.length_take]; rfl)) ?_
             with_reducible refine (rafterref11_Less.calls ((rd_T23 l0 0).f0) ((rd_T23 l0 0).f1) a2_0 a2_1 t323 _ A49.out).mono ?_
             rintro e w68 ⟨rfl, hb⟩
             refine ⟨_, rfl, ?_⟩
             have n0_ := Aside0.mk (Kd.R_below (by (with_reducible repeat (first | apply Kd.R_alloc | apply Kd.R_drewN | apply Kd.R_drew)); exact HO_7.out) hb)
             have n1_ := Aside0.mk (blk_below (g := gb293) (o := .cells #[.string a2_0, .int .i64 a2_1] 23 (0, 0)) (by (with_reducible repeat (first | refine blk_drewN ?_ _ | refine blk_drew ?_ | refine blk_alloc ?_ _)); exact BK293.out) hb)
             have n2_ := Aside0.mk (below_step (by repeat (first | (with_reducible first | exact HB.out | apply below_alloc | apply pw_below_drewN | apply below_drew1 | refine below_set ?_ GE293.out) | exact HB.out)) hb)
             clear HO_7
             clear BK293
             clear HB
             have HO_7 := n0_
             have BK293 := n1_
             have HB := n2_
             clear n0_ n1_ n2_
             (try clear hb)
             (try clear hb2)
             (try clear hk)
             (try clear hi)
             refine hK.out _ _ ⟨(blk_cell BK293.out 0).trans rfl, (blk_cell BK293.out 1).trans rfl, ((HB.out.cell (World.block_lt_of_cell? w _ hw320_0)).trans hw320_0), ((HB.out.cell (World.block_lt_of_cell? w _ hw320_1)).trans hw320_1), ((HB.out.cell (World.block_lt_of_cell? w _ hw322_0)).trans hw322_0), ((HB.out.cell (World.block_lt_of_cell? w _ hw322_1)).trans hw322_1)⟩ (fun hHeld => ?_)
             clear hK K
             refine norm_ (a' := ?_) ?_ ?_
             rotate_left
             ·show Act.put _ (some 52) _ = _
              simp only [Act.put, List.setIfInBounds_toArray, List.set_cons_zero, List.set_cons_succ, i64_w, i32_w]
              rfl
             refine pq_ 14 (some 53) HT_ ?_; refine pq_ 15 (some 54) HT_ ?_; refine pq_ 16 (some 9) HT_ ?_
             refine done_ (done_of HT_.out (by kernel_rfl)) ?_
             try go_wp2
             have n0_ := Aside0.mk (Kd.R_drew HO_7.out)
             have n1_ := Aside0.mk (blk_drew BK293.out)
             have n2_ := Aside0.mk (below_drew1 HB.out)
             clear HO_7
             clear BK293
             clear HB
             have HO_7 := n0_
             have BK293 := n1_
             have HB := n2_
             clear n0_ n1_ n2_
             refine start_ (n := 37) (S := fun w' => w'.cell? ⟨gb293, 0, none⟩ = some (.string a2_0) ∧ w'.cell? ⟨gb293, 1, none⟩ = some (.int .i64 a2_1)) (ds := []) #[false, false, false, false, false, false, false, false, false, false, false, false, false, false, false, false, false, false, false, false, false, false, false, false, false, false, false, false, false, false, false, false, false, false, false, false, false] (by kernel_rfl) rfl rfl ⟨(blk_cell BK293.out 0).trans rfl, (blk_cell BK293.out 1).trans rfl⟩ (fun hHeld => ?_); refine with_tabW rafterlaw11_IdentSets.tab10 rafterlaw11_IdentSets.bits10 (fun HT_ HW_ => ?_)
             generalize w68.drew = w69 at HO_7 BK293 HB hHeld ⊢
             refine one_ (i := 0) (N := some 55) #[true, false, false, false, false, false, false, false, false, false, false, false, false, false, false, false, false, false, false, false, false, false, false, false, false, false, false, false, false, false, false, false, false, false, false, false, false] rfl rfl (one_of HT_.out (by kernel_rfl)) (by decide) (fun K hK => ?_)
             refine goes_ Try.func6 (by kernel_rfl) rfl #[] (by rfl) rfl rfl (by (try simp only [List.map_toArray, List.map_cons, List.map_nil]); first | done | rfl | (simp only [List.length_drop, List.length_take]; rfl)) ?_
             with_reducible refine (rafterlaw11_awake.calls k1  true _ ?side1 A50.out).mono ?_
             (case side1 => exact EGlob.G_below HG.out (by repeat (first | (with_reducible first | exact HB.out | apply below_alloc | apply pw_below_drewN | apply below_drew1 | refine below_set ?_ GE293.out) | exact HB.out)))
             rintro e w70 ⟨rfl, hb⟩
             refine ⟨_, rfl, ?_⟩
             have n0_ := Aside0.mk (Kd.R_below (by (with_reducible repeat (first | apply Kd.R_alloc | apply Kd.R_drewN | apply Kd.R_drew)); exact HO_7.out) hb)
             have n1_ := Aside0.mk (blk_below (g := gb293) (o := .cells #[.string a2_0, .int .i64 a2_1] 23 (0, 0)) (by (with_reducible repeat (first | refine blk_drewN ?_ _ | refine blk_drew ?_ | refine blk_alloc ?_ _)); exact BK293.out) hb)
             have n2_ := Aside0.mk (below_step (by repeat (first | (with_reducible first | exact HB.out | apply below_alloc | apply pw_below_drewN | apply below_drew1 | refine below_set ?_ GE293.out) | exact HB.out)) hb)
             clear HO_7
             clear BK293
             clear HB
             have HO_7 := n0_
             have BK293 := n1_
             have HB := n2_
             clear n0_ n1_ n2_
             (try clear hb)
             (try clear hb2)
             (try clear hk)
             (try clear hi)
             refine hK.out _ _ ⟨(blk_cell BK293.out 0).trans rfl, (blk_cell BK293.out 1).trans rfl⟩ (fun hHeld => ?_)
             clear hK K
             refine norm_ (a' := ?_) ?_ ?_
             rotate_left
             ·show Act.put _ (some 55) _ = _
              simp only [Act.put, List.setIfInBounds_toArray, List.set_cons_zero, List.set_cons_succ, i64_w, i32_w]
              rfl
             refine pq_ 1 (some 56) HT_ ?_; refine pq_ 2 (some 57) HT_ ?_; refine pq_ 4 (some 59) HT_ ?_
             refine one_ (i := 3) (N := some 58) #[true, true, true, true, true, false, false, false, false, false, false, false, false, false, false, false, false, false, false, false, false, false, false, false, false, false, false, false, false, false, false, false, false, false, false, false, false] rfl rfl (one_of HT_.out (by kernel_rfl)) (by decide) (fun K hK => ?_)
             refine goes_ Try.func17 (by kernel_rfl) rfl #[.slice (some ad320) l0.length c0] (by rfl) rfl rfl (by (try simp only [List.map_toArray, List.map_cons, List.map_nil]); first | done | rfl | (simp only [List.length_drop, List.length_take]; rfl)) ?_
             with_reducible refine (ident_Set.calls _ _ l0 t325 _ ?side1 ?side2 A52.out).mono ?_
             (case side1 => repeat (first | exact (Kd.C_below HR0.out HB.out) | (with_reducible refine Kd.C_alloc ?_ _) | (with_reducible refine Kd.C_drewN ?_ _) | (with_reducible refine Kd.C_drew ?_)))
             (case side2 => exact HC0.out)
             rintro e w71 ⟨v326, rfl, ho0, hb⟩
             refine ⟨_, rfl, ?_⟩
             have n0_ := Aside0.mk (Kd.R_below (by (with_reducible repeat (first | apply Kd.R_alloc | apply Kd.R_drewN | apply Kd.R_drew)); exact HO_7.out) hb)
             have n1_ := Aside0.mk (Kd.R_lower (Kd.R_newB ho0 (g := gb293) (o := .cells #[.string a2_0, .int .i64 a2_1] 23 (0, 0)) (by (with_reducible repeat (first | refine blk_drewN ?_ _ | refine blk_drew ?_ | refine blk_alloc ?_ _)); exact BK293.out)) (below_size (by repeat (first | (with_reducible first | exact HB.out | apply below_alloc | apply pw_below_drewN | apply below_drew1 | refine below_set ?_ GE293.out) | exact HB.out))))
             have n2_ := Aside0.mk (blk_below (g := gb293) (o := .cells #[.string a2_0, .int .i64 a2_1] 23 (0, 0)) (by (with_reducible repeat (first | refine blk_drewN ?_ _ | refine blk_drew ?_ | refine blk_alloc ?_ _)); exact BK293.out) hb)
             have n3_ := Aside0.mk (below_step (by repeat (first | (with_reducible first | exact HB.out | apply below_alloc | apply pw_below_drewN | apply below_drew1 | refine below_set ?_ GE293.out) | exact HB.out)) hb)
             clear HO_7
             clear BK293
             clear HB
             have HO_7 := n0_
             have HO327 := n1_
             have BK293 := n2_
             have HB := n3_
             clear n0_ n1_ n2_ n3_
             (try clear hb)
             (try clear hb2)
             (try clear hk)
             (try clear hi)
             (try clear ho0)
             refine hK.out _ _ ⟨(blk_cell BK293.out 0).trans rfl, (blk_cell BK293.out 1).trans rfl⟩ (fun hHeld => ?_)
             clear hK K
             refine norm_ (a' := ?_) ?_ ?_
             rotate_left
             ·show Act.put _ (some 58) _ = _
              simp only [Act.put, List.setIfInBounds_toArray, List.set_cons_zero, List.set_cons_succ, i64_w, i32_w]
              rfl
             refine one_ (i := 5) (N := some 60) #[true, true, true, true, true, true, false, false, false, false, false, false, false, false, false, false, false, false, false, false, false, false, false, false, false, false, false, false, false, false, false, false, false, false, false, false, false] rfl rfl (one_of HT_.out (by kernel_rfl)) (by decide) (fun K hK => ?_)
             refine goes_ Try.func18 (by kernel_rfl) rfl #[.slice (some ad320) l0.length c0] (by rfl) rfl rfl (by (try simp only [List.map_toArray, List.map_cons, List.map_nil]); first | done | rfl | (simp only [List.length_drop, List.length_take]; rfl)) ?_
             with_reducible refine (rafterref11_Set.calls k1 _ _ l0 t328 _ ?side1 ?side2 A53.out).mono ?_
             (case side1 => repeat (first | exact (Kd.C_below HR0.out HB.out) | (with_reducible refine Kd.C_alloc ?_ _) | (with_reducible refine Kd.C_drewN ?_ _) | (with_reducible refine Kd.C_drew ?_)))
             (case side2 => exact HC0.out)
             rintro e w72 ⟨v329, rfl, ho0, hb⟩
             refine ⟨_, rfl, ?_⟩
             have n0_ := Aside0.mk (Kd.R_below (by (with_reducible repeat (first | apply Kd.R_alloc | apply Kd.R_drewN | apply Kd.R_drew)); exact HO_7.out) hb)
             have n1_ := Aside0.mk (Kd.R_elder' (by (with_reducible repeat (first | apply Kd.R_alloc | apply Kd.R_drewN | apply Kd.R_drew)); exact HO327.out) (Kd.R_base ho0) hb)
             have n2_ := Aside0.mk (Kd.R_lower (Kd.R_newB (Kd.R_new' ho0 (Kd.R_lt (by (with_reducible repeat (first | apply Kd.R_alloc | apply Kd.R_drewN | apply Kd.R_drew)); exact HO327.out))) (g := gb293) (o := .cells #[.string a2_0, .int .i64 a2_1] 23 (0, 0)) (by (with_reducible repeat (first | refine blk_drewN ?_ _ | refine blk_drew ?_ | refine blk_alloc ?_ _)); exact BK293.out)) (below_size (by repeat (first | (with_reducible first | exact HB.out | apply below_alloc | apply pw_below_drewN | apply below_drew1 | refine below_set ?_ GE293.out) | exact HB.out))))
             have n3_ := Aside0.mk (blk_below (g := gb293) (o := .cells #[.string a2_0, .int .i64 a2_1] 23 (0, 0)) (by (with_reducible repeat (first | refine blk_drewN ?_ _ | refine blk_drew ?_ | refine blk_alloc ?_ _)); exact BK293.out) hb)
             have n4_ := Aside0.mk (below_step (by repeat (first | (with_reducible first | exact HB.out | apply below_alloc | apply pw_below_drewN | apply below_drew1 | refine below_set ?_ GE293.out) | exact HB.out)) hb)
             clear HO_7
             clear HO327
             clear BK293
             clear HB
             have HO_7 := n0_
             have HO327 := n1_
             have HO330 := n2_
             have BK293 := n3_
             have HB := n4_
             clear n0_ n1_ n2_ n3_ n4_
             (try clear hb)
             (try clear hb2)
             (try clear hk)
             (try clear hi)
             (try clear ho0)
             obtain ⟨Ao73, co73, eo73⟩ := Kd.R_slice HO327.out
             (first | subst eo73 | (injection eo73 with f1_ f2_ f3_; have f4_ := f1_.symm; have f5_ := f3_.symm; clear f1_ f2_ f3_; subst f4_; subst f5_))
             obtain ⟨Ao74, co74, eo74⟩ := Kd.R_slice HO330.out
             (first | subst eo74 | (injection eo74 with f1_ f2_ f3_; have f4_ := f1_.symm; have f5_ := f3_.symm; clear f1_ f2_ f3_; subst f4_; subst f5_))
             refine hK.out _ _ ⟨(blk_cell BK293.out 0).trans rfl, (blk_cell BK293.out 1).trans rfl⟩ (fun hHeld => ?_)
             clear hK K
             refine norm_ (a' := ?_) ?_ ?_
             rotate_left
             ·show Act.put _ (some 60) _ = _
              simp only [Act.put, List.setIfInBounds_toArray, List.set_cons_zero, List.set_cons_succ, i64_w, i32_w]
              rfl
             refine one_ (i := 6) (N := some 61) #[true, true, true, true, true, true, true, false, false, false, false, false, false, false, false, false, false, false, false, false, false, false, false, false, false, false, false, false, false, false, false, false, false, false, false, false, false] rfl rfl (one_of HT_.out (by kernel_rfl)) (by decide) (fun K hK => ?_)
             refine goes_ Try.func16 (by kernel_rfl) rfl #[.slice Ao73 t325.length co73, .slice Ao74 t328.length co74] (by rfl) rfl rfl (by (try simp only [List.map_toArray, List.map_cons, List.map_nil]); first | done | rfl | (simp only [List.length_drop, List.length_take]; rfl)) ?_
             with_reducible refine (rafterref11_Same.calls k1 _ _ t325 _ _ t328 true _ ?side1 ?side2 ?side3 ?side4 A54.out).mono ?_
             (case side1 => repeat (first | exact (Kd.R_reads' HO327.out).2.2 | (with_reducible refine Kd.C_alloc ?_ _) | (with_reducible refine Kd.C_drewN ?_ _) | (with_reducible refine Kd.C_drew ?_)))
             (case side2 => exact (Kd.R_reads' HO327.out).2.1)
             (case side3 => repeat (first | exact (Kd.R_reads' HO330.out).2.2 | (with_reducible refine Kd.C_alloc ?_ _) | (with_reducible refine Kd.C_drewN ?_ _) | (with_reducible refine Kd.C_drew ?_)))
             (case side4 => exact (Kd.R_reads' HO330.out).2.1)
             rintro e w' ⟨rfl, ⟨nd, rfl⟩⟩
             refine ⟨_, rfl, ?_⟩
             refine hK.out _ _ ⟨(blk_cell BK293.out 0).trans rfl, (blk_cell BK293.out 1).trans rfl⟩ (fun hHeld => ?_)
             clear hK K
             refine norm_ (a' := ?_) ?_ ?_
             rotate_left
             ·show Act.put _ (some 61) _ = _
              simp only [Act.put, List.setIfInBounds_toArray, List.set_cons_zero, List.set_cons_succ, i64_w, i32_w]
              rfl
             refine pq_ 7 (some 62) HT_ ?_; refine pq_ 8 (some 63) HT_ ?_; refine pq_ 9 (some 64) HT_ ?_; refine pq_ 12 (some 67) HT_ ?_; refine tq_ 10 (some 65) HT_ HW_ hHeld ?_; refine tq_ 13 (some 68) HT_ HW_ hHeld ?_
             refine one_ (i := 11) (N := some 66) #[true, true, true, true, true, true, true, true, true, true, true, true, true, true, false, false, false, false, false, false, false, false, false, false, false, false, false, false, false, false, false, false, false, false, false, false, false] rfl rfl (one_of HT_.out (by kernel_rfl)) (by decide) (fun K hK => ?_)
             refine goes_ Try.func19 (by kernel_rfl) rfl #[.slice (some ad320) l0.length c0, .agg #[.string a2_0, .int .i64 a2_1]] (by rfl) rfl rfl (by (try simp only [List.map_toArray, List.map_cons, List.map_nil]); first | done | rfl | (simp only [List.length_drop, List.length_take]; rfl)) ?_
             with_reducible refine (ident_Has.calls k1 _ _ l0 a2_0 a2_1 t332 _ ?side1 ?side2 A56.out).mono ?_
             (case side1 => repeat (first | exact (Kd.C_below HR0.out (by repeat (first | (with_reducible first | exact HB.out | apply below_alloc | apply pw_below_drewN | apply below_drew1 | refine below_set ?_ GE293.out) | exact HB.out))) | (with_reducible refine Kd.C_alloc ?_ _) | (with_reducible refine Kd.C_drewN ?_ _) | (with_reducible refine Kd.C_drew ?_)))
             (case side2 => exact HC0.out)
             rintro e w75 ⟨rfl, hb⟩
             refine ⟨_, rfl, ?_⟩
             have n0_ := Aside0.mk (Kd.R_below (by (with_reducible repeat (first | apply Kd.R_alloc | apply Kd.R_drewN | apply Kd.R_drew)); exact HO_7.out) hb)
             have n1_ := Aside0.mk (Kd.R_below (by (with_reducible repeat (first | apply Kd.R_alloc | apply Kd.R_drewN | apply Kd.R_drew)); exact HO327.out) hb)
             have n2_ := Aside0.mk (Kd.R_below (by (with_reducible repeat (first | apply Kd.R_alloc | apply Kd.R_drewN | apply Kd.R_drew)); exact HO330.out) hb)
             have n3_ := Aside0.mk (blk_below (g := gb293) (o := .cells #[.string a2_0, .int .i64 a2_1] 23 (0, 0)) (by (with_reducible repeat (first | refine blk_drewN ?_ _ | refine blk_drew ?_ | refine blk_alloc ?_ _)); exact BK293.out) hb)
             have n4_ := Aside0.mk (below_step (by repeat (first | (with_reducible first | exact HB.out | apply below_alloc | apply pw_below_drewN | apply below_drew1 | refine below_set ?_ GE293.out) | exact HB.out)) hb)
             clear HO_7
             clear HO327
             clear HO330
             clear BK293
             clear HB
             have HO_7 := n0_
             have HO327 := n1_
             have HO330 := n2_
             have BK293 := n3_
             have HB := n4_
             clear n0_ n1_ n2_ n3_ n4_
             (try clear hb)
             (try clear hb2)
             (try clear hk)
             (try clear hi)
             refine hK.out _ _ ⟨(blk_cell BK293.out 0).trans rfl, (blk_cell BK293.out 1).trans rfl⟩ (fun hHeld => ?_)
             clear hK K
             refine norm_ (a' := ?_) ?_ ?_
             rotate_left
             ·show Act.put _ (some 66) _ = _
              simp only [Act.put, List.setIfInBounds_toArray, List.set_cons_zero, List.set_cons_succ, i64_w, i32_w]
              rfl
             refine one_ (i := 14) (N := some 69) #[true, true, true, true, true, true, true, true, true, true, true, true, true, true, true, false, false, false, false, false, false, false, false, false, false, false, false, false, false, false, false, false, false, false, false, false, false] rfl rfl (one_of HT_.out (by kernel_rfl)) (by decide) (fun K hK => ?_)
             refine goes_ Try.func20 (by kernel_rfl) rfl #[.slice (some ad320) l0.length c0, .agg #[.string a2_0, .int .i64 a2_1]] (by rfl) rfl rfl (by (try simp only [List.map_toArray, List.map_cons, List.map_nil]); first | done | rfl | (simp only [List.length_drop, List.length_take]; rfl)) ?_
             with_reducible refine (rafterref11_Has.calls k1 _ _ l0 a2_0 a2_1 t333 _ ?side1 ?side2 A57.out).mono ?_
             (case side1 => repeat (first | exact (Kd.C_below HR0.out HB.out) | (with_reducible refine Kd.C_alloc ?_ _) | (with_reducible refine Kd.C_drewN ?_ _) | (with_reducible refine Kd.C_drew ?_)))
             (case side2 => exact HC0.out)
             rintro e w76 ⟨rfl, hb⟩
             refine ⟨_, rfl, ?_⟩
             have n0_ := Aside0.mk (Kd.R_below (by (with_reducible repeat (first | apply Kd.R_alloc | apply Kd.R_drewN | apply Kd.R_drew)); exact HO_7.out) hb)
             have n1_ := Aside0.mk (Kd.R_below (by (with_reducible repeat (first | apply Kd.R_alloc | apply Kd.R_drewN | apply Kd.R_drew)); exact HO327.out) hb)
             have n2_ := Aside0.mk (Kd.R_below (by (with_reducible repeat (first | apply Kd.R_alloc | apply Kd.R_drewN | apply Kd.R_drew)); exact HO330.out) hb)
             have n3_ := Aside0.mk (blk_below (g := gb293) (o := .cells #[.string a2_0, .int .i64 a2_1] 23 (0, 0)) (by (with_reducible repeat (first | refine blk_drewN ?_ _ | refine blk_drew ?_ | refine blk_alloc ?_ _)); exact BK293.out) hb)
             have n4_ := Aside0.mk (below_step (by repeat (first | (with_reducible first | exact HB.out | apply below_alloc | apply pw_below_drewN | apply below_drew1 | refine below_set ?_ GE293.out) | exact HB.out)) hb)
             clear HO_7
             clear HO327
             clear HO330
             clear BK293
             clear HB
             have HO_7 := n0_
             have HO327 := n1_
             have HO330 := n2_
             have BK293 := n3_
             have HB := n4_
             clear n0_ n1_ n2_ n3_ n4_
             (try clear hb)
             (try clear hb2)
             (try clear hk)
             (try clear hi)
             refine hK.out _ _ ⟨(blk_cell BK293.out 0).trans rfl, (blk_cell BK293.out 1).trans rfl⟩ (fun hHeld => ?_)
             clear hK K
             refine norm_ (a' := ?_) ?_ ?_
             rotate_left
             ·show Act.put _ (some 69) _ = _
              simp only [Act.put, List.setIfInBounds_toArray, List.set_cons_zero, List.set_cons_succ, i64_w, i32_w]
              rfl
             refine pq_ 15 (some 70) HT_ ?_; refine pq_ 16 (some 71) HT_ ?_; refine pq_ 17 (some 72) HT_ ?_; refine pq_ 18 (some 73) HT_ ?_; refine pq_ 19 (some 74) HT_ ?_; refine pq_ 21 (some 76) HT_ ?_; refine pq_ 22 (some 77) HT_ ?_
             refine one_ (i := 20) (N := some 75) #[true, true, true, true, true, true, true, true, true, true, true, true, true, true, true, true, true, true, true, true, true, true, true, false, false, false, false, false, false, false, false, false, false, false, false, false, false] rfl rfl (one_of HT_.out (by kernel_rfl)) (by decide) (fun K hK => ?_)
             refine goes_ Try.func21 (by kernel_rfl) rfl #[.slice (some ad320) l0.length c0, .slice A1 l1.length c1] (by rfl) rfl rfl (by (try simp only [List.map_toArray, List.map_cons, List.map_nil]); first | done | rfl | (simp only [List.length_drop, List.length_take]; rfl)) ?_
             with_reducible refine (ident_Meet.calls k1 _ _ l0 _ _ l1 t334 _ ?side1 ?side2 ?side3 ?side4 A59.out).mono ?_
             (case side1 => repeat (first | exact (Kd.C_below HR0.out HB.out) | (with_reducible refine Kd.C_alloc ?_ _) | (with_reducible refine Kd.C_drewN ?_ _) | (with_reducible refine Kd.C_drew ?_)))
             (case side2 => exact HC0.out)
             (case side3 => repeat (first | exact (Kd.C_below HR1.out HB.out) | (with_reducible refine Kd.C_alloc ?_ _) | (with_reducible refine Kd.C_drewN ?_ _) | (with_reducible refine Kd.C_drew ?_)))
             (case side4 => exact HC1.out)
             rintro e w77 ⟨rfl, hb⟩
             refine ⟨_, rfl, ?_⟩
             have n0_ := Aside0.mk (Kd.R_below (by (with_reducible repeat (first | apply Kd.R_alloc | apply Kd.R_drewN | apply Kd.R_drew)); exact HO_7.out) hb)
             have n1_ := Aside0.mk (Kd.R_below (by (with_reducible repeat (first | apply Kd.R_alloc | apply Kd.R_drewN | apply Kd.R_drew)); exact HO327.out) hb)
             have n2_ := Aside0.mk (Kd.R_below (by (with_reducible repeat (first | apply Kd.R_alloc | apply Kd.R_drewN | apply Kd.R_drew)); exact HO330.out) hb)
             have n3_ := Aside0.mk (blk_below (g := gb293) (o := .cells #[.string a2_0, .int .i64 a2_1] 23 (0, 0)) (by (with_reducible repeat (first | refine blk_drewN ?_ _ | refine blk_drew ?_ | refine blk_alloc ?_ _)); exact BK293.out) hb)
             have n4_ := Aside0.mk (below_step (by repeat (first | (with_reducible first | exact HB.out | apply below_alloc | apply pw_below_drewN | apply below_drew1 | refine below_set ?_ GE293.out) | exact HB.out)) hb)
             clear HO_7
             clear HO327
             clear HO330
             clear BK293
             clear HB
             have HO_7 := n0_
             have HO327 := n1_
             have HO330 := n2_
             have BK293 := n3_
             have HB := n4_
             clear n0_ n1_ n2_ n3_ n4_
             (try clear hb)
             (try clear hb2)
             (try clear hk)
             (try clear hi)
             refine hK.out _ _ ⟨(blk_cell BK293.out 0).trans rfl, (blk_cell BK293.out 1).trans rfl⟩ (fun hHeld => ?_)
             clear hK K
             refine norm_ (a' := ?_) ?_ ?_
             rotate_left
             ·show Act.put _ (some 75) _ = _
              simp only [Act.put, List.setIfInBounds_toArray, List.set_cons_zero, List.set_cons_succ, i64_w, i32_w]
              rfl
             refine one_ (i := 23) (N := some 78) #[true, true, true, true, true, true, true, true, true, true, true, true, true, true, true, true, true, true, true, true, true, true, true, true, false, false, false, false, false, false, false, false, false, false, false, false, false] rfl rfl (one_of HT_.out (by kernel_rfl)) (by decide) (fun K hK => ?_)
             refine goes_ Try.func22 (by kernel_rfl) rfl #[.slice (some ad320) l0.length c0, .slice A1 l1.length c1] (by rfl) rfl rfl (by (try simp only [List.map_toArray, List.map_cons, List.map_nil]); first | done | rfl | (simp only [List.length_drop, List.length_take]; rfl)) ?_
             with_reducible refine (rafterref11_Meet.calls k1 _ _ l0 _ _ l1 t335 _ ?side1 ?side2 ?side3 ?side4 A60.out).mono ?_
             (case side1 => repeat (first | exact (Kd.C_below HR0.out HB.out) | (with_reducible refine Kd.C_alloc ?_ _) | (with_reducible refine Kd.C_drewN ?_ _) | (with_reducible refine Kd.C_drew ?_)))
             (case side2 => exact HC0.out)
             (case side3 => repeat (first | exact (Kd.C_below HR1.out HB.out) | (with_reducible refine Kd.C_alloc ?_ _) | (with_reducible refine Kd.C_drewN ?_ _) | (with_reducible refine Kd.C_drew ?_)))
             (case side4 => exact HC1.out)
             rintro e w78 ⟨rfl, hb⟩
             refine ⟨_, rfl, ?_⟩
             have n0_ := Aside0.mk (Kd.R_below (by (with_reducible repeat (first | apply Kd.R_alloc | apply Kd.R_drewN | apply Kd.R_drew)); exact HO_7.out) hb)
             have n1_ := Aside0.mk (Kd.R_below (by (with_reducible repeat (first | apply Kd.R_alloc | apply Kd.R_drewN | apply Kd.R_drew)); exact HO327.out) hb)
             have n2_ := Aside0.mk (Kd.R_below (by (with_reducible repeat (first | apply Kd.R_alloc | apply Kd.R_drewN | apply Kd.R_drew)); exact HO330.out) hb)
             have n3_ := Aside0.mk (blk_below (g := gb293) (o := .cells #[.string a2_0, .int .i64 a2_1] 23 (0, 0)) (by (with_reducible repeat (first | refine blk_drewN ?_ _ | refine blk_drew ?_ | refine blk_alloc ?_ _)); exact BK293.out) hb)
             have n4_ := Aside0.mk (below_step (by repeat (first | (with_reducible first | exact HB.out | apply below_alloc | apply pw_below_drewN | apply below_drew1 | refine below_set ?_ GE293.out) | exact HB.out)) hb)
             clear HO_7
             clear HO327
             clear HO330
             clear BK293
             clear HB
             have HO_7 := n0_
             have HO327 := n1_
             have HO330 := n2_
             have BK293 := n3_
             have HB := n4_
             clear n0_ n1_ n2_ n3_ n4_
             (try clear hb)
             (try clear hb2)
             (try clear hk)
             (try clear hi)
             refine hK.out _ _ ⟨(blk_cell BK293.out 0).trans rfl, (blk_cell BK293.out 1).trans rfl⟩ (fun hHeld => ?_)
             clear hK K
             refine norm_ (a' := ?_) ?_ ?_
             rotate_left
             ·show Act.put _ (some 78) _ = _
              simp only [Act.put, List.setIfInBounds_toArray, List.set_cons_zero, List.set_cons_succ, i64_w, i32_w]
              rfl
             refine pq_ 24 (some 79) HT_ ?_; refine pq_ 25 (some 80) HT_ ?_; refine pq_ 26 (some 81) HT_ ?_; refine pq_ 27 (some 82) HT_ ?_; refine pq_ 29 (some 84) HT_ ?_
             refine one_ (i := 28) (N := some 83) #[true, true, true, true, true, true, true, true, true, true, true, true, true, true, true, true, true, true, true, true, true, true, true, true, true, true, true, true, true, true, false, false, false, false, false, false, false] rfl rfl (one_of HT_.out (by kernel_rfl)) (by decide) (fun K hK => ?_)
             refine goes_ Try.func24 (by kernel_rfl) rfl #[.slice (some ad320) l0.length c0] (by rfl) rfl rfl (by (try simp only [List.map_toArray, List.map_cons, List.map_nil]); first | done | rfl | (simp only [List.length_drop, List.length_take]; rfl)) ?_
             with_reducible refine (ident_Patches.calls k1 _ _ l0 t336 _ ?side1 ?side2 A62.out).mono ?_
             (case side1 => repeat (first | exact (Kd.C_below HR0.out HB.out) | (with_reducible refine Kd.C_alloc ?_ _) | (with_reducible refine Kd.C_drewN ?_ _) | (with_reducible refine Kd.C_drew ?_)))
             (case side2 => exact HC0.out)
             rintro e w79 ⟨v337, rfl, ho0, hb⟩
             refine ⟨_, rfl, ?_⟩
             have n0_ := Aside0.mk (Kd.R_elder' (by (with_reducible repeat (first | apply Kd.R_alloc | apply Kd.R_drewN | apply Kd.R_drew)); exact HO_7.out) (Kd.R_base ho0) hb)
             have n1_ := Aside0.mk (Kd.R_below (by (with_reducible repeat (first | apply Kd.R_alloc | apply Kd.R_drewN | apply Kd.R_drew)); exact HO327.out) hb)
             have n2_ := Aside0.mk (Kd.R_below (by (with_reducible repeat (first | apply Kd.R_alloc | apply Kd.R_drewN | apply Kd.R_drew)); exact HO330.out) hb)
             have n3_ := Aside0.mk (Kd.R_lower (Kd.R_new' ho0 (Kd.R_lt (by (with_reducible repeat (first | apply Kd.R_alloc | apply Kd.R_drewN | apply Kd.R_drew)); exact HO_7.out))) (below_size (by repeat (first | (with_reducible first | exact HB.out | apply below_alloc | apply pw_below_drewN | apply below_drew1 | refine below_set ?_ GE293.out) | exact HB.out))))
             have n4_ := Aside0.mk (blk_below (g := gb293) (o := .cells #[.string a2_0, .int .i64 a2_1] 23 (0, 0)) (by (with_reducible repeat (first | refine blk_drewN ?_ _ | refine blk_drew ?_ | refine blk_alloc ?_ _)); exact BK293.out) hb)
             have n5_ := Aside0.mk (below_step (by repeat (first | (with_reducible first | exact HB.out | apply below_alloc | apply pw_below_drewN | apply below_drew1 | refine below_set ?_ GE293.out) | exact HB.out)) hb)
             clear HO_7
             clear HO327
             clear HO330
             clear BK293
             clear HB
             have HO_7 := n0_
             have HO327 := n1_
             have HO330 := n2_
             have HO338 := n3_
             have BK293 := n4_
             have HB := n5_
             clear n0_ n1_ n2_ n3_ n4_ n5_
             (try clear hb)
             (try clear hb2)
             (try clear hk)
             (try clear hi)
             (try clear ho0)
             obtain ⟨Ao80, co80, eo80⟩ := Kd.R_slice HO_7.out
             (first | subst eo80 | (injection eo80 with f1_ f2_ f3_; have f4_ := f1_.symm; have f5_ := f3_.symm; clear f1_ f2_ f3_; subst f4_; subst f5_))
             refine hK.out _ _ ⟨(blk_cell BK293.out 0).trans rfl, (blk_cell BK293.out 1).trans rfl⟩ (fun hHeld => ?_)
             clear hK K
             refine norm_ (a' := ?_) ?_ ?_
             rotate_left
             ·show Act.put _ (some 83) _ = _
              simp only [Act.put, List.setIfInBounds_toArray, List.set_cons_zero, List.set_cons_succ, i64_w, i32_w]
              rfl
             refine one_ (i := 30) (N := some 85) #[true, true, true, true, true, true, true, true, true, true, true, true, true, true, true, true, true, true, true, true, true, true, true, true, true, true, true, true, true, true, true, false, false, false, false, false, false] rfl rfl (one_of HT_.out (by kernel_rfl)) (by decide) (fun K hK => ?_)
             refine goes_ Try.func25 (by kernel_rfl) rfl #[.slice Ao80 x7_1.length co80] (by rfl) rfl rfl (by (try simp only [List.map_toArray, List.map_cons, List.map_nil]); first | done | rfl | (simp only [List.length_drop, List.length_take]; rfl)) ?_
             with_reducible refine (rafterref02_Set.calls k1 _ _ x7_1 t339 _ ?side1 ?side2 A63.out).mono ?_
             (case side1 => repeat (first | exact (Kd.R_reads' HO_7.out).2.2 | (with_reducible refine Kd.C_alloc ?_ _) | (with_reducible refine Kd.C_drewN ?_ _) | (with_reducible refine Kd.C_drew ?_)))
             (case side2 => exact (Kd.R_reads' HO_7.out).2.1)
             rintro e w81 ⟨v340, rfl, ho0, hb⟩
             refine ⟨_, rfl, ?_⟩
             have n0_ := Aside0.mk (Kd.R_elder' (by (with_reducible repeat (first | apply Kd.R_alloc | apply Kd.R_drewN | apply Kd.R_drew)); exact HO_7.out) (Kd.R_base ho0) hb)
             have n1_ := Aside0.mk (Kd.R_below (by (with_reducible repeat (first | apply Kd.R_alloc | apply Kd.R_drewN | apply Kd.R_drew)); exact HO327.out) hb)
             have n2_ := Aside0.mk (Kd.R_below (by (with_reducible repeat (first | apply Kd.R_alloc | apply Kd.R_drewN | apply Kd.R_drew)); exact HO330.out) hb)
             have n3_ := Aside0.mk (Kd.R_elder' (by (with_reducible repeat (first | apply Kd.R_alloc | apply Kd.R_drewN | apply Kd.R_drew)); exact HO338.out) (Kd.R_base ho0) hb)
             have n4_ := Aside0.mk (Kd.R_lower (Kd.R_new' (Kd.R_new' ho0 (Kd.R_lt (by (with_reducible repeat (first | apply Kd.R_alloc | apply Kd.R_drewN | apply Kd.R_drew)); exact HO_7.out))) (Kd.R_lt (by (with_reducible repeat (first | apply Kd.R_alloc | apply Kd.R_drewN | apply Kd.R_drew)); exact HO338.out))) (below_size (by repeat (first | (with_reducible first | exact HB.out | apply below_alloc | apply pw_below_drewN | apply below_drew1 | refine below_set ?_ GE293.out) | exact HB.out))))
             have n5_ := Aside0.mk (blk_below (g := gb293) (o := .cells #[.string a2_0, .int .i64 a2_1] 23 (0, 0)) (by (with_reducible repeat (first | refine blk_drewN ?_ _ | refine blk_drew ?_ | refine blk_alloc ?_ _)); exact BK293.out) hb)
             have n6_ := Aside0.mk (below_step (by repeat (first | (with_reducible first | exact HB.out | apply below_alloc | apply pw_below_drewN | apply below_drew1 | refine below_set ?_ GE293.out) | exact HB.out)) hb)
             clear HO_7
             clear HO327
             clear HO330
             clear HO338
             clear BK293
             clear HB
             have HO_7 := n0_
             have HO327 := n1_
             have HO330 := n2_
             have HO338 := n3_
             have HO341 := n4_
             have BK293 := n5_
             have HB := n6_
             clear n0_ n1_ n2_ n3_ n4_ n5_ n6_
             (try clear hb)
             (try clear hb2)
             (try clear hk)
             (try clear hi)
             (try clear ho0)
             obtain ⟨Ao82, co82, eo82⟩ := Kd.R_slice HO338.out
             (first | subst eo82 | (injection eo82 with f1_ f2_ f3_; have f4_ := f1_.symm; have f5_ := f3_.symm; clear f1_ f2_ f3_; subst f4_; subst f5_))
             obtain ⟨Ao83, co83, eo83⟩ := Kd.R_slice HO341.out
             (first | subst eo83 | (injection eo83 with f1_ f2_ f3_; have f4_ := f1_.symm; have f5_ := f3_.symm; clear f1_ f2_ f3_; subst f4_; subst f5_))
             refine hK.out _ _ ⟨(blk_cell BK293.out 0).trans rfl, (blk_cell BK293.out 1).trans rfl⟩ (fun hHeld => ?_)
             clear hK K
             refine norm_ (a' := ?_) ?_ ?_
             rotate_left
             ·show Act.put _ (some 85) _ = _
              simp only [Act.put, List.setIfInBounds_toArray, List.set_cons_zero, List.set_cons_succ, i64_w, i32_w]
              rfl
             refine one_ (i := 31) (N := some 86) #[true, true, true, true, true, true, true, true, true, true, true, true, true, true, true, true, true, true, true, true, true, true, true, true, true, true, true, true, true, true, true, true, false, false, false, false, false] rfl rfl (one_of HT_.out (by kernel_rfl)) (by decide) (fun K hK => ?_)
             refine goes_ Try.func23 (by kernel_rfl) rfl #[.slice Ao82 t336.length co82, .slice Ao83 t339.length co83] (by rfl) rfl rfl (by (try simp only [List.map_toArray, List.map_cons, List.map_nil]); first | done | rfl | (simp only [List.length_drop, List.length_take]; rfl)) ?_
             with_reducible refine (rafterref01_Same.calls k1 _ _ t336 _ _ t339 true _ ?side1 ?side2 ?side3 ?side4 A64.out).mono ?_
             (case side1 => repeat (first | exact (Kd.R_reads' HO338.out).2.2 | (with_reducible refine Kd.C_alloc ?_ _) | (with_reducible refine Kd.C_drewN ?_ _) | (with_reducible refine Kd.C_drew ?_)))
             (case side2 => exact (Kd.R_reads' HO338.out).2.1)
             (case side3 => repeat (first | exact (Kd.R_reads' HO341.out).2.2 | (with_reducible refine Kd.C_alloc ?_ _) | (with_reducible refine Kd.C_drewN ?_ _) | (with_reducible refine Kd.C_drew ?_)))
             (case side4 => exact (Kd.R_reads' HO341.out).2.1)
             rintro e w' ⟨rfl, ⟨nd, rfl⟩⟩
             refine ⟨_, rfl, ?_⟩
             refine hK.out _ _ ⟨(blk_cell BK293.out 0).trans rfl, (blk_cell BK293.out 1).trans rfl⟩ (fun hHeld => ?_)
             clear hK K
             refine norm_ (a' := ?_) ?_ ?_
             rotate_left
             ·show Act.put _ (some 86) _ = _
              simp only [Act.put, List.setIfInBounds_toArray, List.set_cons_zero, List.set_cons_succ, i64_w, i32_w]
              rfl
             refine pq_ 32 (some 87) HT_ ?_; refine pq_ 33 (some 88) HT_ ?_; refine pq_ 34 (some 89) HT_ ?_; refine pq_ 35 (some 90) HT_ ?_; refine pq_ 36 (some 6) HT_ ?_
             refine done_ (done_of HT_.out (by kernel_rfl)) ?_
             try go_wp2
             go_ret
             exact ⟨by first | rfl | (simp [errW_none, errW_some] <;> rfl) | (simp [*, errW_none, errW_some] <;> rfl), by repeat (first | (with_reducible first | exact HB.out | apply below_alloc | apply pw_below_drewN | apply below_drew1 | refine below_set ?_ GE293.out) | exact HB.out)⟩
            ·replace c65 := Bool.eq_false_iff.mpr c65
             subst c65
             have H1 : (some false) = some true := by rw [if_neg (show ¬ (false = true) by decide)] at H; exact H
             clear H
             have H := H1
             clear H1
             exact absurd (Option.some.inj H) (by decide)
           ·rw [if_neg c61] at H
            have c61b0 : (t334 == t335) = false := by simpa using c61
            (try (have c61b1 : decide (t334 = t335) = false := by simpa using c61))
            (try (have c61b2 : (t334 == t335) = false := by simpa using c61))
            (try (have c61b3 : ¬ (t334 = t335) := by simpa using c61))
            clear c61
            exact absurd (Option.some.inj H) (by decide)
          ·rw [if_neg c58] at H
           have c58b0 : (t332 == t333) = false := by simpa using c58
           (try (have c58b1 : decide (t332 = t333) = false := by simpa using c58))
           (try (have c58b2 : (t332 == t333) = false := by simpa using c58))
           (try (have c58b3 : ¬ (t332 = t333) := by simpa using c58))
           clear c58
           exact absurd (Option.some.inj H) (by decide)
         ·replace c55 := Bool.eq_false_iff.mpr c55
          subst c55
          have H1 : (some false) = some true := by rw [if_neg (show ¬ (false = true) by decide)] at H; exact H
          clear H
          have H := H1
          clear H1
          exact absurd (Option.some.inj H) (by decide)
        ·replace c51 := Bool.eq_false_iff.mpr c51
         subst c51
         have H1 : (some false) = some true := by rw [if_neg (show ¬ (false = true) by decide)] at H; exact H
         clear H
         have H := H1
         clear H1
         exact absurd (Option.some.inj H) (by decide)
       ·rw [if_neg c47] at H
        exact absurd H (by simp)
  ·replace c7 := Bool.eq_false_iff.mpr c7
   subst c7
   have H1 : ((rafterlaw11_awake.f k).bind fun t343 => (some t343)) = some true := by rw [if_neg (show ¬ (false = true) by decide)] at H; exact H
   clear H
   have H := H1
   clear H1
   replace H := Option.bind_eq_some_iff.mp H
   obtain ⟨t343, A840, H⟩ := H
   replace H : (some t343) = some true := H
   have A84 := Aside0.mk A840
   clear A840
   obtain rfl := Option.some.inj H
   go_enter Try.func5, Try.ntmps5
   go_wp2_with (first | ((with_reducible refine gate_dst (N := 5) rfl ?_); refine box_event ?hg (N := 5) ?hd (cs := #[.string a2_0, .int .i64 a2_1]) (t := 23) ?hr ?_; (case hd => rfl); (case hg => rfl); (case hr => first | (go_simp; done) | (go_simp; rfl)); intro gb293 hg w85 hbox hb; have n0_ := Aside0.mk (below_step (by repeat (first | (with_reducible first | exact HB.out | apply below_alloc | apply pw_below_drewN | apply below_drew1) | exact HB.out)) hb); have n1_ := Aside0.mk (hbox); have n2_ := Aside0.mk ((by rw [hg]; exact (below_size (by repeat (first | (with_reducible first | exact HB.out | apply below_alloc | apply pw_below_drewN | apply below_drew1) | exact HB.out))) : w.heap.size ≤ gb293)); have n3_ := Aside0.mk ((by rw [hg]; exact (below_size (by repeat (first | (with_reducible first | exact HB.out | apply below_alloc | apply pw_below_drewN | apply below_drew1) | exact HB.out))) : w.heap.size ≤ gb293)); clear HB; have HB := n0_; have BK293 := n1_; have GW293 := n2_; have GE293 := n3_; clear n0_ n1_ n2_ n3_; clear hb hbox hg) | ((with_reducible refine gate_callee (f := 13) rfl ?_); refine goesL_ (some 11) rfl rfl Try.func13 (by kernel_rfl) rfl #[.slice A0 l0.length c0] rfl (by (try simp only [List.map_toArray, List.map_cons, List.map_nil]); first | done | rfl | (simp only [List.length_drop, List.length_take]; rfl)) ?_; (with_reducible refine (rafterlaw11_light.calls k _ _ l0 true _ ?side1 ?side2 A4.out).mono ?_); (case side1 => repeat (first | exact (Kd.C_below HR0.out HB.out) | (with_reducible refine Kd.C_alloc ?_ _) | (with_reducible refine Kd.C_drewN ?_ _) | (with_reducible refine Kd.C_drew ?_))); (case side2 => exact HC0.out); rintro e w' ⟨rfl, ⟨nd, rfl⟩⟩; refine ⟨_, rfl, ?_⟩) | (go_at_call 13; (with_reducible refine (rafterlaw11_light.calls k _ _ l1 false _ ?side1 ?side2 A6.out).mono ?_); (case side1 => repeat (first | exact (Kd.C_below HR1.out (by repeat (first | (with_reducible first | exact HB.out | apply below_alloc | apply pw_below_drewN | apply below_drew1 | refine below_set ?_ GE293.out) | exact HB.out))) | (with_reducible refine Kd.C_alloc ?_ _) | (with_reducible refine Kd.C_drewN ?_ _) | (with_reducible refine Kd.C_drew ?_))); (case side2 => exact HC1.out); rintro e w' ⟨rfl, ⟨nd, rfl⟩⟩) | ((with_reducible refine gate_callee (f := 6) rfl ?_); refine goesL_ (some 18) rfl rfl Try.func6 (by kernel_rfl) rfl #[] rfl (by (try simp only [List.map_toArray, List.map_cons, List.map_nil]); first | done | rfl | (simp only [List.length_drop, List.length_take]; rfl)) ?_; (with_reducible refine (rafterlaw11_awake.calls k  true _ ?side1 A84.out).mono ?_); (case side1 => exact EGlob.G_below HG.out (by repeat (first | (with_reducible first | exact HB.out | apply below_alloc | apply pw_below_drewN | apply below_drew1 | refine below_set ?_ GE293.out) | exact HB.out))); rintro e w86 ⟨rfl, hb⟩; refine ⟨_, rfl, ?_⟩; have n0_ := Aside0.mk (blk_below (g := gb293) (o := .cells #[.string a2_0, .int .i64 a2_1] 23 (0, 0)) (by (with_reducible repeat (first | refine blk_drewN ?_ _ | refine blk_drew ?_ | refine blk_alloc ?_ _)); exact BK293.out) hb); have n1_ := Aside0.mk (below_step (by repeat (first | (with_reducible first | exact HB.out | apply below_alloc | apply pw_below_drewN | apply below_drew1 | refine below_set ?_ GE293.out) | exact HB.out)) hb); clear BK293; clear HB; have BK293 := n0_; have HB := n1_; clear n0_ n1_; (try clear hb); (try clear hb2); (try clear hk); (try clear hi)))
   go_ret
   exact ⟨by first | rfl | (simp [errW_none, errW_some] <;> rfl) | (simp [*, errW_none, errW_some] <;> rfl), by repeat (first | (with_reducible first | exact HB.out | apply below_alloc | apply pw_below_drewN | apply below_drew1 | refine below_set ?_ GE293.out) | exact HB.out)⟩
 ·replace c5 := Bool.eq_false_iff.mpr c5
  subst c5
  have H1 : ((rafterlaw11_awake.f k).bind fun t344 => (some t344)) = some true := by rw [if_neg (show ¬ (false = true) by decide)] at H; exact H
  clear H
  have H := H1
  clear H1
  replace H := Option.bind_eq_some_iff.mp H
  obtain ⟨t344, A870, H⟩ := H
  replace H : (some t344) = some true := H
  have A87 := Aside0.mk A870
  clear A870
  obtain rfl := Option.some.inj H
  go_enter Try.func5, Try.ntmps5
  go_wp2_with (first | ((with_reducible refine gate_dst (N := 5) rfl ?_); refine box_event ?hg (N := 5) ?hd (cs := #[.string a2_0, .int .i64 a2_1]) (t := 23) ?hr ?_; (case hd => rfl); (case hg => rfl); (case hr => first | (go_simp; done) | (go_simp; rfl)); intro gb293 hg w88 hbox hb; have n0_ := Aside0.mk (below_step (by repeat (first | (with_reducible first | exact HB.out | apply below_alloc | apply pw_below_drewN | apply below_drew1) | exact HB.out)) hb); have n1_ := Aside0.mk (hbox); have n2_ := Aside0.mk ((by rw [hg]; exact (below_size (by repeat (first | (with_reducible first | exact HB.out | apply below_alloc | apply pw_below_drewN | apply below_drew1) | exact HB.out))) : w.heap.size ≤ gb293)); have n3_ := Aside0.mk ((by rw [hg]; exact (below_size (by repeat (first | (with_reducible first | exact HB.out | apply below_alloc | apply pw_below_drewN | apply below_drew1) | exact HB.out))) : w.heap.size ≤ gb293)); clear HB; have HB := n0_; have BK293 := n1_; have GW293 := n2_; have GE293 := n3_; clear n0_ n1_ n2_ n3_; clear hb hbox hg) | ((with_reducible refine gate_callee (f := 13) rfl ?_); refine goesL_ (some 11) rfl rfl Try.func13 (by kernel_rfl) rfl #[.slice A0 l0.length c0] rfl (by (try simp only [List.map_toArray, List.map_cons, List.map_nil]); first | done | rfl | (simp only [List.length_drop, List.length_take]; rfl)) ?_; (with_reducible refine (rafterlaw11_light.calls k _ _ l0 false _ ?side1 ?side2 A4.out).mono ?_); (case side1 => repeat (first | exact (Kd.C_below HR0.out HB.out) | (with_reducible refine Kd.C_alloc ?_ _) | (with_reducible refine Kd.C_drewN ?_ _) | (with_reducible refine Kd.C_drew ?_))); (case side2 => exact HC0.out); rintro e w' ⟨rfl, ⟨nd, rfl⟩⟩; refine ⟨_, rfl, ?_⟩) | ((with_reducible refine gate_callee (f := 6) rfl ?_); refine goesL_ (some 18) rfl rfl Try.func6 (by kernel_rfl) rfl #[] rfl (by (try simp only [List.map_toArray, List.map_cons, List.map_nil]); first | done | rfl | (simp only [List.length_drop, List.length_take]; rfl)) ?_; (with_reducible refine (rafterlaw11_awake.calls k  true _ ?side1 A87.out).mono ?_); (case side1 => exact EGlob.G_below HG.out (by repeat (first | (with_reducible first | exact HB.out | apply below_alloc | apply pw_below_drewN | apply below_drew1 | refine below_set ?_ GE293.out) | exact HB.out))); rintro e w89 ⟨rfl, hb⟩; refine ⟨_, rfl, ?_⟩; have n0_ := Aside0.mk (blk_below (g := gb293) (o := .cells #[.string a2_0, .int .i64 a2_1] 23 (0, 0)) (by (with_reducible repeat (first | refine blk_drewN ?_ _ | refine blk_drew ?_ | refine blk_alloc ?_ _)); exact BK293.out) hb); have n1_ := Aside0.mk (below_step (by repeat (first | (with_reducible first | exact HB.out | apply below_alloc | apply pw_below_drewN | apply below_drew1 | refine below_set ?_ GE293.out) | exact HB.out)) hb); clear BK293; clear HB; have BK293 := n0_; have HB := n1_; clear n0_ n1_; (try clear hb); (try clear hb2); (try clear hk); (try clear hi)))
  go_ret
  exact ⟨by first | rfl | (simp [errW_none, errW_some] <;> rfl) | (simp [*, errW_none, errW_some] <;> rfl), by repeat (first | (with_reducible first | exact HB.out | apply below_alloc | apply pw_below_drewN | apply below_drew1 | refine below_set ?_ GE293.out) | exact HB.out)⟩

/-- THE ONE PURE STATEMENT of rafterlaw11_IdentSets. -/
def rafterlaw11_IdentSets.Pure : Prop := ∀ (x0 : List (S23)) (x1 : List (S23)) (x2 : S23), x0.length ≤ 9223372036854775807 → (∀ y ∈ x0, (y.f0.size ≤ maxLen) ∧ ((Lit.int .i64 y.f1).wf = true)) → x1.length ≤ 9223372036854775807 → (∀ y ∈ x1, (y.f0.size ≤ maxLen) ∧ ((Lit.int .i64 y.f1).wf = true)) → (x2.f0.size ≤ maxLen) ∧ ((Lit.int .i64 x2.f1).wf = true) → ∃ k, rafterlaw11_IdentSets.f k x0 x1 (x2).f0 (x2).f1 = some true

end Go.Proofs.Ytgbdohidlndhjaa.XIs
