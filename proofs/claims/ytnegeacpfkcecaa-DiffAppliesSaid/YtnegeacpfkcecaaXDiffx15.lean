/- Printed by px.py, a program of this session over the print of the kit: functions that the law reaches, as Lean functions, each with a proof that its Go code answers so. No condition. -/
import Derived.Test.YtnegeacpfkcecaaXDiffx0
import Derived.Test.YtnegeacpfkcecaaXDiffx14
namespace Go.Proofs.Ytnegeacpfkcecaa.XDiff
open Go.RowKit Go.Proofs.YtnegeacpfkcecaaW.PrintWords Go.Proofs.YtnegeacpfkcecaaW.PrintLast Go.Proofs.YtnegeacpfkcecaaW.PrintMore
attribute [local go_sem] max2_int min2_int max_two min_two max_three min_three max_four min_four   -- for this text's walks alone
set_option linter.unusedVariables false
set_option linter.unusedSimpArgs false

/-! ### diff_Same: function 25 -/
def diff_Same.f (k : Nat) (l0 : List (S66)) (l1 : List (S66)) : Option (Bool) := (slices_EqualFunc_api_Hunk_api_Hunk_api_Hunk_api_Hunk__diff_Same_1.f k l0 l1).bind fun t406 => (some t406)
theorem diff_Same.mono : ∀ a0 a1 k, LeO (diff_Same.f k a0 a1) (diff_Same.f (k + 1) a0 a1) := by
 intro a0 a1 k
 unfold diff_Same.f
 repeat' first
   | (with_reducible exact slices_EqualFunc_api_Hunk_api_Hunk_api_Hunk_api_Hunk__diff_Same_1.mono _ _ _)
   | (with_reducible exact LeO.refl _)
   | (with_reducible exact LeO.none _)
   | (with_reducible refine LeO.ite ?_ ?_)
   | (with_reducible refine LeO.bind ?_ (fun _ => ?_))
   | exact slices_EqualFunc_api_Hunk_api_Hunk_api_Hunk_api_Hunk__diff_Same_1.mono _ _ _
   | exact LeO.none _
   | refine LeO.ite ?_ ?_
   | refine LeO.bind ?_ (fun _ => ?_)
set_option maxHeartbeats 8000000 in
set_option maxRecDepth 100000 in
theorem diff_Same.calls (k : Nat) (A0 : Option Addr) (c0 : Nat) (l0 : List (S66)) (A1 : Option Addr) (c1 : Nat) (l1 : List (S66)) (r : Bool) (w : World) (hr0 : Kd.C k66 w A0 l0.length l0) (hc0 : l0.length ≤ c0) (hr1 : Kd.C k66 w A1 l1.length l1) (hc1 : l1.length ≤ c1) (h : diff_Same.f k l0 l1 = some r) :
  Calls Try.prog 25 #[.slice A0 l0.length c0, .slice A1 l1.length c1] w fun e w' => e = .returned (.bool r) ∧ Below w.heap.size w w' := by
 have HR0 := Aside0.mk hr0
 have HC0 := Aside0.mk hc0
 clear hr0 hc0
 have HR1 := Aside0.mk hr1
 have HC1 := Aside0.mk hc1
 clear hr1 hc1
 have HB := Aside0.mk (Below.refl w.heap.size w)
 have H : ((slices_EqualFunc_api_Hunk_api_Hunk_api_Hunk_api_Hunk__diff_Same_1.f k l0 l1).bind fun t406 => (some t406)) = some r := h
 clear h
 replace H := Option.bind_eq_some_iff.mp H
 obtain ⟨t406, A30, H⟩ := H
 replace H : (some t406) = some r := H
 have A3 := Aside0.mk A30
 clear A30
 obtain rfl := Option.some.inj H
 go_enter Try.func25, Try.ntmps25
 go_wp2_with (first | (go_at_call 58; (with_reducible refine (slices_EqualFunc_api_Hunk_api_Hunk_api_Hunk_api_Hunk__diff_Same_1.calls k _ _ l0 _ _ l1  t406 _ ?side1 ?side2 ?side3 ?side4 A3.out).mono ?_); (case side1 => repeat (first | exact HR0.out | (with_reducible refine Kd.C_alloc ?_ _) | (with_reducible refine Kd.C_drewN ?_ _) | (with_reducible refine Kd.C_drew ?_))); (case side2 => exact HC0.out); (case side3 => repeat (first | exact HR1.out | (with_reducible refine Kd.C_alloc ?_ _) | (with_reducible refine Kd.C_drewN ?_ _) | (with_reducible refine Kd.C_drew ?_))); (case side4 => exact HC1.out); rintro e w4 ⟨rfl, hb⟩; have n0_ := Aside0.mk (below_step (by repeat (first | (with_reducible first | exact HB.out | apply below_alloc | apply pw_below_drewN | apply below_drew1) | exact HB.out)) hb); clear HB; have HB := n0_; clear n0_; (try clear hb); (try clear hb2); (try clear hk); (try clear hi)))
 go_ret
 exact ⟨by first | rfl | (simp [errW_none, errW_some] <;> rfl) | (simp [*, errW_none, errW_some] <;> rfl), by repeat (first | (with_reducible first | exact HB.out | apply below_alloc | apply pw_below_drewN | apply below_drew1) | exact HB.out)⟩

/-! ### rafterref03_At: function 60 -/
mutual
def rafterref03_At.j0 : Nat → List ByteArray → List ByteArray → Int → Bool → Option (Bool)
 | 0, _, _, _, _ => none
 | k + 1, x0, x1, x2, x18 => if x18 = true then (some false) else (rafterref03_At.l0 k x0 x1 x2 0)
def rafterref03_At.l0 : Nat → List ByteArray → List ByteArray → Int → Int → Option (Bool)
 | 0, _, _, _, _ => none
 | k + 1, x0, x1, x2, x7 => if x7 < (x1.length : Int) then (if 0 ≤ (wrap64 (x2 + x7)) then (if (wrap64 (x2 + x7)) < (x0.length : Int) then (if 0 ≤ x7 then (if (rdOf ByteArray.empty x0 (wrap64 (x2 + x7))).toList = (rdOf ByteArray.empty x1 x7).toList then (rafterref03_At.l0 k x0 x1 x2 (wrap64 (x7 + 1))) else (some false)) else (none)) else (none)) else (none)) else (some true)
end
def rafterref03_At.f (k : Nat) (l0 : List ByteArray) (l1 : List ByteArray) (a2 : Int) : Option (Bool) := if a2 < 0 then (rafterref03_At.j0 k l0 l1 a2 true) else (rafterref03_At.j0 k l0 l1 a2 (decide ((l1.length : Int) > (wrap64 ((l0.length : Int) - a2)))))
theorem rafterref03_At.mono_l : ∀ k, (∀ y0 y1 y2 y3, LeO (rafterref03_At.j0 k y0 y1 y2 y3) (rafterref03_At.j0 (k + 1) y0 y1 y2 y3)) ∧ (∀ y0 y1 y2 y3, LeO (rafterref03_At.l0 k y0 y1 y2 y3) (rafterref03_At.l0 (k + 1) y0 y1 y2 y3))
 | 0 => ⟨fun _ _ _ _ r h => by simp [rafterref03_At.j0] at h, fun _ _ _ _ r h => by simp [rafterref03_At.l0] at h⟩
 | k + 1 => by
  obtain ⟨ih0, ih1⟩ := rafterref03_At.mono_l k
  refine ⟨?_, ?_⟩
  ·intro y0 y1 y2 y3
   unfold rafterref03_At.j0
   repeat' first
   | (with_reducible exact ih0 _ _ _ _)
   | (with_reducible exact ih1 _ _ _ _)
   | (with_reducible exact LeO.refl _)
   | (with_reducible exact LeO.none _)
   | (with_reducible refine LeO.ite ?_ ?_)
   | (with_reducible refine LeO.bind ?_ (fun _ => ?_))
   | exact ih0 _ _ _ _
   | exact ih1 _ _ _ _
   | exact LeO.none _
   | refine LeO.ite ?_ ?_
   | refine LeO.bind ?_ (fun _ => ?_)
  ·intro y0 y1 y2 y3
   unfold rafterref03_At.l0
   repeat' first
   | (with_reducible exact ih0 _ _ _ _)
   | (with_reducible exact ih1 _ _ _ _)
   | (with_reducible exact LeO.refl _)
   | (with_reducible exact LeO.none _)
   | (with_reducible refine LeO.ite ?_ ?_)
   | (with_reducible refine LeO.bind ?_ (fun _ => ?_))
   | exact ih0 _ _ _ _
   | exact ih1 _ _ _ _
   | exact LeO.none _
   | refine LeO.ite ?_ ?_
   | refine LeO.bind ?_ (fun _ => ?_)
theorem rafterref03_At.mono : ∀ a0 a1 a2 k, LeO (rafterref03_At.f k a0 a1 a2) (rafterref03_At.f (k + 1) a0 a1 a2) := by
 intro a0 a1 a2 k
 obtain ⟨ih0, ih1⟩ := rafterref03_At.mono_l k
 unfold rafterref03_At.f
 repeat' first
   | (with_reducible exact ih0 _ _ _ _)
   | (with_reducible exact ih1 _ _ _ _)
   | (with_reducible exact LeO.refl _)
   | (with_reducible exact LeO.none _)
   | (with_reducible refine LeO.ite ?_ ?_)
   | (with_reducible refine LeO.bind ?_ (fun _ => ?_))
   | exact ih0 _ _ _ _
   | exact ih1 _ _ _ _
   | exact LeO.none _
   | refine LeO.ite ?_ ?_
   | refine LeO.bind ?_ (fun _ => ?_)
set_option maxHeartbeats 8000000 in
set_option maxRecDepth 100000 in
theorem rafterref03_At.calls (k : Nat) (A0 : Option Addr) (c0 : Nat) (l0 : List ByteArray) (A1 : Option Addr) (c1 : Nat) (l1 : List ByteArray) (a2 : Int) (r : Bool) (w : World) (hr0 : Kd.C Kd.string w A0 l0.length l0) (hc0 : l0.length ≤ c0) (hr1 : Kd.C Kd.string w A1 l1.length l1) (hc1 : l1.length ≤ c1) (h : rafterref03_At.f k l0 l1 a2 = some r) :
  Calls Try.prog 60 #[.slice A0 l0.length c0, .slice A1 l1.length c1, .int .i64 a2] w fun e w' => e = .returned (.bool r) ∧ Drawn0 w w' := by
 have HR0 := Aside0.mk hr0
 have HC0 := Aside0.mk hc0
 clear hr0 hc0
 have HR1 := Aside0.mk hr1
 have HC1 := Aside0.mk hc1
 clear hr1 hc1
 have H : (if a2 < 0 then (rafterref03_At.j0 k l0 l1 a2 true) else (rafterref03_At.j0 k l0 l1 a2 (decide ((l1.length : Int) > (wrap64 ((l0.length : Int) - a2)))))) = some r := h
 clear h
 have HC4 := Aside0.mk H
 clear H
 go_enter Try.func60, Try.ntmps60
 go_upto_region 1 with (fail)
 repeat (go_quiet (fail); go_upto_region 1 with (fail))
 go_cut [18] (fun v18 wc => ∃ (kq : Nat) (x18_3 : Bool), v18 = .bool x18_3 ∧ Aside0 (rafterref03_At.j0 kq l0 l1 a2 x18_3 = some r) ∧ Aside0 (kq ≤ k) ∧ Drawn0 w wc)
 case first =>
  have H := HC4.out
  clear HC4
  by_cases c5 : a2 < 0
  ·rw [if_pos c5] at H
   have c5b0 : decide (a2 < 0) = true := decide_eq_true c5
   clear c5
   (first | rw [c5b0] | (simp only [i64_w, i32_w]; rw [c5b0]) | skip)
   have H' := Aside0.mk H
   clear H
   go_wp2
   repeat (go_quiet (fail); try go_wp2)
   go_meet
   case rel => exact ⟨_, (true), (by first | rfl | (simp; done) | (simp [*]; done)), H', ⟨by first | omega | exact Nat.le_refl _⟩, by repeat (first | exact Drawn0.refl _ | apply Drawn0.step)⟩
  ·rw [if_neg c5] at H
   have c5b0 : decide (a2 < 0) = false := decide_eq_false c5
   clear c5
   (first | rw [c5b0] | (simp only [i64_w, i32_w]; rw [c5b0]) | skip)
   have H' := Aside0.mk H
   clear H
   go_wp2
   repeat (go_quiet (fail); try go_wp2)
   go_meet
   case rel => exact ⟨_, (decide ((l1.length : Int) > (wrap64 ((l0.length : Int) - a2)))), (by first | rfl | (simp; done) | (simp [*]; done)), H', ⟨by first | omega | exact Nat.le_refl _⟩, by repeat (first | exact Drawn0.refl _ | apply Drawn0.step)⟩
 case rest =>
  clear HC4
  try clear c1
  try clear p2
  try clear c5
  try clear c5b0
  obtain ⟨kq, x18_3, rfl, HA, HJ3, ⟨mc3, rfl⟩⟩ := hcut
  cases kq with
  | zero => exact absurd HA.out (by simp [rafterref03_At.j0])
  | succ kj3 =>
   have H := HA.out
   clear HA
   simp only [rafterref03_At.j0] at H
   by_cases c6 : x18_3 = true
   ·subst c6
    have H1 : (some false) = some r := by rw [if_pos rfl] at H; exact H
    clear H
    have H := H1
    clear H1
    obtain rfl := Option.some.inj H
    go_wp2
    repeat (go_quiet (fail); try go_wp2)
    go_ret
    exact ⟨by first | rfl | (simp; done) | (simp [*]; done), by repeat (first | exact Drawn0.refl _ | apply Drawn0.step)⟩
   ·replace c6 := Bool.eq_false_iff.mpr c6
    subst c6
    have H1 : (rafterref03_At.l0 kj3 l0 l1 a2 0) = some r := by rw [if_neg (show ¬ (false = true) by decide)] at H; exact H
    clear H
    have H := H1
    clear H1
    have H' := Aside0.mk H
    clear H
    go_wp2
    repeat (go_quiet (fail); try go_wp2)
    go_loopg [7] kj3 (fun kq v7 w' => ∃ (x7_2 : Int), v7 = .int .i64 x7_2 ∧ Aside0 (rafterref03_At.l0 kq l0 l1 a2 x7_2 = some r) ∧ Aside0 (kq ≤ kj3) ∧ Drawn0 w w')
    case atStart => exact ⟨(0), (by first | rfl | (simp; done) | (simp [*]; done)), H', ⟨Nat.le_refl _⟩, by repeat (first | exact Drawn0.refl _ | apply Drawn0.step)⟩
    case round =>
     clear H'
     try clear c1
     try clear p2
     try clear c3
     try clear c5
     try clear c5b0
     try clear c6
     try clear p6
     try clear p2
     obtain ⟨x7_2, rfl, HA, HK2, ⟨m2, rfl⟩⟩ := hrel
     cases gk with
     | zero => exact absurd HA.out (by simp [rafterref03_At.l0])
     | succ k2 =>
      have H := HA.out
      clear HA
      simp only [rafterref03_At.l0] at H
      by_cases c7 : x7_2 < (l1.length : Int)
      ·rw [if_pos c7] at H
       have c7b0 : decide (x7_2 < (l1.length : Int)) = true := decide_eq_true c7
       clear c7
       obtain ⟨ji8, hji8⟩ : ∃ j_ : Int, (wrap64 (a2 + x7_2)) = j_ := ⟨_, rfl⟩
       replace H : (if 0 ≤ (ji8) then (if (ji8) < (l0.length : Int) then (if 0 ≤ x7_2 then (if (rdOf ByteArray.empty l0 (ji8)).toList = (rdOf ByteArray.empty l1 x7_2).toList then (rafterref03_At.l0 k2 l0 l1 a2 (wrap64 (x7_2 + 1))) else (some false)) else (none)) else (none)) else (none)) = some r := by first | (rw [hji8] at H; exact H) | (simp only [hji8] at H ⊢; exact H)
       have hji8w : (IntKind.i64.wrap (a2 + x7_2)) = ji8 := (i64_w _).trans hji8
       by_cases c9 : 0 ≤ (ji8)
       ·rw [if_pos c9] at H
        have c9b0 : decide (0 ≤ (ji8)) = true := decide_eq_true c9
        clear c9
        by_cases c10 : (ji8) < (l0.length : Int)
        ·rw [if_pos c10] at H
         have c10b0 : decide ((ji8) < (l0.length : Int)) = true := decide_eq_true c10
         clear c10
         by_cases c11 : 0 ≤ x7_2
         ·rw [if_pos c11] at H
          have c11b0 : decide (0 ≤ x7_2) = true := decide_eq_true c11
          clear c11
          by_cases c12 : (rdOf ByteArray.empty l0 (ji8)).toList = (rdOf ByteArray.empty l1 x7_2).toList
          ·rw [if_pos c12] at H
           have c12b0 : ((rdOf ByteArray.empty l0 (ji8)).toList == (rdOf ByteArray.empty l1 x7_2).toList) = true := beq_iff_eq.mpr c12
           have c12b1 : ((rdOf ByteArray.empty l0 (ji8)).toList != (rdOf ByteArray.empty l1 x7_2).toList) = false := bne_eq_false_iff_eq.mpr c12
           clear c12
           have H' := Aside0.mk H
           clear H
           have p407 : 0 ≤ ((ji8) : Int) := of_decide_eq_true (by first | (with_reducible assumption) | assumption)
           have q407 : (ji8) < (l0.length : Int) := of_decide_eq_true (by first | (with_reducible assumption) | assumption)
           obtain ⟨ad407, e407, hx407_0⟩ := Kd.at_string HR0.out (ji8) p407 q407
           cases e407
           replace p407 := eq_true p407
           replace q407 := eq_true q407
           have p408 : 0 ≤ (x7_2 : Int) := of_decide_eq_true (by first | (with_reducible assumption) | assumption)
           have q408 : x7_2 < (l1.length : Int) := of_decide_eq_true (by first | (with_reducible assumption) | assumption)
           obtain ⟨ad408, e408, hx408_0⟩ := Kd.at_string HR1.out x7_2 p408 q408
           cases e408
           replace p408 := eq_true p408
           replace q408 := eq_true q408
           go_wp2
           repeat (go_quiet (fail); try go_wp2)
           go_roundg k2
           case measure => have := HJ3.out; have := HK2.out; omega
           case rel => exact ⟨(wrap64 (x7_2 + 1)), (by first | rfl | (simp; done) | (simp [*]; done)), H', ⟨by have := HJ3.out; have := HK2.out; omega⟩, by repeat (first | exact Drawn0.refl _ | apply Drawn0.step)⟩
          ·rw [if_neg c12] at H
           have c12b0 : ((rdOf ByteArray.empty l0 (ji8)).toList == (rdOf ByteArray.empty l1 x7_2).toList) = false := beq_eq_false_iff_ne.mpr c12
           have c12b1 : ((rdOf ByteArray.empty l0 (ji8)).toList != (rdOf ByteArray.empty l1 x7_2).toList) = true := bne_iff_ne.mpr c12
           obtain rfl := Option.some.inj H
           have p407 : 0 ≤ ((ji8) : Int) := of_decide_eq_true (by first | (with_reducible assumption) | assumption)
           have q407 : (ji8) < (l0.length : Int) := of_decide_eq_true (by first | (with_reducible assumption) | assumption)
           obtain ⟨ad407, e407, hx407_0⟩ := Kd.at_string HR0.out (ji8) p407 q407
           cases e407
           replace p407 := eq_true p407
           replace q407 := eq_true q407
           have p408 : 0 ≤ (x7_2 : Int) := of_decide_eq_true (by first | (with_reducible assumption) | assumption)
           have q408 : x7_2 < (l1.length : Int) := of_decide_eq_true (by first | (with_reducible assumption) | assumption)
           obtain ⟨ad408, e408, hx408_0⟩ := Kd.at_string HR1.out x7_2 p408 q408
           cases e408
           replace p408 := eq_true p408
           replace q408 := eq_true q408
           go_wp2
           repeat (go_quiet (fail); try go_wp2)
           go_ret
           exact ⟨by first | rfl | (simp; done) | (simp only [← hji8] <;> (first | rfl | simp)) | (simp [*]; done), by repeat (first | exact Drawn0.refl _ | apply Drawn0.step)⟩
         ·rw [if_neg c11] at H
          exact absurd H (by simp)
        ·rw [if_neg c10] at H
         exact absurd H (by simp)
       ·rw [if_neg c9] at H
        exact absurd H (by simp)
      ·rw [if_neg c7] at H
       have c7b0 : decide (x7_2 < (l1.length : Int)) = false := decide_eq_false c7
       clear c7
       obtain rfl := Option.some.inj H
       go_wp2
       repeat (go_quiet (fail); try go_wp2)
       go_ret
       exact ⟨by first | rfl | (simp; done) | (simp [*]; done), by repeat (first | exact Drawn0.refl _ | apply Drawn0.step)⟩

/-! ### rafterref04_Apply: function 26 -/
def rafterref04_Apply.l0 : Nat → List ByteArray → List (S66) → List ByteArray → Int → Option (List ByteArray × Bool)
 | 0, _, _, _, _ => none
 | k + 1, x0, x1, x6, x7 => if x7 ≥ 0 then (if 0 ≤ x7 then (if x7 < (x1.length : Int) then (if ((rd_T66 x1 x7).f0) > (x0.length : Int) then (some (([] : List ByteArray), false)) else ((rafterref03_At.f k x0 ((rd_T66 x1 x7).f1) ((rd_T66 x1 x7).f0)).bind fun t417 => (if t417 = true then ((some (([] : List ByteArray) : List ByteArray)).bind fun y418 => (if 0 ≤ ((rd_T66 x1 x7).f0) then (if ((rd_T66 x1 x7).f0) ≤ (x6.length : Int) then ((some (x6.take (((rd_T66 x1 x7).f0) : Int).toNat : List ByteArray)).bind fun y421 => (if y418.length + y421.length < 8796093022208 then ((some (y418 ++ y421 : List ByteArray)).bind fun y425 => (if y425.length + ((rd_T66 x1 x7).f2).length < 8796093022208 then ((some (y425 ++ ((rd_T66 x1 x7).f2) : List ByteArray)).bind fun y428 => (if 0 ≤ (wrap64 (((rd_T66 x1 x7).f0) + (((rd_T66 x1 x7).f1).length : Int))) then (if (wrap64 (((rd_T66 x1 x7).f0) + (((rd_T66 x1 x7).f1).length : Int))) ≤ (x6.length : Int) then ((some (x6.drop ((wrap64 (((rd_T66 x1 x7).f0) + (((rd_T66 x1 x7).f1).length : Int))) : Int).toNat : List ByteArray)).bind fun y431 => (if y428.length + y431.length < 8796093022208 then (rafterref04_Apply.l0 k x0 x1 (y428 ++ y431) (wrap64 (x7 - 1))) else (none))) else (none)) else (none))) else (none))) else (none))) else (none)) else (none))) else (some (([] : List ByteArray), false))))) else (none)) else (none)) else (some (x6, true))
def rafterref04_Apply.f (k : Nat) (l0 : List ByteArray) (l1 : List (S66)) : Option (List ByteArray × Bool) := (some (([] : List ByteArray) : List ByteArray)).bind fun y409 => (if y409.length + l0.length < 8796093022208 then (rafterref04_Apply.l0 k l0 l1 (y409 ++ l0) (wrap64 ((l1.length : Int) - 1))) else (none))
theorem rafterref04_Apply.mono_l : ∀ k, (∀ y0 y1 y2 y3, LeO (rafterref04_Apply.l0 k y0 y1 y2 y3) (rafterref04_Apply.l0 (k + 1) y0 y1 y2 y3))
 | 0 => fun _ _ _ _ r h => by simp [rafterref04_Apply.l0] at h
 | k + 1 => by
  have ih0 := rafterref04_Apply.mono_l k
  ·intro y0 y1 y2 y3
   unfold rafterref04_Apply.l0
   repeat' first
   | (with_reducible exact ih0 _ _ _ _)
   | (with_reducible exact rafterref03_At.mono _ _ _ _)
   | (with_reducible exact LeO.refl _)
   | (with_reducible exact LeO.none _)
   | (with_reducible refine LeO.ite ?_ ?_)
   | (with_reducible refine LeO.bind ?_ (fun _ => ?_))
   | exact ih0 _ _ _ _
   | exact rafterref03_At.mono _ _ _ _
   | exact LeO.none _
   | refine LeO.ite ?_ ?_
   | refine LeO.bind ?_ (fun _ => ?_)
theorem rafterref04_Apply.mono : ∀ a0 a1 k, LeO (rafterref04_Apply.f k a0 a1) (rafterref04_Apply.f (k + 1) a0 a1) := by
 intro a0 a1 k
 have ih0 := rafterref04_Apply.mono_l k
 unfold rafterref04_Apply.f
 repeat' first
   | (with_reducible exact ih0 _ _ _ _)
   | (with_reducible exact rafterref03_At.mono _ _ _ _)
   | (with_reducible exact LeO.refl _)
   | (with_reducible exact LeO.none _)
   | (with_reducible refine LeO.ite ?_ ?_)
   | (with_reducible refine LeO.bind ?_ (fun _ => ?_))
   | exact ih0 _ _ _ _
   | exact rafterref03_At.mono _ _ _ _
   | exact LeO.none _
   | refine LeO.ite ?_ ?_
   | refine LeO.bind ?_ (fun _ => ?_)
set_option maxHeartbeats 8000000 in
set_option maxRecDepth 100000 in
theorem rafterref04_Apply.calls (k : Nat) (A0 : Option Addr) (c0 : Nat) (l0 : List ByteArray) (A1 : Option Addr) (c1 : Nat) (l1 : List (S66)) (r1 : List ByteArray) (r2 : Bool) (w : World) (hr0 : Kd.C Kd.string w A0 l0.length l0) (hc0 : l0.length ≤ c0) (hr1 : Kd.C k66 w A1 l1.length l1) (hc1 : l1.length ≤ c1) (h : rafterref04_Apply.f k l0 l1 = some (r1, r2)) :
  Calls Try.prog 26 #[.slice A0 l0.length c0, .slice A1 l1.length c1] w fun e w' => ∃ v0_ : Value, e = .returned (.tuple #[v0_, .bool r2]) ∧ Kd.R Kd.string 9 w' w.heap.size (fun _ => True) v0_ r1 ∧ Below w.heap.size w w' := by
 have hu66 := Try.underlying66
 have HR0 := Aside0.mk hr0
 have HC0 := Aside0.mk hc0
 clear hr0 hc0
 have HR1 := Aside0.mk hr1
 have HC1 := Aside0.mk hc1
 clear hr1 hc1
 have HB := Aside0.mk (Below.refl w.heap.size w)
 have H : ((some (([] : List ByteArray) : List ByteArray)).bind fun y409 => (if y409.length + l0.length < 8796093022208 then (rafterref04_Apply.l0 k l0 l1 (y409 ++ l0) (wrap64 ((l1.length : Int) - 1))) else (none))) = some (r1, r2) := h
 clear h
 obtain ⟨y409, hy409⟩ : ∃ y_ : List ByteArray, y_ = (([] : List ByteArray)) := ⟨_, rfl⟩
 replace H : (if y409.length + l0.length < 8796093022208 then (rafterref04_Apply.l0 k l0 l1 (y409 ++ l0) (wrap64 ((l1.length : Int) - 1))) else (none)) = some (r1, r2) := by first | (rw [hy409]; with_reducible exact H) | (have H2_ := (Option.bind_some _ _).symm.trans H; rw [hy409]; with_reducible exact H2_) | (have H2_ := (Option.bind_some _ _).symm.trans H; with_reducible exact H2_) | with_reducible exact H | (rw [hy409]; exact H) | exact H
 have Ny409 := Aside0.mk hy409
 clear hy409
 by_cases c3 : y409.length + l0.length < 8796093022208
 ·rw [if_pos c3] at H
  have LMc3 := Aside0.mk c3
  clear c3
  obtain ⟨y412, hy412⟩ : ∃ y_ : List ByteArray, y_ = (y409 ++ l0) := ⟨_, rfl⟩
  replace H : (rafterref04_Apply.l0 k l0 l1 y412 (wrap64 ((l1.length : Int) - 1))) = some (r1, r2) := by first | (rw [hy412]; with_reducible exact H) | (have H2_ := (Option.bind_some _ _).symm.trans H; rw [hy412]; with_reducible exact H2_) | (have H2_ := (Option.bind_some _ _).symm.trans H; with_reducible exact H2_) | with_reducible exact H | (rw [hy412]; exact H) | exact H
  have Ny412 := Aside0.mk hy412
  clear hy412
  have H' := Aside0.mk H
  clear H
  go_enter Try.func26, Try.ntmps26
  go_wp2_with (first | ((with_reducible refine gate_dst (N := 10) rfl ?_); refine Kd.R_lit Kd.string _ 9 ?hg (N := 10) ?hd (xs := ([] : List ByteArray)) (inner := []) (ok := fun _ => True) (okp := fun _ => True) ?hr ?hp (fun _ hk => hk) trivial (Below.refl _ _) (Nat.le_refl _) (by simp) ?_; (case hd => rfl); (case hg => rfl); (case hr => first | (go_simp; done) | (go_simp; rfl)); (case hp => exact (Reps.none _ _)); intro v410 w4 ho5 hb hg_ hnew_; clear hg_ hnew_; (first | rw [← Ny409.out] at ho5 | (simp only [Int.reduceToNat] at ho5; rw [← Ny409.out] at ho5)); have n0_ := Aside0.mk (Kd.R_lower ho5 (below_size (by repeat (first | (with_reducible first | exact HB.out | apply below_alloc | apply pw_below_drewN | apply below_drew1) | exact HB.out)))); have n1_ := Aside0.mk (below_step (by repeat (first | (with_reducible first | exact HB.out | apply below_alloc | apply pw_below_drewN | apply below_drew1) | exact HB.out)) hb); clear HB; have HO411 := n0_; have HB := n1_; clear n0_ n1_; clear hb ho5) | ((with_reducible refine gate_builtin (b := .append) (xs := #[.tmp 10, .tmp 11]) rfl ?_); at_builtin; refine Kd.R_append_rows Kd.string (w0 := w) w.heap.size rfl (.tmp 10) (.tmp 11) 22 9 (.string ⟨#[]⟩) 16 rfl Try.underlying22 info9 rfl (by decide) (by omega) v410 y409 l0 _ _ _ (fun _ => True) (fun _ => False) rfl rfl ?aO ?aR (fun _ _ h => h) (fun _ h => h.elim) ?aF ?aB ?aS ?aL ?_; (case aR => repeat (first | exact (Kd.C_below HR0.out HB.out) | (with_reducible refine Kd.C_alloc ?_ _) | (with_reducible refine Kd.C_drewN ?_ _) | (with_reducible refine Kd.C_drew ?_))); (case aB => exact (by repeat (first | (with_reducible first | exact HB.out | apply below_alloc | apply pw_below_drewN | apply below_drew1) | exact HB.out))); (case aF => exact (fun _ _ => trivial)); (case aO => exact (by (with_reducible repeat (first | apply Kd.R_alloc | apply Kd.R_drewN | apply Kd.R_drew)); exact HO411.out)); (case aS => exact (below_size (by repeat (first | (with_reducible first | exact HB.out | apply below_alloc | apply pw_below_drewN | apply below_drew1) | exact HB.out)))); (case aL => have := LMc3.out; omega); intro v413 w6 ho hb hg hat; rw [← Ny412.out] at ho; have n0_ := Aside0.mk (hb); have n1_ := Aside0.mk (ho); clear HB; clear HO411; have HB := n0_; have HO414 := n1_; clear n0_ n1_; clear ho hb hg hat))
  go_loopg [6, 7] k (fun kq v6 v7 w' => ∃ (x6_1 : List ByteArray) (x7_1 : Int), v7 = .int .i64 x7_1 ∧ Aside0 (rafterref04_Apply.l0 kq l0 l1 x6_1 x7_1 = some (r1, r2)) ∧ Aside0 (kq ≤ k) ∧ Aside0 (Kd.R Kd.string 9 w' w.heap.size (fun _ => True) v6 x6_1) ∧ Aside0 (Below w.heap.size w w'))
  case atStart => exact ⟨(y412), (wrap64 ((l1.length : Int) - 1)), (by first | rfl | (simp; done) | (simp [*]; done)), H', ⟨Nat.le_refl _⟩, ⟨by (with_reducible repeat (first | apply Kd.R_alloc | apply Kd.R_drewN | apply Kd.R_drew)); exact HO414.out⟩, ⟨by repeat (first | (with_reducible first | exact HB.out | apply below_alloc | apply pw_below_drewN | apply below_drew1) | exact HB.out)⟩⟩
  case round =>
   clear H'
   try clear c1
   try clear c2
   try clear p2
   try clear c3
   try clear p6
   obtain ⟨x6_1, x7_1, rfl, HA, HK1, HO_6, HB⟩ := hrel
   cases gk with
   | zero => exact absurd HA.out (by simp [rafterref04_Apply.l0])
   | succ k1 =>
    have H := HA.out
    clear HA
    simp only [rafterref04_Apply.l0] at H
    by_cases c7 : x7_1 ≥ 0
    ·rw [if_pos c7] at H
     have c7b0 : decide (0 ≤ x7_1) = true := decide_eq_true c7
     clear c7
     by_cases c8 : 0 ≤ x7_1
     ·rw [if_pos c8] at H
      have c8b0 : decide (0 ≤ x7_1) = true := decide_eq_true c8
      clear c8
      by_cases c9 : x7_1 < (l1.length : Int)
      ·rw [if_pos c9] at H
       have c9b0 : decide (x7_1 < (l1.length : Int)) = true := decide_eq_true c9
       clear c9
       by_cases c10 : ((rd_T66 l1 x7_1).f0) > (l0.length : Int)
       ·rw [if_pos c10] at H
        have c10b0 : decide ((l0.length : Int) < ((rd_T66 l1 x7_1).f0)) = true := decide_eq_true c10
        clear c10
        simp only [Option.some.injEq, Prod.mk.injEq] at H
        obtain ⟨rfl, rfl⟩ := H
        have p415 : 0 ≤ (x7_1 : Int) := of_decide_eq_true (by first | (with_reducible assumption) | assumption)
        have q415 : x7_1 < (l1.length : Int) := of_decide_eq_true (by first | (with_reducible assumption) | assumption)
        obtain ⟨ad415, A415_1, c415_1, A415_2, c415_2, e415, hx415_0, hx415_1, hx415_2, hl415_1, hi415_1, hl415_2, hi415_2⟩ := at_T66 HR1.out x7_1 p415 q415
        cases e415
        replace hx415_0 := (HB.out.cell (World.block_lt_of_cell? w _ hx415_0)).trans hx415_0
        replace hx415_1 := (HB.out.cell (World.block_lt_of_cell? w _ hx415_1)).trans hx415_1
        replace hx415_2 := (HB.out.cell (World.block_lt_of_cell? w _ hx415_2)).trans hx415_2
        have HR415_1 := Aside0.mk hi415_1
        have HC415_1 := Aside0.mk hl415_1
        clear hi415_1 hl415_1
        have HR415_2 := Aside0.mk hi415_2
        have HC415_2 := Aside0.mk hl415_2
        clear hi415_2 hl415_2
        replace p415 := eq_true p415
        replace q415 := eq_true q415
        go_wp2_with (first | ((with_reducible refine gate_dst (N := 8) rfl ?_); refine box_event ?hg (N := 8) ?hd (cs := #[.int .i64 0, .slice none 0 0, .slice none 0 0]) (t := 66) ?hr ?_; (case hd => rfl); (case hg => rfl); (case hr => first | (go_simp; done) | (go_simp; rfl)); intro gb416 hg w11 hbox hb; have n0_ := Aside0.mk (Kd.R_below (by (with_reducible repeat (first | apply Kd.R_alloc | apply Kd.R_drewN | apply Kd.R_drew)); exact HO_6.out) hb); have n1_ := Aside0.mk (below_step (by repeat (first | (with_reducible first | exact HB.out | apply below_alloc | apply pw_below_drewN | apply below_drew1) | exact HB.out)) hb); have n2_ := Aside0.mk (hbox); have n3_ := Aside0.mk ((by rw [hg]; exact (below_size (by repeat (first | (with_reducible first | exact HB.out | apply below_alloc | apply pw_below_drewN | apply below_drew1) | exact HB.out))) : w.heap.size ≤ gb416)); have n4_ := Aside0.mk ((by rw [hg]; exact (below_size (by repeat (first | (with_reducible first | exact HB.out | apply below_alloc | apply pw_below_drewN | apply below_drew1) | exact HB.out))) : w.heap.size ≤ gb416)); clear HO_6; clear HB; have HO_6 := n0_; have HB := n1_; have BK416 := n2_; have GW416 := n3_; have GE416 := n4_; clear n0_ n1_ n2_ n3_ n4_; clear hb hbox hg; have hcz12_0 : w11.cell? ⟨gb416, 0, none⟩ = some (.int .i64 0) := (blk_cell BK416.out 0).trans rfl; have hcz12_1 : w11.cell? ⟨gb416, 1, none⟩ = some (.slice none 0 0) := (blk_cell BK416.out 1).trans rfl; have hcz12_2 : w11.cell? ⟨gb416, 2, none⟩ = some (.slice none 0 0) := (blk_cell BK416.out 2).trans rfl; have hfz12_0 := blk_frozen BK416.out 0; have hfz12_1 := blk_frozen BK416.out 1; have hfz12_2 := blk_frozen BK416.out 2))
        go_ret2
        exact ⟨_, by first | rfl | (simp [errW_none, errW_some] <;> rfl) | (simp [*, errW_none, errW_some] <;> rfl), by first | exact Kd.R_nil _ _ _ _ _ | exact Kd.N_nil _ _ _ _ _ | exact Kd.V_nil _ _ _ _ _ | exact Kd.Q_nil _ _ _ _ _ | exact Kd.S_nil _ _ _ _ _, by repeat (first | (with_reducible first | exact HB.out | apply below_alloc | apply pw_below_drewN | apply below_drew1 | refine below_set ?_ GE416.out) | exact HB.out)⟩
       ·rw [if_neg c10] at H
        have c10b0 : decide ((l0.length : Int) < ((rd_T66 l1 x7_1).f0)) = false := decide_eq_false c10
        clear c10
        replace H := Option.bind_eq_some_iff.mp H
        obtain ⟨t417, A130, H⟩ := H
        replace H : (if t417 = true then ((some (([] : List ByteArray) : List ByteArray)).bind fun y418 => (if 0 ≤ ((rd_T66 l1 x7_1).f0) then (if ((rd_T66 l1 x7_1).f0) ≤ (x6_1.length : Int) then ((some (x6_1.take (((rd_T66 l1 x7_1).f0) : Int).toNat : List ByteArray)).bind fun y421 => (if y418.length + y421.length < 8796093022208 then ((some (y418 ++ y421 : List ByteArray)).bind fun y425 => (if y425.length + ((rd_T66 l1 x7_1).f2).length < 8796093022208 then ((some (y425 ++ ((rd_T66 l1 x7_1).f2) : List ByteArray)).bind fun y428 => (if 0 ≤ (wrap64 (((rd_T66 l1 x7_1).f0) + (((rd_T66 l1 x7_1).f1).length : Int))) then (if (wrap64 (((rd_T66 l1 x7_1).f0) + (((rd_T66 l1 x7_1).f1).length : Int))) ≤ (x6_1.length : Int) then ((some (x6_1.drop ((wrap64 (((rd_T66 l1 x7_1).f0) + (((rd_T66 l1 x7_1).f1).length : Int))) : Int).toNat : List ByteArray)).bind fun y431 => (if y428.length + y431.length < 8796093022208 then (rafterref04_Apply.l0 k1 l0 l1 (y428 ++ y431) (wrap64 (x7_1 - 1))) else (none))) else (none)) else (none))) else (none))) else (none))) else (none)) else (none))) else (some (([] : List ByteArray), false))) = some (r1, r2) := H
        have A13 := Aside0.mk A130
        clear A130
        by_cases c14 : t417 = true
        ·subst c14
         have H1 : ((some (([] : List ByteArray) : List ByteArray)).bind fun y418 => (if 0 ≤ ((rd_T66 l1 x7_1).f0) then (if ((rd_T66 l1 x7_1).f0) ≤ (x6_1.length : Int) then ((some (x6_1.take (((rd_T66 l1 x7_1).f0) : Int).toNat : List ByteArray)).bind fun y421 => (if y418.length + y421.length < 8796093022208 then ((some (y418 ++ y421 : List ByteArray)).bind fun y425 => (if y425.length + ((rd_T66 l1 x7_1).f2).length < 8796093022208 then ((some (y425 ++ ((rd_T66 l1 x7_1).f2) : List ByteArray)).bind fun y428 => (if 0 ≤ (wrap64 (((rd_T66 l1 x7_1).f0) + (((rd_T66 l1 x7_1).f1).length : Int))) then (if (wrap64 (((rd_T66 l1 x7_1).f0) + (((rd_T66 l1 x7_1).f1).length : Int))) ≤ (x6_1.length : Int) then ((some (x6_1.drop ((wrap64 (((rd_T66 l1 x7_1).f0) + (((rd_T66 l1 x7_1).f1).length : Int))) : Int).toNat : List ByteArray)).bind fun y431 => (if y428.length + y431.length < 8796093022208 then (rafterref04_Apply.l0 k1 l0 l1 (y428 ++ y431) (wrap64 (x7_1 - 1))) else (none))) else (none)) else (none))) else (none))) else (none))) else (none)) else (none))) = some (r1, r2) := by rw [if_pos rfl] at H; exact H
         clear H
         have H := H1
         clear H1
         obtain ⟨y418, hy418⟩ : ∃ y_ : List ByteArray, y_ = (([] : List ByteArray)) := ⟨_, rfl⟩
         replace H : (if 0 ≤ ((rd_T66 l1 x7_1).f0) then (if ((rd_T66 l1 x7_1).f0) ≤ (x6_1.length : Int) then ((some (x6_1.take (((rd_T66 l1 x7_1).f0) : Int).toNat : List ByteArray)).bind fun y421 => (if y418.length + y421.length < 8796093022208 then ((some (y418 ++ y421 : List ByteArray)).bind fun y425 => (if y425.length + ((rd_T66 l1 x7_1).f2).length < 8796093022208 then ((some (y425 ++ ((rd_T66 l1 x7_1).f2) : List ByteArray)).bind fun y428 => (if 0 ≤ (wrap64 (((rd_T66 l1 x7_1).f0) + (((rd_T66 l1 x7_1).f1).length : Int))) then (if (wrap64 (((rd_T66 l1 x7_1).f0) + (((rd_T66 l1 x7_1).f1).length : Int))) ≤ (x6_1.length : Int) then ((some (x6_1.drop ((wrap64 (((rd_T66 l1 x7_1).f0) + (((rd_T66 l1 x7_1).f1).length : Int))) : Int).toNat : List ByteArray)).bind fun y431 => (if y428.length + y431.length < 8796093022208 then (rafterref04_Apply.l0 k1 l0 l1 (y428 ++ y431) (wrap64 (x7_1 - 1))) else (none))) else (none)) else (none))) else (none))) else (none))) else (none)) else (none)) = some (r1, r2) := by first | (rw [hy418]; with_reducible exact H) | (have H2_ := (Option.bind_some _ _).symm.trans H; rw [hy418]; with_reducible exact H2_) | (have H2_ := (Option.bind_some _ _).symm.trans H; with_reducible exact H2_) | with_reducible exact H | (rw [hy418]; exact H) | exact H
         have Ny418 := Aside0.mk hy418
         clear hy418
         by_cases c15 : 0 ≤ ((rd_T66 l1 x7_1).f0)
         ·rw [if_pos c15] at H
          have c15b0 := eq_true c15
          have c15b1 : decide (0 ≤ ((rd_T66 l1 x7_1).f0)) = true := decide_eq_true c15
          clear c15
          by_cases c16 : ((rd_T66 l1 x7_1).f0) ≤ (x6_1.length : Int)
          ·rw [if_pos c16] at H
           have c16b0 := eq_true c16
           have c16b1 : decide (((rd_T66 l1 x7_1).f0) ≤ (x6_1.length : Int)) = true := decide_eq_true c16
           clear c16
           obtain ⟨y421, hy421⟩ : ∃ y_ : List ByteArray, y_ = (x6_1.take (((rd_T66 l1 x7_1).f0) : Int).toNat) := ⟨_, rfl⟩
           replace H : (if y418.length + y421.length < 8796093022208 then ((some (y418 ++ y421 : List ByteArray)).bind fun y425 => (if y425.length + ((rd_T66 l1 x7_1).f2).length < 8796093022208 then ((some (y425 ++ ((rd_T66 l1 x7_1).f2) : List ByteArray)).bind fun y428 => (if 0 ≤ (wrap64 (((rd_T66 l1 x7_1).f0) + (((rd_T66 l1 x7_1).f1).length : Int))) then (if (wrap64 (((rd_T66 l1 x7_1).f0) + (((rd_T66 l1 x7_1).f1).length : Int))) ≤ (x6_1.length : Int) then ((some (x6_1.drop ((wrap64 (((rd_T66 l1 x7_1).f0) + (((rd_T66 l1 x7_1).f1).length : Int))) : Int).toNat : List ByteArray)).bind fun y431 => (if y428.length + y431.length < 8796093022208 then (rafterref04_Apply.l0 k1 l0 l1 (y428 ++ y431) (wrap64 (x7_1 - 1))) else (none))) else (none)) else (none))) else (none))) else (none)) = some (r1, r2) := by first | (rw [hy421]; with_reducible exact H) | (have H2_ := (Option.bind_some _ _).symm.trans H; rw [hy421]; with_reducible exact H2_) | (have H2_ := (Option.bind_some _ _).symm.trans H; with_reducible exact H2_) | with_reducible exact H | (rw [hy421]; exact H) | exact H
           have Ny421 := Aside0.mk hy421
           clear hy421
           by_cases c17 : y418.length + y421.length < 8796093022208
           ·rw [if_pos c17] at H
            have LMc17 := Aside0.mk c17
            clear c17
            obtain ⟨y425, hy425⟩ : ∃ y_ : List ByteArray, y_ = (y418 ++ y421) := ⟨_, rfl⟩
            replace H : (if y425.length + ((rd_T66 l1 x7_1).f2).length < 8796093022208 then ((some (y425 ++ ((rd_T66 l1 x7_1).f2) : List ByteArray)).bind fun y428 => (if 0 ≤ (wrap64 (((rd_T66 l1 x7_1).f0) + (((rd_T66 l1 x7_1).f1).length : Int))) then (if (wrap64 (((rd_T66 l1 x7_1).f0) + (((rd_T66 l1 x7_1).f1).length : Int))) ≤ (x6_1.length : Int) then ((some (x6_1.drop ((wrap64 (((rd_T66 l1 x7_1).f0) + (((rd_T66 l1 x7_1).f1).length : Int))) : Int).toNat : List ByteArray)).bind fun y431 => (if y428.length + y431.length < 8796093022208 then (rafterref04_Apply.l0 k1 l0 l1 (y428 ++ y431) (wrap64 (x7_1 - 1))) else (none))) else (none)) else (none))) else (none)) = some (r1, r2) := by first | (rw [hy425]; with_reducible exact H) | (have H2_ := (Option.bind_some _ _).symm.trans H; rw [hy425]; with_reducible exact H2_) | (have H2_ := (Option.bind_some _ _).symm.trans H; with_reducible exact H2_) | with_reducible exact H | (rw [hy425]; exact H) | exact H
            have Ny425 := Aside0.mk hy425
            clear hy425
            by_cases c18 : y425.length + ((rd_T66 l1 x7_1).f2).length < 8796093022208
            ·rw [if_pos c18] at H
             have LMc18 := Aside0.mk c18
             clear c18
             obtain ⟨y428, hy428⟩ : ∃ y_ : List ByteArray, y_ = (y425 ++ ((rd_T66 l1 x7_1).f2)) := ⟨_, rfl⟩
             replace H : (if 0 ≤ (wrap64 (((rd_T66 l1 x7_1).f0) + (((rd_T66 l1 x7_1).f1).length : Int))) then (if (wrap64 (((rd_T66 l1 x7_1).f0) + (((rd_T66 l1 x7_1).f1).length : Int))) ≤ (x6_1.length : Int) then ((some (x6_1.drop ((wrap64 (((rd_T66 l1 x7_1).f0) + (((rd_T66 l1 x7_1).f1).length : Int))) : Int).toNat : List ByteArray)).bind fun y431 => (if y428.length + y431.length < 8796093022208 then (rafterref04_Apply.l0 k1 l0 l1 (y428 ++ y431) (wrap64 (x7_1 - 1))) else (none))) else (none)) else (none)) = some (r1, r2) := by first | (rw [hy428]; with_reducible exact H) | (have H2_ := (Option.bind_some _ _).symm.trans H; rw [hy428]; with_reducible exact H2_) | (have H2_ := (Option.bind_some _ _).symm.trans H; with_reducible exact H2_) | with_reducible exact H | (rw [hy428]; exact H) | exact H
             have Ny428 := Aside0.mk hy428
             clear hy428
             obtain ⟨ji19, hji19⟩ : ∃ j_ : Int, (wrap64 (((rd_T66 l1 x7_1).f0) + (((rd_T66 l1 x7_1).f1).length : Int))) = j_ := ⟨_, rfl⟩
             replace H : (if 0 ≤ (ji19) then (if (ji19) ≤ (x6_1.length : Int) then ((some (x6_1.drop ((ji19) : Int).toNat : List ByteArray)).bind fun y431 => (if y428.length + y431.length < 8796093022208 then (rafterref04_Apply.l0 k1 l0 l1 (y428 ++ y431) (wrap64 (x7_1 - 1))) else (none))) else (none)) else (none)) = some (r1, r2) := by first | (rw [hji19] at H; exact H) | (simp only [hji19] at H ⊢; exact H)
             (try rw [hji19] at A13)
             have hji19w : (IntKind.i64.wrap (((rd_T66 l1 x7_1).f0) + (((rd_T66 l1 x7_1).f1).length : Int))) = ji19 := (i64_w _).trans hji19
             by_cases c20 : 0 ≤ (ji19)
             ·rw [if_pos c20] at H
              have c20b0 := eq_true c20
              have c20b1 : decide (0 ≤ (ji19)) = true := decide_eq_true c20
              clear c20
              by_cases c21 : (ji19) ≤ (x6_1.length : Int)
              ·rw [if_pos c21] at H
               have c21b0 := eq_true c21
               have c21b1 : decide ((ji19) ≤ (x6_1.length : Int)) = true := decide_eq_true c21
               clear c21
               obtain ⟨y431, hy431⟩ : ∃ y_ : List ByteArray, y_ = (x6_1.drop ((ji19) : Int).toNat) := ⟨_, rfl⟩
               replace H : (if y428.length + y431.length < 8796093022208 then (rafterref04_Apply.l0 k1 l0 l1 (y428 ++ y431) (wrap64 (x7_1 - 1))) else (none)) = some (r1, r2) := by first | (rw [hy431]; with_reducible exact H) | (have H2_ := (Option.bind_some _ _).symm.trans H; rw [hy431]; with_reducible exact H2_) | (have H2_ := (Option.bind_some _ _).symm.trans H; with_reducible exact H2_) | with_reducible exact H | (rw [hy431]; exact H) | exact H
               have Ny431 := Aside0.mk hy431
               clear hy431
               by_cases c22 : y428.length + y431.length < 8796093022208
               ·rw [if_pos c22] at H
                have LMc22 := Aside0.mk c22
                clear c22
                obtain ⟨y435, hy435⟩ : ∃ y_ : List ByteArray, y_ = (y428 ++ y431) := ⟨_, rfl⟩
                replace H : (rafterref04_Apply.l0 k1 l0 l1 y435 (wrap64 (x7_1 - 1))) = some (r1, r2) := by first | (rw [hy435]; with_reducible exact H) | (have H2_ := (Option.bind_some _ _).symm.trans H; rw [hy435]; with_reducible exact H2_) | (have H2_ := (Option.bind_some _ _).symm.trans H; with_reducible exact H2_) | with_reducible exact H | (rw [hy435]; exact H) | exact H
                have Ny435 := Aside0.mk hy435
                clear hy435
                have H' := Aside0.mk H
                clear H
                have p415 : 0 ≤ (x7_1 : Int) := of_decide_eq_true (by first | (with_reducible assumption) | assumption)
                have q415 : x7_1 < (l1.length : Int) := of_decide_eq_true (by first | (with_reducible assumption) | assumption)
                obtain ⟨ad415, A415_1, c415_1, A415_2, c415_2, e415, hx415_0, hx415_1, hx415_2, hl415_1, hi415_1, hl415_2, hi415_2⟩ := at_T66 HR1.out x7_1 p415 q415
                cases e415
                replace hx415_0 := (HB.out.cell (World.block_lt_of_cell? w _ hx415_0)).trans hx415_0
                replace hx415_1 := (HB.out.cell (World.block_lt_of_cell? w _ hx415_1)).trans hx415_1
                replace hx415_2 := (HB.out.cell (World.block_lt_of_cell? w _ hx415_2)).trans hx415_2
                have HR415_1 := Aside0.mk hi415_1
                have HC415_1 := Aside0.mk hl415_1
                clear hi415_1 hl415_1
                have HR415_2 := Aside0.mk hi415_2
                have HC415_2 := Aside0.mk hl415_2
                clear hi415_2 hl415_2
                replace p415 := eq_true p415
                replace q415 := eq_true q415
                go_wp2_with (first | ((with_reducible refine gate_dst (N := 8) rfl ?_); refine box_event ?hg (N := 8) ?hd (cs := #[.int .i64 0, .slice none 0 0, .slice none 0 0]) (t := 66) ?hr ?_; (case hd => rfl); (case hg => rfl); (case hr => first | (go_simp; done) | (go_simp; rfl)); intro gb416 hg w23 hbox hb; have n0_ := Aside0.mk (Kd.R_below (by (with_reducible repeat (first | apply Kd.R_alloc | apply Kd.R_drewN | apply Kd.R_drew)); exact HO_6.out) hb); have n1_ := Aside0.mk (below_step (by repeat (first | (with_reducible first | exact HB.out | apply below_alloc | apply pw_below_drewN | apply below_drew1) | exact HB.out)) hb); have n2_ := Aside0.mk (hbox); have n3_ := Aside0.mk ((by rw [hg]; exact (below_size (by repeat (first | (with_reducible first | exact HB.out | apply below_alloc | apply pw_below_drewN | apply below_drew1) | exact HB.out))) : w.heap.size ≤ gb416)); have n4_ := Aside0.mk ((by rw [hg]; exact (below_size (by repeat (first | (with_reducible first | exact HB.out | apply below_alloc | apply pw_below_drewN | apply below_drew1) | exact HB.out))) : w.heap.size ≤ gb416)); clear HO_6; clear HB; have HO_6 := n0_; have HB := n1_; have BK416 := n2_; have GW416 := n3_; have GE416 := n4_; clear n0_ n1_ n2_ n3_ n4_; clear hb hbox hg; have hcz24_0 : w23.cell? ⟨gb416, 0, none⟩ = some (.int .i64 0) := (blk_cell BK416.out 0).trans rfl; have hcz24_1 : w23.cell? ⟨gb416, 1, none⟩ = some (.slice none 0 0) := (blk_cell BK416.out 1).trans rfl; have hcz24_2 : w23.cell? ⟨gb416, 2, none⟩ = some (.slice none 0 0) := (blk_cell BK416.out 2).trans rfl; have hfz24_0 := blk_frozen BK416.out 0; have hfz24_1 := blk_frozen BK416.out 1; have hfz24_2 := blk_frozen BK416.out 2) | (go_at_call 60; (with_reducible refine (rafterref03_At.calls k1 _ _ l0 _ _ ((rd_T66 l1 x7_1).f1) ((rd_T66 l1 x7_1).f0) true _ ?side1 ?side2 ?side3 ?side4 A13.out).mono ?_); (case side1 => exact Kd.C_below HR0.out (by repeat (first | (with_reducible first | exact HB.out | apply below_alloc | apply pw_below_drewN | apply below_drew1 | refine below_set ?_ GE416.out) | exact HB.out))); (case side2 => exact HC0.out); (case side3 => exact Kd.C_below HR415_1.out (by repeat (first | (with_reducible first | exact HB.out | apply below_alloc | apply pw_below_drewN | apply below_drew1 | refine below_set ?_ GE416.out) | exact HB.out))); (case side4 => exact HC415_1.out); rintro e w' ⟨rfl, ⟨nd, rfl⟩⟩) | ((with_reducible refine gate_dst (N := 38) rfl ?_); refine Kd.R_lit Kd.string _ 9 ?hg (N := 38) ?hd (xs := ([] : List ByteArray)) (inner := []) (ok := fun _ => True) (okp := fun _ => True) ?hr ?hp (fun _ hk => hk) trivial (Below.refl _ _) (Nat.le_refl _) (by simp) ?_; (case hd => rfl); (case hg => rfl); (case hr => first | (go_simp; done) | (go_simp; rfl)); (case hp => exact (Reps.none _ _)); intro v419 w25 ho26 hb hg_ hnew_; clear hg_ hnew_; (first | rw [← Ny418.out] at ho26 | (simp only [Int.reduceToNat] at ho26; rw [← Ny418.out] at ho26)); have n0_ := Aside0.mk (Kd.R_elder' (by (with_reducible repeat (first | apply Kd.R_alloc | apply Kd.R_drewN | apply Kd.R_drew)); exact (Kd.R_mono (Kd.R_far (p := ⟨gb416, 2, none⟩) (Kd.R_far (p := ⟨gb416, 1, none⟩) (Kd.R_far (p := ⟨gb416, 0, none⟩) (Kd.R_types HO_6.out BK416.out (by decide)) (fun _ hk => hk.2) (.int .i64 ((rd_T66 l1 x7_1).f0))) (fun _ hk => hk.2) (.slice A415_1 ((rd_T66 l1 x7_1).f1).length c415_1)) (fun _ hk => hk.2) (.slice A415_2 ((rd_T66 l1 x7_1).f2).length c415_2)) (fun _ h_ => h_.1))) (Kd.R_base ho26) hb); have n1_ := Aside0.mk (Kd.R_lower (Kd.R_new' ho26 (Kd.R_lt (by (with_reducible repeat (first | apply Kd.R_alloc | apply Kd.R_drewN | apply Kd.R_drew)); exact (Kd.R_mono (Kd.R_far (p := ⟨gb416, 2, none⟩) (Kd.R_far (p := ⟨gb416, 1, none⟩) (Kd.R_far (p := ⟨gb416, 0, none⟩) (Kd.R_types HO_6.out BK416.out (by decide)) (fun _ hk => hk.2) (.int .i64 ((rd_T66 l1 x7_1).f0))) (fun _ hk => hk.2) (.slice A415_1 ((rd_T66 l1 x7_1).f1).length c415_1)) (fun _ hk => hk.2) (.slice A415_2 ((rd_T66 l1 x7_1).f2).length c415_2)) (fun _ h_ => h_.1))))) (below_size (by repeat (first | (with_reducible first | exact HB.out | apply below_alloc | apply pw_below_drewN | apply below_drew1 | refine below_set ?_ GE416.out) | exact HB.out)))); have n2_ := Aside0.mk (blk_below (g := gb416) (o := .cells #[.int .i64 ((rd_T66 l1 x7_1).f0), .slice A415_1 ((rd_T66 l1 x7_1).f1).length c415_1, .slice A415_2 ((rd_T66 l1 x7_1).f2).length c415_2] 66 (0, 0)) (by (with_reducible repeat (first | refine blk_drewN ?_ _ | refine blk_drew ?_ | refine blk_alloc ?_ _)); refine blk_put (cs := #[.int .i64 ((rd_T66 l1 x7_1).f0), .slice A415_1 ((rd_T66 l1 x7_1).f1).length c415_1, .slice none 0 0]) ?_ 2 _ rfl; (with_reducible repeat (first | refine blk_drewN ?_ _ | refine blk_drew ?_ | refine blk_alloc ?_ _)); refine blk_put (cs := #[.int .i64 ((rd_T66 l1 x7_1).f0), .slice none 0 0, .slice none 0 0]) ?_ 1 _ rfl; (with_reducible repeat (first | refine blk_drewN ?_ _ | refine blk_drew ?_ | refine blk_alloc ?_ _)); refine blk_put (cs := #[.int .i64 0, .slice none 0 0, .slice none 0 0]) ?_ 0 _ rfl; (with_reducible repeat (first | refine blk_drewN ?_ _ | refine blk_drew ?_ | refine blk_alloc ?_ _)); exact BK416.out) hb); have n3_ := Aside0.mk (below_step (by repeat (first | (with_reducible first | exact HB.out | apply below_alloc | apply pw_below_drewN | apply below_drew1 | refine below_set ?_ GE416.out) | exact HB.out)) hb); clear HO_6; clear BK416; clear HB; have HO_6 := n0_; have HO420 := n1_; have BK416 := n2_; have HB := n3_; clear n0_ n1_ n2_ n3_; clear hb ho26; have hcz27_0 : w25.cell? ⟨gb416, 0, none⟩ = some (.int .i64 ((rd_T66 l1 x7_1).f0)) := (blk_cell BK416.out 0).trans rfl; have hcz27_1 : w25.cell? ⟨gb416, 1, none⟩ = some (.slice A415_1 ((rd_T66 l1 x7_1).f1).length c415_1) := (blk_cell BK416.out 1).trans rfl; have hcz27_2 : w25.cell? ⟨gb416, 2, none⟩ = some (.slice A415_2 ((rd_T66 l1 x7_1).f2).length c415_2) := (blk_cell BK416.out 2).trans rfl; have hfz27_0 := blk_frozen BK416.out 0; have hfz27_1 := blk_frozen BK416.out 1; have hfz27_2 := blk_frozen BK416.out 2; obtain ⟨Ao29, co29, eo29⟩ := Kd.R_slice HO_6.out; subst eo29; have q28 : (((rd_T66 l1 x7_1).f0) : Int) ≤ ((x6_1.length : Int) : Int) := of_decide_eq_true (by first | (with_reducible assumption) | assumption); obtain ⟨i028, hi028, _, hsz28, _⟩ := info_parts info9; have hroom28 : x6_1.length ≤ co29 := (Kd.R_reads' HO_6.out).2.1; have hC28 : Kd.C Kd.string _ Ao29 x6_1.length x6_1 := (Kd.R_reads' HO_6.out).2.2; have hcut28 := cut_to (P := Try.prog) 22 9 .i64 Try.underlying22 hi028 Ao29 x6_1.length co29 ((rd_T66 l1 x7_1).f0) (of_decide_eq_true (by first | (with_reducible assumption) | assumption)) q28 hroom28; have hr28 := Kd.C_take (m := (((rd_T66 l1 x7_1).f0) : Int).toNat) hC28 (by omega); have hy28 : y421.length = (((rd_T66 l1 x7_1).f0) : Int).toNat := (by rw [Ny421.out, List.length_take]; omega); rw [← Ny421.out] at hr28; rw [← hy28] at hcut28; have HR424 := Aside0.mk hr28; have HC424 := Aside0.mk (show y421.length ≤ co29 from by omega); clear hr28 hC28 hroom28 hi028 hsz28; have KY28 := Aside0.mk hy28; clear hy28; have KL28 := Aside0.mk (show (((rd_T66 l1 x7_1).f0) : Int).toNat ≤ x6_1.length from by omega); replace q28 := eq_true q28) | ((with_reducible refine gate_builtin (b := .append) (xs := #[.tmp 38, .tmp 42]) rfl ?_); at_builtin; refine Kd.R_append_rows Kd.string (w0 := w) w.heap.size rfl (.tmp 38) (.tmp 42) 22 9 (.string ⟨#[]⟩) 16 rfl Try.underlying22 info9 rfl (by decide) (by omega) v419 y418 y421 _ _ _ (fun k_ => some k_ ≠ (.slice Ao29 x6_1.length co29 : Value).ownBlock) (fun _ => False) rfl rfl ?aO ?aR (fun _ _ h => h) (fun _ h => h.elim) ?aF ?aB ?aS ?aL ?_; (case aR => repeat (first | exact (by repeat (first | (with_reducible exact HR424.out) | (with_reducible refine Kd.C_alloc ?_ _) | (with_reducible refine Kd.C_drewN ?_ _) | (with_reducible refine Kd.C_drew ?_) | exact HR424.out)) | (with_reducible refine Kd.C_alloc ?_ _) | (with_reducible refine Kd.C_drewN ?_ _) | (with_reducible refine Kd.C_drew ?_))); (case aB => exact (by repeat (first | (with_reducible first | exact HB.out | apply below_alloc | apply pw_below_drewN | apply below_drew1 | refine below_set ?_ GE416.out) | exact HB.out))); (case aF => exact (fun k_ hk => Kd.fresh' (Kd.R_lt (by (with_reducible repeat (first | apply Kd.R_alloc | apply Kd.R_drewN | apply Kd.R_drew)); exact HO_6.out)) k_ hk)); (case aO => exact (by (with_reducible repeat (first | apply Kd.R_alloc | apply Kd.R_drewN | apply Kd.R_drew)); exact Kd.R_mono HO420.out (fun _ hk => hk.2))); (case aS => exact (below_size (by repeat (first | (with_reducible first | exact HB.out | apply below_alloc | apply pw_below_drewN | apply below_drew1 | refine below_set ?_ GE416.out) | exact HB.out)))); (case aL => have := LMc17.out; omega); intro v426 w30 ho hb hg hat; rw [← Ny425.out] at ho; have n0_ := Aside0.mk (Kd.R_after (ok := (fun _ => True)) (by (with_reducible repeat (first | apply Kd.R_alloc | apply Kd.R_drewN | apply Kd.R_drew)); exact HO_6.out) hg hat); have n1_ := Aside0.mk (blk_grown (g := gb416) (o := .cells #[.int .i64 ((rd_T66 l1 x7_1).f0), .slice A415_1 ((rd_T66 l1 x7_1).f1).length c415_1, .slice A415_2 ((rd_T66 l1 x7_1).f2).length c415_2] 66 (0, 0)) (by (with_reducible repeat (first | refine blk_drewN ?_ _ | refine blk_drew ?_ | refine blk_alloc ?_ _)); exact BK416.out) hg (Kd.R_ne HO420.out BK416.out (by decide))); have n2_ := Aside0.mk (hb); have n3_ := Aside0.mk ((show Kd.C Kd.string w30 Ao29 y421.length y421 from by rw [Ny421.out]; exact Kd.C_take (m := (((rd_T66 l1 x7_1).f0) : Int).toNat) ((Kd.R_reads' (Kd.R_after (ok := (fun _ => True)) (by (with_reducible repeat (first | apply Kd.R_alloc | apply Kd.R_drewN | apply Kd.R_drew)); exact HO_6.out) hg hat)).2.2) KL28.out)); have n4_ := Aside0.mk (ho); clear HO_6; clear BK416; clear HB; clear HR424; clear HO420; have HO_6 := n0_; have BK416 := n1_; have HB := n2_; have HR424 := n3_; have HO427 := n4_; clear n0_ n1_ n2_ n3_ n4_; clear ho hb hg hat; have hcz31_0 : w30.cell? ⟨gb416, 0, none⟩ = some (.int .i64 ((rd_T66 l1 x7_1).f0)) := (blk_cell BK416.out 0).trans rfl; have hcz31_1 : w30.cell? ⟨gb416, 1, none⟩ = some (.slice A415_1 ((rd_T66 l1 x7_1).f1).length c415_1) := (blk_cell BK416.out 1).trans rfl; have hcz31_2 : w30.cell? ⟨gb416, 2, none⟩ = some (.slice A415_2 ((rd_T66 l1 x7_1).f2).length c415_2) := (blk_cell BK416.out 2).trans rfl; have hfz31_0 := blk_frozen BK416.out 0; have hfz31_1 := blk_frozen BK416.out 1; have hfz31_2 := blk_frozen BK416.out 2) | ((with_reducible refine gate_builtin (b := .append) (xs := #[.tmp 44, .tmp 46]) rfl ?_); at_builtin; refine Kd.R_append_rows Kd.string (w0 := w) w.heap.size rfl (.tmp 44) (.tmp 46) 22 9 (.string ⟨#[]⟩) 16 rfl Try.underlying22 info9 rfl (by decide) (by omega) v426 y425 ((rd_T66 l1 x7_1).f2) _ _ _ (fun k_ => some k_ ≠ (.slice Ao29 x6_1.length co29 : Value).ownBlock) (fun _ => False) rfl rfl ?aO ?aR (fun _ _ h => h) (fun _ h => h.elim) ?aF ?aB ?aS ?aL ?_; (case aR => repeat (first | exact (Kd.C_below HR415_2.out HB.out) | (with_reducible refine Kd.C_alloc ?_ _) | (with_reducible refine Kd.C_drewN ?_ _) | (with_reducible refine Kd.C_drew ?_))); (case aB => exact (by repeat (first | (with_reducible first | exact HB.out | apply below_alloc | apply pw_below_drewN | apply below_drew1 | refine below_set ?_ GE416.out) | exact HB.out))); (case aF => exact (fun k_ hk => Kd.fresh' (Kd.R_lt (by (with_reducible repeat (first | apply Kd.R_alloc | apply Kd.R_drewN | apply Kd.R_drew)); exact HO_6.out)) k_ hk)); (case aO => exact (by (with_reducible repeat (first | apply Kd.R_alloc | apply Kd.R_drewN | apply Kd.R_drew)); exact HO427.out)); (case aS => exact (below_size (by repeat (first | (with_reducible first | exact HB.out | apply below_alloc | apply pw_below_drewN | apply below_drew1 | refine below_set ?_ GE416.out) | exact HB.out)))); (case aL => have := LMc18.out; omega); intro v429 w32 ho hb hg hat; rw [← Ny428.out] at ho; have n0_ := Aside0.mk (Kd.R_after (ok := (fun _ => True)) (by (with_reducible repeat (first | apply Kd.R_alloc | apply Kd.R_drewN | apply Kd.R_drew)); exact HO_6.out) hg hat); have n1_ := Aside0.mk (blk_grown (g := gb416) (o := .cells #[.int .i64 ((rd_T66 l1 x7_1).f0), .slice A415_1 ((rd_T66 l1 x7_1).f1).length c415_1, .slice A415_2 ((rd_T66 l1 x7_1).f2).length c415_2] 66 (0, 0)) (by (with_reducible repeat (first | refine blk_drewN ?_ _ | refine blk_drew ?_ | refine blk_alloc ?_ _)); exact BK416.out) hg (Kd.R_ne HO427.out BK416.out (by decide))); have n2_ := Aside0.mk (hb); have n3_ := Aside0.mk ((show Kd.C Kd.string w32 Ao29 y421.length y421 from by rw [Ny421.out]; exact Kd.C_take (m := (((rd_T66 l1 x7_1).f0) : Int).toNat) ((Kd.R_reads' (Kd.R_after (ok := (fun _ => True)) (by (with_reducible repeat (first | apply Kd.R_alloc | apply Kd.R_drewN | apply Kd.R_drew)); exact HO_6.out) hg hat)).2.2) KL28.out)); have n4_ := Aside0.mk (ho); clear HO_6; clear BK416; clear HB; clear HR424; clear HO427; have HO_6 := n0_; have BK416 := n1_; have HB := n2_; have HR424 := n3_; have HO430 := n4_; clear n0_ n1_ n2_ n3_ n4_; clear ho hb hg hat; have hcz33_0 : w32.cell? ⟨gb416, 0, none⟩ = some (.int .i64 ((rd_T66 l1 x7_1).f0)) := (blk_cell BK416.out 0).trans rfl; have hcz33_1 : w32.cell? ⟨gb416, 1, none⟩ = some (.slice A415_1 ((rd_T66 l1 x7_1).f1).length c415_1) := (blk_cell BK416.out 1).trans rfl; have hcz33_2 : w32.cell? ⟨gb416, 2, none⟩ = some (.slice A415_2 ((rd_T66 l1 x7_1).f2).length c415_2) := (blk_cell BK416.out 2).trans rfl; have hfz33_0 := blk_frozen BK416.out 0; have hfz33_1 := blk_frozen BK416.out 1; have hfz33_2 := blk_frozen BK416.out 2; have q34 : ((ji19) : Int) ≤ ((x6_1.length : Int) : Int) := of_decide_eq_true (by first | (with_reducible assumption) | assumption); obtain ⟨i034, hi034, _, hsz34, _⟩ := info_parts info9; have hroom34 : x6_1.length ≤ co29 := (Kd.R_reads' HO_6.out).2.1; have hC34 : Kd.C Kd.string _ Ao29 x6_1.length x6_1 := (Kd.R_reads' HO_6.out).2.2; have q034 : (0 : Int) ≤ ((ji19) : Int) := of_decide_eq_true (by first | (with_reducible assumption) | assumption); have hcut34 := cut_from (P := Try.prog) 22 9 .i64 Try.underlying22 hi034 1 hsz34 Ao29 x6_1.length co29 (ji19) q034 q34; have hr34 := Kd.C_drop (m := ((ji19) : Int).toNat) (c := co29) hC34 (by omega) hroom34; obtain ⟨A34, hA34⟩ : ∃ A1, A1 = (if co29 = ((ji19) : Int).toNat then Ao29 else (Ao29 : Option Addr).map (·.add (((ji19) : Int).toNat * 1))) := ⟨_, rfl⟩; obtain ⟨c34, hc34⟩ : ∃ c1, c1 = co29 - ((ji19) : Int).toNat := ⟨_, rfl⟩; have hy34 : y431.length = x6_1.length - ((ji19) : Int).toNat := (by rw [Ny431.out, List.length_drop] <;> omega); rw [show (x6_1).drop ((ji19) : Int).toNat = y431 from Ny431.out.symm] at hr34; replace hr34 : Kd.C Kd.string _ A34 y431.length y431 := (by rw [hA34]; exact hr34); rw [← hy34, ← hA34, ← hc34] at hcut34; have HR434 := Aside0.mk hr34; have HC434 := Aside0.mk (show y431.length ≤ c34 from by rw [hy34, hc34]; exact Nat.sub_le_sub_right hroom34 _); clear hr34 hC34 hroom34 hi034 hsz34 hc34; have KY34 := Aside0.mk hy34; have KA34 := Aside0.mk hA34; clear hy34 hA34; have KL34 := Aside0.mk (show ((ji19) : Int).toNat ≤ x6_1.length from by omega); replace q34 := eq_true q34) | ((with_reducible refine gate_builtin (b := .append) (xs := #[.tmp 48, .tmp 56]) rfl ?_); at_builtin; refine Kd.R_append_rows Kd.string (w0 := w) w.heap.size rfl (.tmp 48) (.tmp 56) 22 9 (.string ⟨#[]⟩) 16 rfl Try.underlying22 info9 rfl (by decide) (by omega) v429 y428 y431 _ _ _ (fun k_ => some k_ ≠ (.slice Ao29 x6_1.length co29 : Value).ownBlock) (fun _ => False) rfl rfl ?aO ?aR (fun _ _ h => h) (fun _ h => h.elim) ?aF ?aB ?aS ?aL ?_; (case aR => repeat (first | exact (by repeat (first | (with_reducible exact HR434.out) | (with_reducible refine Kd.C_alloc ?_ _) | (with_reducible refine Kd.C_drewN ?_ _) | (with_reducible refine Kd.C_drew ?_) | exact HR434.out)) | (with_reducible refine Kd.C_alloc ?_ _) | (with_reducible refine Kd.C_drewN ?_ _) | (with_reducible refine Kd.C_drew ?_))); (case aB => exact (by repeat (first | (with_reducible first | exact HB.out | apply below_alloc | apply pw_below_drewN | apply below_drew1 | refine below_set ?_ GE416.out) | exact HB.out))); (case aF => exact (fun k_ hk => Kd.fresh' (Kd.R_lt (by (with_reducible repeat (first | apply Kd.R_alloc | apply Kd.R_drewN | apply Kd.R_drew)); exact HO_6.out)) k_ hk)); (case aO => exact (by (with_reducible repeat (first | apply Kd.R_alloc | apply Kd.R_drewN | apply Kd.R_drew)); exact HO430.out)); (case aS => exact (below_size (by repeat (first | (with_reducible first | exact HB.out | apply below_alloc | apply pw_below_drewN | apply below_drew1 | refine below_set ?_ GE416.out) | exact HB.out)))); (case aL => have := LMc22.out; omega); intro v436 w35 ho hb hg hat; rw [← Ny435.out] at ho; have n0_ := Aside0.mk (Kd.R_after (ok := (fun _ => True)) (by (with_reducible repeat (first | apply Kd.R_alloc | apply Kd.R_drewN | apply Kd.R_drew)); exact HO_6.out) hg hat); have n1_ := Aside0.mk (blk_grown (g := gb416) (o := .cells #[.int .i64 ((rd_T66 l1 x7_1).f0), .slice A415_1 ((rd_T66 l1 x7_1).f1).length c415_1, .slice A415_2 ((rd_T66 l1 x7_1).f2).length c415_2] 66 (0, 0)) (by (with_reducible repeat (first | refine blk_drewN ?_ _ | refine blk_drew ?_ | refine blk_alloc ?_ _)); exact BK416.out) hg (Kd.R_ne HO430.out BK416.out (by decide))); have n2_ := Aside0.mk (hb); have n3_ := Aside0.mk ((show Kd.C Kd.string w35 Ao29 y421.length y421 from by rw [Ny421.out]; exact Kd.C_take (m := (((rd_T66 l1 x7_1).f0) : Int).toNat) ((Kd.R_reads' (Kd.R_after (ok := (fun _ => True)) (by (with_reducible repeat (first | apply Kd.R_alloc | apply Kd.R_drewN | apply Kd.R_drew)); exact HO_6.out) hg hat)).2.2) KL28.out)); have n4_ := Aside0.mk ((show Kd.C Kd.string w35 A34 y431.length y431 from by rw [Ny431.out, KA34.out]; exact Kd.C_drop (m := ((ji19) : Int).toNat) (c := co29) ((Kd.R_reads' (Kd.R_after (ok := (fun _ => True)) (by (with_reducible repeat (first | apply Kd.R_alloc | apply Kd.R_drewN | apply Kd.R_drew)); exact HO_6.out) hg hat)).2.2) KL34.out ((Kd.R_reads' (Kd.R_after (ok := (fun _ => True)) (by (with_reducible repeat (first | apply Kd.R_alloc | apply Kd.R_drewN | apply Kd.R_drew)); exact HO_6.out) hg hat)).2.1))); have n5_ := Aside0.mk (ho); clear HO_6; clear BK416; clear HB; clear HR424; clear HR434; clear HO430; have HO_6 := n0_; have BK416 := n1_; have HB := n2_; have HR424 := n3_; have HR434 := n4_; have HO437 := n5_; clear n0_ n1_ n2_ n3_ n4_ n5_; clear ho hb hg hat))
                go_roundg k1
                case measure => have := HK1.out; omega
                case rel => exact ⟨(y435), (wrap64 (x7_1 - 1)), (by first | rfl | (simp; done) | (simp [*]; done)), H', ⟨by have := HK1.out; omega⟩, ⟨by (with_reducible repeat (first | apply Kd.R_alloc | apply Kd.R_drewN | apply Kd.R_drew)); exact Kd.R_mono HO437.out (fun _ hk => trivial)⟩, ⟨by repeat (first | (with_reducible first | exact HB.out | apply below_alloc | apply pw_below_drewN | apply below_drew1 | refine below_set ?_ GE416.out) | exact HB.out)⟩⟩
               ·rw [if_neg c22] at H
                exact absurd H (by simp)
              ·rw [if_neg c21] at H
               exact absurd H (by simp)
             ·rw [if_neg c20] at H
              exact absurd H (by simp)
            ·rw [if_neg c18] at H
             exact absurd H (by simp)
           ·rw [if_neg c17] at H
            exact absurd H (by simp)
          ·rw [if_neg c16] at H
           exact absurd H (by simp)
         ·rw [if_neg c15] at H
          exact absurd H (by simp)
        ·replace c14 := Bool.eq_false_iff.mpr c14
         subst c14
         have H1 : (some (([] : List ByteArray), false)) = some (r1, r2) := by rw [if_neg (show ¬ (false = true) by decide)] at H; exact H
         clear H
         have H := H1
         clear H1
         simp only [Option.some.injEq, Prod.mk.injEq] at H
         obtain ⟨rfl, rfl⟩ := H
         have p415 : 0 ≤ (x7_1 : Int) := of_decide_eq_true (by first | (with_reducible assumption) | assumption)
         have q415 : x7_1 < (l1.length : Int) := of_decide_eq_true (by first | (with_reducible assumption) | assumption)
         obtain ⟨ad415, A415_1, c415_1, A415_2, c415_2, e415, hx415_0, hx415_1, hx415_2, hl415_1, hi415_1, hl415_2, hi415_2⟩ := at_T66 HR1.out x7_1 p415 q415
         cases e415
         replace hx415_0 := (HB.out.cell (World.block_lt_of_cell? w _ hx415_0)).trans hx415_0
         replace hx415_1 := (HB.out.cell (World.block_lt_of_cell? w _ hx415_1)).trans hx415_1
         replace hx415_2 := (HB.out.cell (World.block_lt_of_cell? w _ hx415_2)).trans hx415_2
         have HR415_1 := Aside0.mk hi415_1
         have HC415_1 := Aside0.mk hl415_1
         clear hi415_1 hl415_1
         have HR415_2 := Aside0.mk hi415_2
         have HC415_2 := Aside0.mk hl415_2
         clear hi415_2 hl415_2
         replace p415 := eq_true p415
         replace q415 := eq_true q415
         go_wp2_with (first | ((with_reducible refine gate_dst (N := 8) rfl ?_); refine box_event ?hg (N := 8) ?hd (cs := #[.int .i64 0, .slice none 0 0, .slice none 0 0]) (t := 66) ?hr ?_; (case hd => rfl); (case hg => rfl); (case hr => first | (go_simp; done) | (go_simp; rfl)); intro gb416 hg w36 hbox hb; have n0_ := Aside0.mk (Kd.R_below (by (with_reducible repeat (first | apply Kd.R_alloc | apply Kd.R_drewN | apply Kd.R_drew)); exact HO_6.out) hb); have n1_ := Aside0.mk (below_step (by repeat (first | (with_reducible first | exact HB.out | apply below_alloc | apply pw_below_drewN | apply below_drew1) | exact HB.out)) hb); have n2_ := Aside0.mk (hbox); have n3_ := Aside0.mk ((by rw [hg]; exact (below_size (by repeat (first | (with_reducible first | exact HB.out | apply below_alloc | apply pw_below_drewN | apply below_drew1) | exact HB.out))) : w.heap.size ≤ gb416)); have n4_ := Aside0.mk ((by rw [hg]; exact (below_size (by repeat (first | (with_reducible first | exact HB.out | apply below_alloc | apply pw_below_drewN | apply below_drew1) | exact HB.out))) : w.heap.size ≤ gb416)); clear HO_6; clear HB; have HO_6 := n0_; have HB := n1_; have BK416 := n2_; have GW416 := n3_; have GE416 := n4_; clear n0_ n1_ n2_ n3_ n4_; clear hb hbox hg; have hcz37_0 : w36.cell? ⟨gb416, 0, none⟩ = some (.int .i64 0) := (blk_cell BK416.out 0).trans rfl; have hcz37_1 : w36.cell? ⟨gb416, 1, none⟩ = some (.slice none 0 0) := (blk_cell BK416.out 1).trans rfl; have hcz37_2 : w36.cell? ⟨gb416, 2, none⟩ = some (.slice none 0 0) := (blk_cell BK416.out 2).trans rfl; have hfz37_0 := blk_frozen BK416.out 0; have hfz37_1 := blk_frozen BK416.out 1; have hfz37_2 := blk_frozen BK416.out 2) | (go_at_call 60; (with_reducible refine (rafterref03_At.calls k1 _ _ l0 _ _ ((rd_T66 l1 x7_1).f1) ((rd_T66 l1 x7_1).f0) false _ ?side1 ?side2 ?side3 ?side4 A13.out).mono ?_); (case side1 => exact Kd.C_below HR0.out (by repeat (first | (with_reducible first | exact HB.out | apply below_alloc | apply pw_below_drewN | apply below_drew1 | refine below_set ?_ GE416.out) | exact HB.out))); (case side2 => exact HC0.out); (case side3 => exact Kd.C_below HR415_1.out (by repeat (first | (with_reducible first | exact HB.out | apply below_alloc | apply pw_below_drewN | apply below_drew1 | refine below_set ?_ GE416.out) | exact HB.out))); (case side4 => exact HC415_1.out); rintro e w' ⟨rfl, ⟨nd, rfl⟩⟩))
         go_ret2
         exact ⟨_, by first | rfl | (simp [errW_none, errW_some] <;> rfl) | (simp [*, errW_none, errW_some] <;> rfl), by first | exact Kd.R_nil _ _ _ _ _ | exact Kd.N_nil _ _ _ _ _ | exact Kd.V_nil _ _ _ _ _ | exact Kd.Q_nil _ _ _ _ _ | exact Kd.S_nil _ _ _ _ _, by repeat (first | (with_reducible first | exact HB.out | apply below_alloc | apply pw_below_drewN | apply below_drew1 | refine below_set ?_ GE416.out) | exact HB.out)⟩
      ·rw [if_neg c9] at H
       exact absurd H (by simp)
     ·rw [if_neg c8] at H
      exact absurd H (by simp)
    ·rw [if_neg c7] at H
     have c7b0 : decide (0 ≤ x7_1) = false := decide_eq_false c7
     clear c7
     simp only [Option.some.injEq, Prod.mk.injEq] at H
     obtain ⟨rfl, rfl⟩ := H
     go_wp2
     go_ret2
     exact ⟨_, by first | rfl | (simp [errW_none, errW_some] <;> rfl) | (simp [*, errW_none, errW_some] <;> rfl), by (with_reducible repeat (first | apply Kd.R_alloc | apply Kd.R_drewN | apply Kd.R_drew)); exact HO_6.out, by repeat (first | (with_reducible first | exact HB.out | apply below_alloc | apply pw_below_drewN | apply below_drew1) | exact HB.out)⟩
 ·rw [if_neg c3] at H
  exact absurd H (by simp)

end Go.Proofs.Ytnegeacpfkcecaa.XDiff
