/- Printed by px.py, a program of this session over the print of the kit: functions that the law reaches, as Lean functions, each with a proof that its Go code answers so. No condition. -/
import Derived.Test.YtgbdohidlndhjaaXIdx0
import Derived.Test.YtgbdohidlndhjaaXIdx3
import Derived.Test.YtgbdohidlndhjaaXIdx4
namespace Go.Proofs.Ytgbdohidlndhjaa.XId
open Go.RowKit Go.Proofs.YtgbdohidlndhjaaW.PrintWords Go.Proofs.YtgbdohidlndhjaaW.PrintLast Go.Proofs.YtgbdohidlndhjaaW.PrintMore
attribute [local go_sem] max2_int min2_int max_two min_two max_three min_three max_four min_four   -- for this text's walks alone
set_option linter.unusedVariables false
set_option linter.unusedSimpArgs false

/-! ### rafterlaw11_IdentRows: function 4 -/
def rafterlaw11_IdentRows.l0 : Nat → ByteArray → Int → Int → List (S23) → Int → Option (Bool)
 | 0, _, _, _, _, _ => none
 | k + 1, x0, x1, x2, x7, x8 => if x8 < (x7.length : Int) then (if 0 ≤ x8 then (if ((rd_T23 x7 x8).f0).toList = x0.toList then (if ((rd_T23 x7 x8).f1) = (wrap64 (x1 + x8)) then (rafterlaw11_IdentRows.l0 k x0 x1 x2 x7 (wrap64 (x8 + 1))) else (some false)) else (some false)) else (none)) else ((rafterlaw11_awake.f k).bind fun t224 => (if t224 = true then (some ((x7.length : Int) == x2)) else (some false)))
def rafterlaw11_IdentRows.f (k : Nat) (a0 : ByteArray) (a1 : Int) (a2 : Int) : Option (Bool) := if a1 > 1073741824 then ((rafterlaw11_awake.f k).bind fun t214 => (some t214)) else (if a2 > 300 then (if a2 ≤ 2000 then ((rafterlaw11_awake.f k).bind fun t215 => (some t215)) else ((ident_Row.f k a0 a1 a2).bind fun t216 => (if a1 < 0 then ((rafterlaw11_awake.f k).bind fun t219 => (if t219 = true then (some ((t216.length : Int) == 0)) else (some false))) else (if a2 < 1 then ((rafterlaw11_awake.f k).bind fun t220 => (if t220 = true then (some ((t216.length : Int) == 0)) else (some false))) else (if a2 > 2000 then ((rafterlaw11_awake.f k).bind fun t221 => (if t221 = true then (some ((t216.length : Int) == 0)) else (some false))) else (rafterlaw11_IdentRows.l0 k a0 a1 a2 t216 0)))))) else ((ident_Row.f k a0 a1 a2).bind fun t225 => (if a1 < 0 then ((rafterlaw11_awake.f k).bind fun t228 => (if t228 = true then (some ((t225.length : Int) == 0)) else (some false))) else (if a2 < 1 then ((rafterlaw11_awake.f k).bind fun t229 => (if t229 = true then (some ((t225.length : Int) == 0)) else (some false))) else (if a2 > 2000 then ((rafterlaw11_awake.f k).bind fun t230 => (if t230 = true then (some ((t225.length : Int) == 0)) else (some false))) else (rafterlaw11_IdentRows.l0 k a0 a1 a2 t225 0))))))
theorem rafterlaw11_IdentRows.mono_l : ∀ k, (∀ y0 y1 y2 y3 y4, LeO (rafterlaw11_IdentRows.l0 k y0 y1 y2 y3 y4) (rafterlaw11_IdentRows.l0 (k + 1) y0 y1 y2 y3 y4))
 | 0 => fun _ _ _ _ _ r h => by simp [rafterlaw11_IdentRows.l0] at h
 | k + 1 => by
  have ih0 := rafterlaw11_IdentRows.mono_l k
  ·intro y0 y1 y2 y3 y4
   unfold rafterlaw11_IdentRows.l0
   repeat' first
   | (with_reducible exact ih0 _ _ _ _ _)
   | (with_reducible exact ident_Row.mono _ _ _ _)
   | (with_reducible exact rafterlaw11_awake.mono _)
   | (with_reducible exact LeO.refl _)
   | (with_reducible exact LeO.none _)
   | (with_reducible refine LeO.ite ?_ ?_)
   | (with_reducible refine LeO.bind ?_ (fun _ => ?_))
   | exact ih0 _ _ _ _ _
   | exact ident_Row.mono _ _ _ _
   | exact rafterlaw11_awake.mono _
   | exact LeO.none _
   | refine LeO.ite ?_ ?_
   | refine LeO.bind ?_ (fun _ => ?_)
theorem rafterlaw11_IdentRows.mono : ∀ a0 a1 a2 k, LeO (rafterlaw11_IdentRows.f k a0 a1 a2) (rafterlaw11_IdentRows.f (k + 1) a0 a1 a2) := by
 intro a0 a1 a2 k
 have ih0 := rafterlaw11_IdentRows.mono_l k
 unfold rafterlaw11_IdentRows.f
 repeat' first
   | (with_reducible exact ih0 _ _ _ _ _)
   | (with_reducible exact ident_Row.mono _ _ _ _)
   | (with_reducible exact rafterlaw11_awake.mono _)
   | (with_reducible exact LeO.refl _)
   | (with_reducible exact LeO.none _)
   | (with_reducible refine LeO.ite ?_ ?_)
   | (with_reducible refine LeO.bind ?_ (fun _ => ?_))
   | exact ih0 _ _ _ _ _
   | exact ident_Row.mono _ _ _ _
   | exact rafterlaw11_awake.mono _
   | exact LeO.none _
   | refine LeO.ite ?_ ?_
   | refine LeO.bind ?_ (fun _ => ?_)
set_option maxHeartbeats 8000000 in
set_option maxRecDepth 100000 in
theorem rafterlaw11_IdentRows.calls (k : Nat) (a0 : ByteArray) (a1 : Int) (a2 : Int) (r : Bool) (w : World) (hG : EGlob.G w) (h : rafterlaw11_IdentRows.f k a0 a1 a2 = some r) (hr_ : r = true := by first | rfl | assumption) :
  Calls Try.prog 4 #[.string a0, .int .i64 a1, .int .i64 a2] w fun e w' => e = .returned (.bool r) ∧ Below w.heap.size w w' := by
 subst hr_
 have HG := Aside0.mk hG
 clear hG
 have HB := Aside0.mk (Below.refl w.heap.size w)
 have H : (if a1 > 1073741824 then ((rafterlaw11_awake.f k).bind fun t214 => (some t214)) else (if a2 > 300 then (if a2 ≤ 2000 then ((rafterlaw11_awake.f k).bind fun t215 => (some t215)) else ((ident_Row.f k a0 a1 a2).bind fun t216 => (if a1 < 0 then ((rafterlaw11_awake.f k).bind fun t219 => (if t219 = true then (some ((t216.length : Int) == 0)) else (some false))) else (if a2 < 1 then ((rafterlaw11_awake.f k).bind fun t220 => (if t220 = true then (some ((t216.length : Int) == 0)) else (some false))) else (if a2 > 2000 then ((rafterlaw11_awake.f k).bind fun t221 => (if t221 = true then (some ((t216.length : Int) == 0)) else (some false))) else (rafterlaw11_IdentRows.l0 k a0 a1 a2 t216 0)))))) else ((ident_Row.f k a0 a1 a2).bind fun t225 => (if a1 < 0 then ((rafterlaw11_awake.f k).bind fun t228 => (if t228 = true then (some ((t225.length : Int) == 0)) else (some false))) else (if a2 < 1 then ((rafterlaw11_awake.f k).bind fun t229 => (if t229 = true then (some ((t225.length : Int) == 0)) else (some false))) else (if a2 > 2000 then ((rafterlaw11_awake.f k).bind fun t230 => (if t230 = true then (some ((t225.length : Int) == 0)) else (some false))) else (rafterlaw11_IdentRows.l0 k a0 a1 a2 t225 0))))))) = some true := h
 clear h
 by_cases c4 : a1 > 1073741824
 ·rw [if_pos c4] at H
  have c4b0 : decide (1073741824 < a1) = true := decide_eq_true c4
  clear c4
  replace H := Option.bind_eq_some_iff.mp H
  obtain ⟨t214, A50, H⟩ := H
  replace H : (some t214) = some true := H
  have A5 := Aside0.mk A50
  clear A50
  obtain rfl := Option.some.inj H
  go_enter Try.func4, Try.ntmps4
  go_wp2_with (first | ((with_reducible refine gate_callee (f := 6) rfl ?_); refine goesL_ (some 19) rfl rfl Try.func6 (by kernel_rfl) rfl #[] rfl (by (try simp only [List.map_toArray, List.map_cons, List.map_nil]); first | done | rfl | (simp only [List.length_drop, List.length_take]; rfl)) ?_; (with_reducible refine (rafterlaw11_awake.calls k  true _ ?side1 A5.out).mono ?_); (case side1 => exact EGlob.G_below HG.out (by repeat (first | (with_reducible first | exact HB.out | apply below_alloc | apply pw_below_drewN | apply below_drew1) | exact HB.out))); rintro e w6 ⟨rfl, hb⟩; refine ⟨_, rfl, ?_⟩; have n0_ := Aside0.mk (below_step (by repeat (first | (with_reducible first | exact HB.out | apply below_alloc | apply pw_below_drewN | apply below_drew1) | exact HB.out)) hb); clear HB; have HB := n0_; clear n0_; (try clear hb); (try clear hb2); (try clear hk); (try clear hi)))
  go_ret
  exact ⟨by first | rfl | (simp [errW_none, errW_some] <;> rfl) | (simp [*, errW_none, errW_some] <;> rfl), by repeat (first | (with_reducible first | exact HB.out | apply below_alloc | apply pw_below_drewN | apply below_drew1) | exact HB.out)⟩
 ·rw [if_neg c4] at H
  have c4b0 : decide (1073741824 < a1) = false := decide_eq_false c4
  clear c4
  by_cases c7 : a2 > 300
  ·rw [if_pos c7] at H
   have c7b0 : decide (300 < a2) = true := decide_eq_true c7
   clear c7
   by_cases c8 : a2 ≤ 2000
   ·rw [if_pos c8] at H
    have c8b0 : decide (a2 ≤ 2000) = true := decide_eq_true c8
    clear c8
    replace H := Option.bind_eq_some_iff.mp H
    obtain ⟨t215, A90, H⟩ := H
    replace H : (some t215) = some true := H
    have A9 := Aside0.mk A90
    clear A90
    obtain rfl := Option.some.inj H
    go_enter Try.func4, Try.ntmps4
    go_wp2_with (first | ((with_reducible refine gate_callee (f := 6) rfl ?_); refine goesL_ (some 19) rfl rfl Try.func6 (by kernel_rfl) rfl #[] rfl (by (try simp only [List.map_toArray, List.map_cons, List.map_nil]); first | done | rfl | (simp only [List.length_drop, List.length_take]; rfl)) ?_; (with_reducible refine (rafterlaw11_awake.calls k  true _ ?side1 A9.out).mono ?_); (case side1 => exact EGlob.G_below HG.out (by repeat (first | (with_reducible first | exact HB.out | apply below_alloc | apply pw_below_drewN | apply below_drew1) | exact HB.out))); rintro e w10 ⟨rfl, hb⟩; refine ⟨_, rfl, ?_⟩; have n0_ := Aside0.mk (below_step (by repeat (first | (with_reducible first | exact HB.out | apply below_alloc | apply pw_below_drewN | apply below_drew1) | exact HB.out)) hb); clear HB; have HB := n0_; clear n0_; (try clear hb); (try clear hb2); (try clear hk); (try clear hi)))
    go_ret
    exact ⟨by first | rfl | (simp [errW_none, errW_some] <;> rfl) | (simp [*, errW_none, errW_some] <;> rfl), by repeat (first | (with_reducible first | exact HB.out | apply below_alloc | apply pw_below_drewN | apply below_drew1) | exact HB.out)⟩
   ·rw [if_neg c8] at H
    have c8b0 : decide (a2 ≤ 2000) = false := decide_eq_false c8
    clear c8
    replace H := Option.bind_eq_some_iff.mp H
    obtain ⟨t216, A110, H⟩ := H
    replace H : (if a1 < 0 then ((rafterlaw11_awake.f k).bind fun t219 => (if t219 = true then (some ((t216.length : Int) == 0)) else (some false))) else (if a2 < 1 then ((rafterlaw11_awake.f k).bind fun t220 => (if t220 = true then (some ((t216.length : Int) == 0)) else (some false))) else (if a2 > 2000 then ((rafterlaw11_awake.f k).bind fun t221 => (if t221 = true then (some ((t216.length : Int) == 0)) else (some false))) else (rafterlaw11_IdentRows.l0 k a0 a1 a2 t216 0)))) = some true := H
    have A11 := Aside0.mk A110
    clear A110
    by_cases c12 : a1 < 0
    ·rw [if_pos c12] at H
     have c12b0 : decide (a1 < 0) = true := decide_eq_true c12
     clear c12
     replace H := Option.bind_eq_some_iff.mp H
     obtain ⟨t219, A130, H⟩ := H
     replace H : (if t219 = true then (some ((t216.length : Int) == 0)) else (some false)) = some true := H
     have A13 := Aside0.mk A130
     clear A130
     by_cases c14 : t219 = true
     ·subst c14
      have H1 : (some ((t216.length : Int) == 0)) = some true := by rw [if_pos rfl] at H; exact H
      clear H
      have H := H1
      clear H1
      have HQ_ := Option.some.inj H
      clear H
      go_enter Try.func4, Try.ntmps4
      go_wp2_with (first | ((with_reducible refine gate_callee (f := 12) rfl ?_); refine goesL_ (some 23) rfl rfl Try.func12 (by kernel_rfl) rfl #[.string a0, .int .i64 a1, .int .i64 a2] rfl (by (try simp only [List.map_toArray, List.map_cons, List.map_nil]); first | done | rfl | (simp only [List.length_drop, List.length_take]; rfl)) ?_; (with_reducible refine (ident_Row.calls k a0 a1 a2 t216 _ A11.out).mono ?_); rintro e w15 ⟨v217, rfl, ho0, hb⟩; refine ⟨_, rfl, ?_⟩; have n0_ := Aside0.mk (Kd.R_lower ho0 (below_size (by repeat (first | (with_reducible first | exact HB.out | apply below_alloc | apply pw_below_drewN | apply below_drew1) | exact HB.out)))); have n1_ := Aside0.mk (below_step (by repeat (first | (with_reducible first | exact HB.out | apply below_alloc | apply pw_below_drewN | apply below_drew1) | exact HB.out)) hb); clear HB; have HO218 := n0_; have HB := n1_; clear n0_ n1_; (try clear hb); (try clear hb2); (try clear hk); (try clear hi); (try clear ho0)) | ((with_reducible refine gate_callee (f := 6) rfl ?_); refine goesL_ (some 34) rfl rfl Try.func6 (by kernel_rfl) rfl #[] rfl (by (try simp only [List.map_toArray, List.map_cons, List.map_nil]); first | done | rfl | (simp only [List.length_drop, List.length_take]; rfl)) ?_; (with_reducible refine (rafterlaw11_awake.calls k  true _ ?side1 A13.out).mono ?_); (case side1 => exact EGlob.G_below HG.out (by repeat (first | (with_reducible first | exact HB.out | apply below_alloc | apply pw_below_drewN | apply below_drew1) | exact HB.out))); rintro e w16 ⟨rfl, hb⟩; refine ⟨_, rfl, ?_⟩; have n0_ := Aside0.mk (Kd.R_below (by (with_reducible repeat (first | apply Kd.R_alloc | apply Kd.R_drewN | apply Kd.R_drew)); exact HO218.out) hb); have n1_ := Aside0.mk (below_step (by repeat (first | (with_reducible first | exact HB.out | apply below_alloc | apply pw_below_drewN | apply below_drew1) | exact HB.out)) hb); clear HO218; clear HB; have HO218 := n0_; have HB := n1_; clear n0_ n1_; (try clear hb); (try clear hb2); (try clear hk); (try clear hi); obtain ⟨Ao17, co17, eo17⟩ := Kd.R_slice HO218.out; subst eo17))
      go_ret
      exact ⟨by first | rfl | (simp [errW_none, errW_some] <;> rfl) | (simp [*, errW_none, errW_some] <;> rfl), by repeat (first | (with_reducible first | exact HB.out | apply below_alloc | apply pw_below_drewN | apply below_drew1) | exact HB.out)⟩
     ·replace c14 := Bool.eq_false_iff.mpr c14
      subst c14
      have H1 : (some false) = some true := by rw [if_neg (show ¬ (false = true) by decide)] at H; exact H
      clear H
      have H := H1
      clear H1
      exact absurd (Option.some.inj H) (by decide)
    ·rw [if_neg c12] at H
     have c12b0 : decide (a1 < 0) = false := decide_eq_false c12
     clear c12
     by_cases c18 : a2 < 1
     ·rw [if_pos c18] at H
      have c18b0 : decide (a2 < 1) = true := decide_eq_true c18
      clear c18
      replace H := Option.bind_eq_some_iff.mp H
      obtain ⟨t220, A190, H⟩ := H
      replace H : (if t220 = true then (some ((t216.length : Int) == 0)) else (some false)) = some true := H
      have A19 := Aside0.mk A190
      clear A190
      by_cases c20 : t220 = true
      ·subst c20
       have H1 : (some ((t216.length : Int) == 0)) = some true := by rw [if_pos rfl] at H; exact H
       clear H
       have H := H1
       clear H1
       have HQ_ := Option.some.inj H
       clear H
       go_enter Try.func4, Try.ntmps4
       go_wp2_with (first | ((with_reducible refine gate_callee (f := 12) rfl ?_); refine goesL_ (some 23) rfl rfl Try.func12 (by kernel_rfl) rfl #[.string a0, .int .i64 a1, .int .i64 a2] rfl (by (try simp only [List.map_toArray, List.map_cons, List.map_nil]); first | done | rfl | (simp only [List.length_drop, List.length_take]; rfl)) ?_; (with_reducible refine (ident_Row.calls k a0 a1 a2 t216 _ A11.out).mono ?_); rintro e w21 ⟨v217, rfl, ho0, hb⟩; refine ⟨_, rfl, ?_⟩; have n0_ := Aside0.mk (Kd.R_lower ho0 (below_size (by repeat (first | (with_reducible first | exact HB.out | apply below_alloc | apply pw_below_drewN | apply below_drew1) | exact HB.out)))); have n1_ := Aside0.mk (below_step (by repeat (first | (with_reducible first | exact HB.out | apply below_alloc | apply pw_below_drewN | apply below_drew1) | exact HB.out)) hb); clear HB; have HO218 := n0_; have HB := n1_; clear n0_ n1_; (try clear hb); (try clear hb2); (try clear hk); (try clear hi); (try clear ho0)) | ((with_reducible refine gate_callee (f := 6) rfl ?_); refine goesL_ (some 34) rfl rfl Try.func6 (by kernel_rfl) rfl #[] rfl (by (try simp only [List.map_toArray, List.map_cons, List.map_nil]); first | done | rfl | (simp only [List.length_drop, List.length_take]; rfl)) ?_; (with_reducible refine (rafterlaw11_awake.calls k  true _ ?side1 A19.out).mono ?_); (case side1 => exact EGlob.G_below HG.out (by repeat (first | (with_reducible first | exact HB.out | apply below_alloc | apply pw_below_drewN | apply below_drew1) | exact HB.out))); rintro e w22 ⟨rfl, hb⟩; refine ⟨_, rfl, ?_⟩; have n0_ := Aside0.mk (Kd.R_below (by (with_reducible repeat (first | apply Kd.R_alloc | apply Kd.R_drewN | apply Kd.R_drew)); exact HO218.out) hb); have n1_ := Aside0.mk (below_step (by repeat (first | (with_reducible first | exact HB.out | apply below_alloc | apply pw_below_drewN | apply below_drew1) | exact HB.out)) hb); clear HO218; clear HB; have HO218 := n0_; have HB := n1_; clear n0_ n1_; (try clear hb); (try clear hb2); (try clear hk); (try clear hi); obtain ⟨Ao23, co23, eo23⟩ := Kd.R_slice HO218.out; subst eo23))
       go_ret
       exact ⟨by first | rfl | (simp [errW_none, errW_some] <;> rfl) | (simp [*, errW_none, errW_some] <;> rfl), by repeat (first | (with_reducible first | exact HB.out | apply below_alloc | apply pw_below_drewN | apply below_drew1) | exact HB.out)⟩
      ·replace c20 := Bool.eq_false_iff.mpr c20
       subst c20
       have H1 : (some false) = some true := by rw [if_neg (show ¬ (false = true) by decide)] at H; exact H
       clear H
       have H := H1
       clear H1
       exact absurd (Option.some.inj H) (by decide)
     ·rw [if_neg c18] at H
      have c18b0 : decide (a2 < 1) = false := decide_eq_false c18
      clear c18
      by_cases c24 : a2 > 2000
      ·rw [if_pos c24] at H
       have c24b0 : decide (2000 < a2) = true := decide_eq_true c24
       clear c24
       replace H := Option.bind_eq_some_iff.mp H
       obtain ⟨t221, A250, H⟩ := H
       replace H : (if t221 = true then (some ((t216.length : Int) == 0)) else (some false)) = some true := H
       have A25 := Aside0.mk A250
       clear A250
       by_cases c26 : t221 = true
       ·subst c26
        have H1 : (some ((t216.length : Int) == 0)) = some true := by rw [if_pos rfl] at H; exact H
        clear H
        have H := H1
        clear H1
        have HQ_ := Option.some.inj H
        clear H
        go_enter Try.func4, Try.ntmps4
        go_wp2_with (first | ((with_reducible refine gate_callee (f := 12) rfl ?_); refine goesL_ (some 23) rfl rfl Try.func12 (by kernel_rfl) rfl #[.string a0, .int .i64 a1, .int .i64 a2] rfl (by (try simp only [List.map_toArray, List.map_cons, List.map_nil]); first | done | rfl | (simp only [List.length_drop, List.length_take]; rfl)) ?_; (with_reducible refine (ident_Row.calls k a0 a1 a2 t216 _ A11.out).mono ?_); rintro e w27 ⟨v217, rfl, ho0, hb⟩; refine ⟨_, rfl, ?_⟩; have n0_ := Aside0.mk (Kd.R_lower ho0 (below_size (by repeat (first | (with_reducible first | exact HB.out | apply below_alloc | apply pw_below_drewN | apply below_drew1) | exact HB.out)))); have n1_ := Aside0.mk (below_step (by repeat (first | (with_reducible first | exact HB.out | apply below_alloc | apply pw_below_drewN | apply below_drew1) | exact HB.out)) hb); clear HB; have HO218 := n0_; have HB := n1_; clear n0_ n1_; (try clear hb); (try clear hb2); (try clear hk); (try clear hi); (try clear ho0)) | ((with_reducible refine gate_callee (f := 6) rfl ?_); refine goesL_ (some 34) rfl rfl Try.func6 (by kernel_rfl) rfl #[] rfl (by (try simp only [List.map_toArray, List.map_cons, List.map_nil]); first | done | rfl | (simp only [List.length_drop, List.length_take]; rfl)) ?_; (with_reducible refine (rafterlaw11_awake.calls k  true _ ?side1 A25.out).mono ?_); (case side1 => exact EGlob.G_below HG.out (by repeat (first | (with_reducible first | exact HB.out | apply below_alloc | apply pw_below_drewN | apply below_drew1) | exact HB.out))); rintro e w28 ⟨rfl, hb⟩; refine ⟨_, rfl, ?_⟩; have n0_ := Aside0.mk (Kd.R_below (by (with_reducible repeat (first | apply Kd.R_alloc | apply Kd.R_drewN | apply Kd.R_drew)); exact HO218.out) hb); have n1_ := Aside0.mk (below_step (by repeat (first | (with_reducible first | exact HB.out | apply below_alloc | apply pw_below_drewN | apply below_drew1) | exact HB.out)) hb); clear HO218; clear HB; have HO218 := n0_; have HB := n1_; clear n0_ n1_; (try clear hb); (try clear hb2); (try clear hk); (try clear hi); obtain ⟨Ao29, co29, eo29⟩ := Kd.R_slice HO218.out; subst eo29))
        go_ret
        exact ⟨by first | rfl | (simp [errW_none, errW_some] <;> rfl) | (simp [*, errW_none, errW_some] <;> rfl), by repeat (first | (with_reducible first | exact HB.out | apply below_alloc | apply pw_below_drewN | apply below_drew1) | exact HB.out)⟩
       ·replace c26 := Bool.eq_false_iff.mpr c26
        subst c26
        have H1 : (some false) = some true := by rw [if_neg (show ¬ (false = true) by decide)] at H; exact H
        clear H
        have H := H1
        clear H1
        exact absurd (Option.some.inj H) (by decide)
      ·rw [if_neg c24] at H
       have c24b0 : decide (2000 < a2) = false := decide_eq_false c24
       clear c24
       have H' := Aside0.mk H
       clear H
       go_enter Try.func4, Try.ntmps4
       go_wp2_with (first | ((with_reducible refine gate_callee (f := 12) rfl ?_); refine goesL_ (some 23) rfl rfl Try.func12 (by kernel_rfl) rfl #[.string a0, .int .i64 a1, .int .i64 a2] rfl (by (try simp only [List.map_toArray, List.map_cons, List.map_nil]); first | done | rfl | (simp only [List.length_drop, List.length_take]; rfl)) ?_; (with_reducible refine (ident_Row.calls k a0 a1 a2 t216 _ A11.out).mono ?_); rintro e w30 ⟨v217, rfl, ho0, hb⟩; refine ⟨_, rfl, ?_⟩; have n0_ := Aside0.mk (Kd.R_lower ho0 (below_size (by repeat (first | (with_reducible first | exact HB.out | apply below_alloc | apply pw_below_drewN | apply below_drew1) | exact HB.out)))); have n1_ := Aside0.mk (below_step (by repeat (first | (with_reducible first | exact HB.out | apply below_alloc | apply pw_below_drewN | apply below_drew1) | exact HB.out)) hb); clear HB; have HO218 := n0_; have HB := n1_; clear n0_ n1_; (try clear hb); (try clear hb2); (try clear hk); (try clear hi); (try clear ho0)))
       go_loopg [8] k (fun kq v8 w' => ∃ (x8_1 : Int), v8 = .int .i64 x8_1 ∧ Aside0 (rafterlaw11_IdentRows.l0 kq a0 a1 a2 t216 x8_1 = some true) ∧ Aside0 (kq ≤ k) ∧ Aside0 (Kd.R k23 23 w' w.heap.size (fun _ => True) v217 t216) ∧ Aside0 (Below w.heap.size w w'))
       case atStart => exact ⟨(0), (by first | rfl | (simp; done) | (simp [*]; done)), H', ⟨Nat.le_refl _⟩, ⟨by (with_reducible repeat (first | apply Kd.R_alloc | apply Kd.R_drewN | apply Kd.R_drew)); exact HO218.out⟩, ⟨by repeat (first | (with_reducible first | exact HB.out | apply below_alloc | apply pw_below_drewN | apply below_drew1) | exact HB.out)⟩⟩
       case round =>
        clear H'
        try clear c1
        try clear c2
        try clear p2
        try clear c4
        try clear c4b0
        try clear c6
        try clear c7
        try clear c7b0
        try clear c8
        try clear c8b0
        try clear c12
        try clear c12b0
        try clear c14
        try clear c18
        try clear c18b0
        try clear c20
        try clear c24
        try clear c24b0
        try clear c26
        obtain ⟨x8_1, rfl, HA, HK1, HO_7, HB⟩ := hrel
        cases gk with
        | zero => exact absurd HA.out (by simp [rafterlaw11_IdentRows.l0])
        | succ k1 =>
         have H := HA.out
         clear HA
         simp only [rafterlaw11_IdentRows.l0] at H
         by_cases c31 : x8_1 < (t216.length : Int)
         ·rw [if_pos c31] at H
          have c31b0 : decide (x8_1 < (t216.length : Int)) = true := decide_eq_true c31
          clear c31
          by_cases c32 : 0 ≤ x8_1
          ·rw [if_pos c32] at H
           have c32b0 : decide (0 ≤ x8_1) = true := decide_eq_true c32
           clear c32
           by_cases c33 : ((rd_T23 t216 x8_1).f0).toList = a0.toList
           ·rw [if_pos c33] at H
            have c33b0 : (((rd_T23 t216 x8_1).f0).toList == a0.toList) = true := beq_iff_eq.mpr c33
            have c33b1 : (((rd_T23 t216 x8_1).f0).toList != a0.toList) = false := bne_eq_false_iff_eq.mpr c33
            clear c33
            by_cases c34 : ((rd_T23 t216 x8_1).f1) = (wrap64 (a1 + x8_1))
            ·rw [if_pos c34] at H
             have c34b0 : (((rd_T23 t216 x8_1).f1) == (wrap64 (a1 + x8_1))) = true := beq_iff_eq.mpr c34
             have c34b1 : (((rd_T23 t216 x8_1).f1) != (wrap64 (a1 + x8_1))) = false := bne_eq_false_iff_eq.mpr c34
             clear c34
             have H' := Aside0.mk H
             clear H
             obtain ⟨Ao35, co35, eo35⟩ := Kd.R_slice HO_7.out
             subst eo35
             have p222 : 0 ≤ (x8_1 : Int) := of_decide_eq_true (by first | (with_reducible assumption) | assumption)
             have q222 : x8_1 < (t216.length : Int) := of_decide_eq_true (by first | (with_reducible assumption) | assumption)
             obtain ⟨ad222, e222, hx222_0, hx222_1⟩ := at_T23 (Kd.R_reads' HO_7.out).2.2 x8_1 p222 q222
             cases e222
             replace p222 := eq_true p222
             replace q222 := eq_true q222
             have p223 : 0 ≤ (x8_1 : Int) := of_decide_eq_true (by first | (with_reducible assumption) | assumption)
             have q223 : x8_1 < (t216.length : Int) := of_decide_eq_true (by first | (with_reducible assumption) | assumption)
             obtain ⟨ad223, e223, hx223_0, hx223_1⟩ := at_T23 (Kd.R_reads' HO_7.out).2.2 x8_1 p223 q223
             obtain rfl : ad222 = ad223 := (by injection e223)
             replace p223 := eq_true p223
             replace q223 := eq_true q223
             go_wp2
             go_roundg k1
             case measure => have := HK1.out; omega
             case rel => exact ⟨(wrap64 (x8_1 + 1)), (by first | rfl | (simp; done) | (simp [*]; done)), H', ⟨by have := HK1.out; omega⟩, ⟨by (with_reducible repeat (first | apply Kd.R_alloc | apply Kd.R_drewN | apply Kd.R_drew)); exact HO_7.out⟩, ⟨by repeat (first | (with_reducible first | exact HB.out | apply below_alloc | apply pw_below_drewN | apply below_drew1) | exact HB.out)⟩⟩
            ·rw [if_neg c34] at H
             have c34b0 : (((rd_T23 t216 x8_1).f1) == (wrap64 (a1 + x8_1))) = false := beq_eq_false_iff_ne.mpr c34
             have c34b1 : (((rd_T23 t216 x8_1).f1) != (wrap64 (a1 + x8_1))) = true := bne_iff_ne.mpr c34
             exact absurd (Option.some.inj H) (by decide)
           ·rw [if_neg c33] at H
            have c33b0 : (((rd_T23 t216 x8_1).f0).toList == a0.toList) = false := beq_eq_false_iff_ne.mpr c33
            have c33b1 : (((rd_T23 t216 x8_1).f0).toList != a0.toList) = true := bne_iff_ne.mpr c33
            exact absurd (Option.some.inj H) (by decide)
          ·rw [if_neg c32] at H
           exact absurd H (by simp)
         ·rw [if_neg c31] at H
          have c31b0 : decide (x8_1 < (t216.length : Int)) = false := decide_eq_false c31
          clear c31
          replace H := Option.bind_eq_some_iff.mp H
          obtain ⟨t224, A360, H⟩ := H
          replace H : (if t224 = true then (some ((t216.length : Int) == a2)) else (some false)) = some true := H
          have A36 := Aside0.mk A360
          clear A360
          by_cases c37 : t224 = true
          ·subst c37
           have H1 : (some ((t216.length : Int) == a2)) = some true := by rw [if_pos rfl] at H; exact H
           clear H
           have H := H1
           clear H1
           have HQ_ := Option.some.inj H
           clear H
           obtain ⟨Ao38, co38, eo38⟩ := Kd.R_slice HO_7.out
           subst eo38
           go_wp2_with (first | ((with_reducible refine gate_callee (f := 6) rfl ?_); refine goesL_ (some 64) rfl rfl Try.func6 (by kernel_rfl) rfl #[] rfl (by (try simp only [List.map_toArray, List.map_cons, List.map_nil]); first | done | rfl | (simp only [List.length_drop, List.length_take]; rfl)) ?_; (with_reducible refine (rafterlaw11_awake.calls k1  true _ ?side1 A36.out).mono ?_); (case side1 => exact EGlob.G_below HG.out (by repeat (first | (with_reducible first | exact HB.out | apply below_alloc | apply pw_below_drewN | apply below_drew1) | exact HB.out))); rintro e w39 ⟨rfl, hb⟩; refine ⟨_, rfl, ?_⟩; have n0_ := Aside0.mk (Kd.R_below (by (with_reducible repeat (first | apply Kd.R_alloc | apply Kd.R_drewN | apply Kd.R_drew)); exact HO_7.out) hb); have n1_ := Aside0.mk (below_step (by repeat (first | (with_reducible first | exact HB.out | apply below_alloc | apply pw_below_drewN | apply below_drew1) | exact HB.out)) hb); clear HO_7; clear HB; have HO_7 := n0_; have HB := n1_; clear n0_ n1_; (try clear hb); (try clear hb2); (try clear hk); (try clear hi)))
           go_ret
           exact ⟨by first | rfl | (simp [errW_none, errW_some] <;> rfl) | (simp [*, errW_none, errW_some] <;> rfl), by repeat (first | (with_reducible first | exact HB.out | apply below_alloc | apply pw_below_drewN | apply below_drew1) | exact HB.out)⟩
          ·replace c37 := Bool.eq_false_iff.mpr c37
           subst c37
           have H1 : (some false) = some true := by rw [if_neg (show ¬ (false = true) by decide)] at H; exact H
           clear H
           have H := H1
           clear H1
           exact absurd (Option.some.inj H) (by decide)
  ·rw [if_neg c7] at H
   have c7b0 : decide (300 < a2) = false := decide_eq_false c7
   clear c7
   replace H := Option.bind_eq_some_iff.mp H
   obtain ⟨t225, A400, H⟩ := H
   replace H : (if a1 < 0 then ((rafterlaw11_awake.f k).bind fun t228 => (if t228 = true then (some ((t225.length : Int) == 0)) else (some false))) else (if a2 < 1 then ((rafterlaw11_awake.f k).bind fun t229 => (if t229 = true then (some ((t225.length : Int) == 0)) else (some false))) else (if a2 > 2000 then ((rafterlaw11_awake.f k).bind fun t230 => (if t230 = true then (some ((t225.length : Int) == 0)) else (some false))) else (rafterlaw11_IdentRows.l0 k a0 a1 a2 t225 0)))) = some true := H
   have A40 := Aside0.mk A400
   clear A400
   by_cases c41 : a1 < 0
   ·rw [if_pos c41] at H
    have c41b0 : decide (a1 < 0) = true := decide_eq_true c41
    clear c41
    replace H := Option.bind_eq_some_iff.mp H
    obtain ⟨t228, A420, H⟩ := H
    replace H : (if t228 = true then (some ((t225.length : Int) == 0)) else (some false)) = some true := H
    have A42 := Aside0.mk A420
    clear A420
    by_cases c43 : t228 = true
    ·subst c43
     have H1 : (some ((t225.length : Int) == 0)) = some true := by rw [if_pos rfl] at H; exact H
     clear H
     have H := H1
     clear H1
     have HQ_ := Option.some.inj H
     clear H
     go_enter Try.func4, Try.ntmps4
     go_wp2_with (first | ((with_reducible refine gate_callee (f := 12) rfl ?_); refine goesL_ (some 23) rfl rfl Try.func12 (by kernel_rfl) rfl #[.string a0, .int .i64 a1, .int .i64 a2] rfl (by (try simp only [List.map_toArray, List.map_cons, List.map_nil]); first | done | rfl | (simp only [List.length_drop, List.length_take]; rfl)) ?_; (with_reducible refine (ident_Row.calls k a0 a1 a2 t225 _ A40.out).mono ?_); rintro e w44 ⟨v226, rfl, ho0, hb⟩; refine ⟨_, rfl, ?_⟩; have n0_ := Aside0.mk (Kd.R_lower ho0 (below_size (by repeat (first | (with_reducible first | exact HB.out | apply below_alloc | apply pw_below_drewN | apply below_drew1) | exact HB.out)))); have n1_ := Aside0.mk (below_step (by repeat (first | (with_reducible first | exact HB.out | apply below_alloc | apply pw_below_drewN | apply below_drew1) | exact HB.out)) hb); clear HB; have HO227 := n0_; have HB := n1_; clear n0_ n1_; (try clear hb); (try clear hb2); (try clear hk); (try clear hi); (try clear ho0)) | ((with_reducible refine gate_callee (f := 6) rfl ?_); refine goesL_ (some 34) rfl rfl Try.func6 (by kernel_rfl) rfl #[] rfl (by (try simp only [List.map_toArray, List.map_cons, List.map_nil]); first | done | rfl | (simp only [List.length_drop, List.length_take]; rfl)) ?_; (with_reducible refine (rafterlaw11_awake.calls k  true _ ?side1 A42.out).mono ?_); (case side1 => exact EGlob.G_below HG.out (by repeat (first | (with_reducible first | exact HB.out | apply below_alloc | apply pw_below_drewN | apply below_drew1) | exact HB.out))); rintro e w45 ⟨rfl, hb⟩; refine ⟨_, rfl, ?_⟩; have n0_ := Aside0.mk (Kd.R_below (by (with_reducible repeat (first | apply Kd.R_alloc | apply Kd.R_drewN | apply Kd.R_drew)); exact HO227.out) hb); have n1_ := Aside0.mk (below_step (by repeat (first | (with_reducible first | exact HB.out | apply below_alloc | apply pw_below_drewN | apply below_drew1) | exact HB.out)) hb); clear HO227; clear HB; have HO227 := n0_; have HB := n1_; clear n0_ n1_; (try clear hb); (try clear hb2); (try clear hk); (try clear hi); obtain ⟨Ao46, co46, eo46⟩ := Kd.R_slice HO227.out; subst eo46))
     go_ret
     exact ⟨by first | rfl | (simp [errW_none, errW_some] <;> rfl) | (simp [*, errW_none, errW_some] <;> rfl), by repeat (first | (with_reducible first | exact HB.out | apply below_alloc | apply pw_below_drewN | apply below_drew1) | exact HB.out)⟩
    ·replace c43 := Bool.eq_false_iff.mpr c43
     subst c43
     have H1 : (some false) = some true := by rw [if_neg (show ¬ (false = true) by decide)] at H; exact H
     clear H
     have H := H1
     clear H1
     exact absurd (Option.some.inj H) (by decide)
   ·rw [if_neg c41] at H
    have c41b0 : decide (a1 < 0) = false := decide_eq_false c41
    clear c41
    by_cases c47 : a2 < 1
    ·rw [if_pos c47] at H
     have c47b0 : decide (a2 < 1) = true := decide_eq_true c47
     clear c47
     replace H := Option.bind_eq_some_iff.mp H
     obtain ⟨t229, A480, H⟩ := H
     replace H : (if t229 = true then (some ((t225.length : Int) == 0)) else (some false)) = some true := H
     have A48 := Aside0.mk A480
     clear A480
     by_cases c49 : t229 = true
     ·subst c49
      have H1 : (some ((t225.length : Int) == 0)) = some true := by rw [if_pos rfl] at H; exact H
      clear H
      have H := H1
      clear H1
      have HQ_ := Option.some.inj H
      clear H
      go_enter Try.func4, Try.ntmps4
      go_wp2_with (first | ((with_reducible refine gate_callee (f := 12) rfl ?_); refine goesL_ (some 23) rfl rfl Try.func12 (by kernel_rfl) rfl #[.string a0, .int .i64 a1, .int .i64 a2] rfl (by (try simp only [List.map_toArray, List.map_cons, List.map_nil]); first | done | rfl | (simp only [List.length_drop, List.length_take]; rfl)) ?_; (with_reducible refine (ident_Row.calls k a0 a1 a2 t225 _ A40.out).mono ?_); rintro e w50 ⟨v226, rfl, ho0, hb⟩; refine ⟨_, rfl, ?_⟩; have n0_ := Aside0.mk (Kd.R_lower ho0 (below_size (by repeat (first | (with_reducible first | exact HB.out | apply below_alloc | apply pw_below_drewN | apply below_drew1) | exact HB.out)))); have n1_ := Aside0.mk (below_step (by repeat (first | (with_reducible first | exact HB.out | apply below_alloc | apply pw_below_drewN | apply below_drew1) | exact HB.out)) hb); clear HB; have HO227 := n0_; have HB := n1_; clear n0_ n1_; (try clear hb); (try clear hb2); (try clear hk); (try clear hi); (try clear ho0)) | ((with_reducible refine gate_callee (f := 6) rfl ?_); refine goesL_ (some 34) rfl rfl Try.func6 (by kernel_rfl) rfl #[] rfl (by (try simp only [List.map_toArray, List.map_cons, List.map_nil]); first | done | rfl | (simp only [List.length_drop, List.length_take]; rfl)) ?_; (with_reducible refine (rafterlaw11_awake.calls k  true _ ?side1 A48.out).mono ?_); (case side1 => exact EGlob.G_below HG.out (by repeat (first | (with_reducible first | exact HB.out | apply below_alloc | apply pw_below_drewN | apply below_drew1) | exact HB.out))); rintro e w51 ⟨rfl, hb⟩; refine ⟨_, rfl, ?_⟩; have n0_ := Aside0.mk (Kd.R_below (by (with_reducible repeat (first | apply Kd.R_alloc | apply Kd.R_drewN | apply Kd.R_drew)); exact HO227.out) hb); have n1_ := Aside0.mk (below_step (by repeat (first | (with_reducible first | exact HB.out | apply below_alloc | apply pw_below_drewN | apply below_drew1) | exact HB.out)) hb); clear HO227; clear HB; have HO227 := n0_; have HB := n1_; clear n0_ n1_; (try clear hb); (try clear hb2); (try clear hk); (try clear hi); obtain ⟨Ao52, co52, eo52⟩ := Kd.R_slice HO227.out; subst eo52))
      go_ret
      exact ⟨by first | rfl | (simp [errW_none, errW_some] <;> rfl) | (simp [*, errW_none, errW_some] <;> rfl), by repeat (first | (with_reducible first | exact HB.out | apply below_alloc | apply pw_below_drewN | apply below_drew1) | exact HB.out)⟩
     ·replace c49 := Bool.eq_false_iff.mpr c49
      subst c49
      have H1 : (some false) = some true := by rw [if_neg (show ¬ (false = true) by decide)] at H; exact H
      clear H
      have H := H1
      clear H1
      exact absurd (Option.some.inj H) (by decide)
    ·rw [if_neg c47] at H
     have c47b0 : decide (a2 < 1) = false := decide_eq_false c47
     clear c47
     by_cases c53 : a2 > 2000
     ·rw [if_pos c53] at H
      have c53b0 : decide (2000 < a2) = true := decide_eq_true c53
      clear c53
      replace H := Option.bind_eq_some_iff.mp H
      obtain ⟨t230, A540, H⟩ := H
      replace H : (if t230 = true then (some ((t225.length : Int) == 0)) else (some false)) = some true := H
      have A54 := Aside0.mk A540
      clear A540
      by_cases c55 : t230 = true
      ·subst c55
       have H1 : (some ((t225.length : Int) == 0)) = some true := by rw [if_pos rfl] at H; exact H
       clear H
       have H := H1
       clear H1
       have HQ_ := Option.some.inj H
       clear H
       go_enter Try.func4, Try.ntmps4
       go_wp2_with (first | ((with_reducible refine gate_callee (f := 12) rfl ?_); refine goesL_ (some 23) rfl rfl Try.func12 (by kernel_rfl) rfl #[.string a0, .int .i64 a1, .int .i64 a2] rfl (by (try simp only [List.map_toArray, List.map_cons, List.map_nil]); first | done | rfl | (simp only [List.length_drop, List.length_take]; rfl)) ?_; (with_reducible refine (ident_Row.calls k a0 a1 a2 t225 _ A40.out).mono ?_); rintro e w56 ⟨v226, rfl, ho0, hb⟩; refine ⟨_, rfl, ?_⟩; have n0_ := Aside0.mk (Kd.R_lower ho0 (below_size (by repeat (first | (with_reducible first | exact HB.out | apply below_alloc | apply pw_below_drewN | apply below_drew1) | exact HB.out)))); have n1_ := Aside0.mk (below_step (by repeat (first | (with_reducible first | exact HB.out | apply below_alloc | apply pw_below_drewN | apply below_drew1) | exact HB.out)) hb); clear HB; have HO227 := n0_; have HB := n1_; clear n0_ n1_; (try clear hb); (try clear hb2); (try clear hk); (try clear hi); (try clear ho0)) | ((with_reducible refine gate_callee (f := 6) rfl ?_); refine goesL_ (some 34) rfl rfl Try.func6 (by kernel_rfl) rfl #[] rfl (by (try simp only [List.map_toArray, List.map_cons, List.map_nil]); first | done | rfl | (simp only [List.length_drop, List.length_take]; rfl)) ?_; (with_reducible refine (rafterlaw11_awake.calls k  true _ ?side1 A54.out).mono ?_); (case side1 => exact EGlob.G_below HG.out (by repeat (first | (with_reducible first | exact HB.out | apply below_alloc | apply pw_below_drewN | apply below_drew1) | exact HB.out))); rintro e w57 ⟨rfl, hb⟩; refine ⟨_, rfl, ?_⟩; have n0_ := Aside0.mk (Kd.R_below (by (with_reducible repeat (first | apply Kd.R_alloc | apply Kd.R_drewN | apply Kd.R_drew)); exact HO227.out) hb); have n1_ := Aside0.mk (below_step (by repeat (first | (with_reducible first | exact HB.out | apply below_alloc | apply pw_below_drewN | apply below_drew1) | exact HB.out)) hb); clear HO227; clear HB; have HO227 := n0_; have HB := n1_; clear n0_ n1_; (try clear hb); (try clear hb2); (try clear hk); (try clear hi); obtain ⟨Ao58, co58, eo58⟩ := Kd.R_slice HO227.out; subst eo58))
       go_ret
       exact ⟨by first | rfl | (simp [errW_none, errW_some] <;> rfl) | (simp [*, errW_none, errW_some] <;> rfl), by repeat (first | (with_reducible first | exact HB.out | apply below_alloc | apply pw_below_drewN | apply below_drew1) | exact HB.out)⟩
      ·replace c55 := Bool.eq_false_iff.mpr c55
       subst c55
       have H1 : (some false) = some true := by rw [if_neg (show ¬ (false = true) by decide)] at H; exact H
       clear H
       have H := H1
       clear H1
       exact absurd (Option.some.inj H) (by decide)
     ·rw [if_neg c53] at H
      have c53b0 : decide (2000 < a2) = false := decide_eq_false c53
      clear c53
      have H' := Aside0.mk H
      clear H
      go_enter Try.func4, Try.ntmps4
      go_wp2_with (first | ((with_reducible refine gate_callee (f := 12) rfl ?_); refine goesL_ (some 23) rfl rfl Try.func12 (by kernel_rfl) rfl #[.string a0, .int .i64 a1, .int .i64 a2] rfl (by (try simp only [List.map_toArray, List.map_cons, List.map_nil]); first | done | rfl | (simp only [List.length_drop, List.length_take]; rfl)) ?_; (with_reducible refine (ident_Row.calls k a0 a1 a2 t225 _ A40.out).mono ?_); rintro e w59 ⟨v226, rfl, ho0, hb⟩; refine ⟨_, rfl, ?_⟩; have n0_ := Aside0.mk (Kd.R_lower ho0 (below_size (by repeat (first | (with_reducible first | exact HB.out | apply below_alloc | apply pw_below_drewN | apply below_drew1) | exact HB.out)))); have n1_ := Aside0.mk (below_step (by repeat (first | (with_reducible first | exact HB.out | apply below_alloc | apply pw_below_drewN | apply below_drew1) | exact HB.out)) hb); clear HB; have HO227 := n0_; have HB := n1_; clear n0_ n1_; (try clear hb); (try clear hb2); (try clear hk); (try clear hi); (try clear ho0)))
      go_loopg [8] k (fun kq v8 w' => ∃ (x8_1 : Int), v8 = .int .i64 x8_1 ∧ Aside0 (rafterlaw11_IdentRows.l0 kq a0 a1 a2 t225 x8_1 = some true) ∧ Aside0 (kq ≤ k) ∧ Aside0 (Kd.R k23 23 w' w.heap.size (fun _ => True) v226 t225) ∧ Aside0 (Below w.heap.size w w'))
      case atStart => exact ⟨(0), (by first | rfl | (simp; done) | (simp [*]; done)), H', ⟨Nat.le_refl _⟩, ⟨by (with_reducible repeat (first | apply Kd.R_alloc | apply Kd.R_drewN | apply Kd.R_drew)); exact HO227.out⟩, ⟨by repeat (first | (with_reducible first | exact HB.out | apply below_alloc | apply pw_below_drewN | apply below_drew1) | exact HB.out)⟩⟩
      case round =>
       clear H'
       try clear c1
       try clear c2
       try clear p2
       try clear q2
       try clear hx2
       try clear c3
       try clear c4
       try clear c4b0
       try clear c5
       try clear c6
       try clear p6
       try clear c7
       try clear c7b0
       try clear c8
       try clear c8b0
       try clear c12
       try clear c12b0
       try clear c14
       try clear c18
       try clear c18b0
       try clear c20
       try clear p22
       try clear q22
       try clear hx22
       try clear c24
       try clear c24b0
       try clear c26
       try clear c31
       try clear c31b0
       try clear c32
       try clear c32b0
       try clear c33
       try clear c33b0
       try clear c33b1
       try clear c34
       try clear c34b0
       try clear c34b1
       try clear c37
       try clear c41
       try clear c41b0
       try clear c43
       try clear c47
       try clear c47b0
       try clear c49
       try clear c53
       try clear c53b0
       try clear c55
       try clear hx222_0
       try clear hx222_1
       try clear hx223_0
       try clear hx223_1
       try clear p2
       try clear p222
       try clear p223
       try clear q222
       try clear q223
       obtain ⟨x8_1, rfl, HA, HK1, HO_7, HB⟩ := hrel
       cases gk with
       | zero => exact absurd HA.out (by simp [rafterlaw11_IdentRows.l0])
       | succ k1 =>
        have H := HA.out
        clear HA
        simp only [rafterlaw11_IdentRows.l0] at H
        by_cases c60 : x8_1 < (t225.length : Int)
        ·rw [if_pos c60] at H
         have c60b0 : decide (x8_1 < (t225.length : Int)) = true := decide_eq_true c60
         clear c60
         by_cases c61 : 0 ≤ x8_1
         ·rw [if_pos c61] at H
          have c61b0 : decide (0 ≤ x8_1) = true := decide_eq_true c61
          clear c61
          by_cases c62 : ((rd_T23 t225 x8_1).f0).toList = a0.toList
          ·rw [if_pos c62] at H
           have c62b0 : (((rd_T23 t225 x8_1).f0).toList == a0.toList) = true := beq_iff_eq.mpr c62
           have c62b1 : (((rd_T23 t225 x8_1).f0).toList != a0.toList) = false := bne_eq_false_iff_eq.mpr c62
           clear c62
           by_cases c63 : ((rd_T23 t225 x8_1).f1) = (wrap64 (a1 + x8_1))
           ·rw [if_pos c63] at H
            have c63b0 : (((rd_T23 t225 x8_1).f1) == (wrap64 (a1 + x8_1))) = true := beq_iff_eq.mpr c63
            have c63b1 : (((rd_T23 t225 x8_1).f1) != (wrap64 (a1 + x8_1))) = false := bne_eq_false_iff_eq.mpr c63
            clear c63
            have H' := Aside0.mk H
            clear H
            obtain ⟨Ao64, co64, eo64⟩ := Kd.R_slice HO_7.out
            subst eo64
            have p222 : 0 ≤ (x8_1 : Int) := of_decide_eq_true (by first | (with_reducible assumption) | assumption)
            have q222 : x8_1 < (t225.length : Int) := of_decide_eq_true (by first | (with_reducible assumption) | assumption)
            obtain ⟨ad222, e222, hx222_0, hx222_1⟩ := at_T23 (Kd.R_reads' HO_7.out).2.2 x8_1 p222 q222
            cases e222
            replace p222 := eq_true p222
            replace q222 := eq_true q222
            have p223 : 0 ≤ (x8_1 : Int) := of_decide_eq_true (by first | (with_reducible assumption) | assumption)
            have q223 : x8_1 < (t225.length : Int) := of_decide_eq_true (by first | (with_reducible assumption) | assumption)
            obtain ⟨ad223, e223, hx223_0, hx223_1⟩ := at_T23 (Kd.R_reads' HO_7.out).2.2 x8_1 p223 q223
            obtain rfl : ad222 = ad223 := (by injection e223)
            replace p223 := eq_true p223
            replace q223 := eq_true q223
            go_wp2
            go_roundg k1
            case measure => have := HK1.out; omega
            case rel => exact ⟨(wrap64 (x8_1 + 1)), (by first | rfl | (simp; done) | (simp [*]; done)), H', ⟨by have := HK1.out; omega⟩, ⟨by (with_reducible repeat (first | apply Kd.R_alloc | apply Kd.R_drewN | apply Kd.R_drew)); exact HO_7.out⟩, ⟨by repeat (first | (with_reducible first | exact HB.out | apply below_alloc | apply pw_below_drewN | apply below_drew1) | exact HB.out)⟩⟩
           ·rw [if_neg c63] at H
            have c63b0 : (((rd_T23 t225 x8_1).f1) == (wrap64 (a1 + x8_1))) = false := beq_eq_false_iff_ne.mpr c63
            have c63b1 : (((rd_T23 t225 x8_1).f1) != (wrap64 (a1 + x8_1))) = true := bne_iff_ne.mpr c63
            exact absurd (Option.some.inj H) (by decide)
          ·rw [if_neg c62] at H
           have c62b0 : (((rd_T23 t225 x8_1).f0).toList == a0.toList) = false := beq_eq_false_iff_ne.mpr c62
           have c62b1 : (((rd_T23 t225 x8_1).f0).toList != a0.toList) = true := bne_iff_ne.mpr c62
           exact absurd (Option.some.inj H) (by decide)
         ·rw [if_neg c61] at H
          exact absurd H (by simp)
        ·rw [if_neg c60] at H
         have c60b0 : decide (x8_1 < (t225.length : Int)) = false := decide_eq_false c60
         clear c60
         replace H := Option.bind_eq_some_iff.mp H
         obtain ⟨t224, A650, H⟩ := H
         replace H : (if t224 = true then (some ((t225.length : Int) == a2)) else (some false)) = some true := H
         have A65 := Aside0.mk A650
         clear A650
         by_cases c66 : t224 = true
         ·subst c66
          have H1 : (some ((t225.length : Int) == a2)) = some true := by rw [if_pos rfl] at H; exact H
          clear H
          have H := H1
          clear H1
          have HQ_ := Option.some.inj H
          clear H
          obtain ⟨Ao67, co67, eo67⟩ := Kd.R_slice HO_7.out
          subst eo67
          go_wp2_with (first | ((with_reducible refine gate_callee (f := 6) rfl ?_); refine goesL_ (some 64) rfl rfl Try.func6 (by kernel_rfl) rfl #[] rfl (by (try simp only [List.map_toArray, List.map_cons, List.map_nil]); first | done | rfl | (simp only [List.length_drop, List.length_take]; rfl)) ?_; (with_reducible refine (rafterlaw11_awake.calls k1  true _ ?side1 A65.out).mono ?_); (case side1 => exact EGlob.G_below HG.out (by repeat (first | (with_reducible first | exact HB.out | apply below_alloc | apply pw_below_drewN | apply below_drew1) | exact HB.out))); rintro e w68 ⟨rfl, hb⟩; refine ⟨_, rfl, ?_⟩; have n0_ := Aside0.mk (Kd.R_below (by (with_reducible repeat (first | apply Kd.R_alloc | apply Kd.R_drewN | apply Kd.R_drew)); exact HO_7.out) hb); have n1_ := Aside0.mk (below_step (by repeat (first | (with_reducible first | exact HB.out | apply below_alloc | apply pw_below_drewN | apply below_drew1) | exact HB.out)) hb); clear HO_7; clear HB; have HO_7 := n0_; have HB := n1_; clear n0_ n1_; (try clear hb); (try clear hb2); (try clear hk); (try clear hi)))
          go_ret
          exact ⟨by first | rfl | (simp [errW_none, errW_some] <;> rfl) | (simp [*, errW_none, errW_some] <;> rfl), by repeat (first | (with_reducible first | exact HB.out | apply below_alloc | apply pw_below_drewN | apply below_drew1) | exact HB.out)⟩
         ·replace c66 := Bool.eq_false_iff.mpr c66
          subst c66
          have H1 : (some false) = some true := by rw [if_neg (show ¬ (false = true) by decide)] at H; exact H
          clear H
          have H := H1
          clear H1
          exact absurd (Option.some.inj H) (by decide)

/-- THE ONE PURE STATEMENT of rafterlaw11_IdentRows. -/
def rafterlaw11_IdentRows.Pure : Prop := ∀ (x0 : ByteArray) (x1 : Int) (x2 : Int), x0.size ≤ 140737488351232 → (Lit.int .i64 x1).wf = true → (Lit.int .i64 x2).wf = true → ∃ k, rafterlaw11_IdentRows.f k x0 x1 x2 = some true

end Go.Proofs.Ytgbdohidlndhjaa.XId
