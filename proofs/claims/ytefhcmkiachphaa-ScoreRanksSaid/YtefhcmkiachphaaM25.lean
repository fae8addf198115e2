/- Printed by px.py, a program of this session over the print of the kit: functions that the law reaches, as Lean functions, each with a proof that its Go code answers so. No condition. Steps of a region that draws its order, each in one short row: an operation that yields in every world, one that is left out, one that reads. No condition. Printed by px.py, a program of this session over the print of the kit: functions that the law reaches, as Lean functions, each with a proof that its Go code answers so. No condition. Printed by px.py, a program of this session over the print of the kit: functio -/
import Derived.Test.YtefhcmkiachphaaM4
import Derived.Test.YtefhcmkiachphaaM5
import Derived.Test.YtefhcmkiachphaaM6
import Derived.Test.YtefhcmkiachphaaM7
import Derived.Test.YtefhcmkiachphaaM8
import Derived.Test.YtefhcmkiachphaaM9
import Derived.Test.YtefhcmkiachphaaM10
import Derived.Test.YtefhcmkiachphaaM11
import Derived.Test.YtefhcmkiachphaaM12
import Derived.Test.YtefhcmkiachphaaM13
import Derived.Test.YtefhcmkiachphaaM14
import Derived.Test.YtefhcmkiachphaaM15
import Derived.Test.YtefhcmkiachphaaM16
import Derived.Test.YtefhcmkiachphaaM17
import Derived.Test.YtefhcmkiachphaaM18
import Derived.Test.YtefhcmkiachphaaM19
import Derived.Test.YtefhcmkiachphaaM20
import Derived.Test.YtefhcmkiachphaaM21
import Derived.Test.YtefhcmkiachphaaM22
import Derived.Test.YtefhcmkiachphaaM23
import Derived.Test.YtefhcmkiachphaaM24
import Derived.Test.YtefhcmkiachphaaM2
import Derived.Test.YtefhcmkiachphaaM3
import Derived.Test.YtefhcmkiachphaaM1
import Derived.Test.YtefhcmkiachphaaProg
import Derived.Below
import Derived.Deep.Draws
import Derived.Deep.AppendLies
import Derived.Maps.AppendAt
import Derived.OwnWalk
import Derived.Laws.BytesArg
import Derived.Laws.MakeOwn
import Derived.Laws.OwnMore
import Derived.Deep.OwnRows
import Derived.Tactics
import Derived.Lib.ConvBytes
import Derived.Laws.Slices
import Derived.WalkKit
import Derived.KernelRfl
import Derived.RowKit3
import Derived.Deep.LoopGhost
import Derived.Deep.QuietTactic
import Derived.BigQuiet
import Derived.WideLaws
import Derived.Deep.DeepCutAuto
import Derived.Deep.CutBlock
import Derived.Deep.RegionHeld3
import Derived.Laws.Rows
import Derived.Lib.AppendStr
import Derived.ArgAppend
import Derived.Laws.IdiomCopy
import Derived.OrdersHeld
import Derived.Laws.BitsLemmas
import Derived.RowKit
import Derived.Sort.Walk0
import Derived.IntWalk
import Derived.ChangeArms
import Derived.ChangeSame
import Derived.ChangeMaps5
import Derived.Deep.Strs
import Derived.Test.YtefhcmkiachphaaRows
import Derived.ProofKit
import Derived.OpenShut
section
/- Printed by px.py, a program of this session over the print of the kit: functions that the law reaches, as_ Lean functions, each with a proof that its Go code answers so. No condition. -/
namespace Go.Proofs.Ytefhcmkiachphaa.XAl
open Go.RowKit Go.Proofs.YtefhcmkiachphaaW.PrintWords Go.Proofs.YtefhcmkiachphaaW.PrintLast Go.Proofs.YtefhcmkiachphaaW.PrintMore
attribute [local go_sem] max2_int min2_int max_two min_two max_three min_three max_four min_four   -- for this text's walks alone
set_option linter.unusedVariables false
set_option linter.unusedSimpArgs false

def errW : Option Int → Value
  | none => .nilIface
  | some c => .iface 0 (.int .i64 c)
theorem errW_none : errW none = .nilIface := rfl
theorem errW_some (c : Int) : errW (some c) = .iface 0 (.int .i64 c) := rfl

theorem info3 : (Try.prog.info? 3).map (fun i => (i.zero, i.size, i.bytes)) = some (some (.int .i64 0), 1, 8) := by kernel_rfl
theorem info9 : (Try.prog.info? 9).map (fun i => (i.zero, i.size, i.bytes)) = some (some (.string ⟨#[]⟩), 1, 16) := by kernel_rfl
theorem info32 : (Try.prog.info? 32).map (fun i => (i.zero, i.size, i.bytes)) = some (some (.slice none 0 0), 1, 24) := by kernel_rfl
-- the values' own types
def rd_L1 (xs : List (List Int)) (i : Int) : (List Int) := xs.getD i.toNat ([] : List Int)
theorem at_L1 {w : World} {A : Option Addr} {n : Nat} {xs : List (List Int)} (h : Kd.C (Kd.slice 3 (Kd.int .i64)) w A n xs) (i : Int) (h0 : 0 ≤ i) (h1 : i < n) : ∃ ad A0 c0, A = some ad ∧ w.cell? (ad.add i.toNat) = some (.slice A0 (rd_L1 xs i).length c0) ∧ (rd_L1 xs i).length ≤ c0 ∧ (Kd.int .i64).C w A0 (rd_L1 xs i).length (rd_L1 xs i) := by
  obtain ⟨ad, c, e, _, hK, hc0⟩ := Kd.C_get h ([] : List Int) i h0 h1
  have hc : ∀ j u, c[j]? = some u → w.cell? (ad.add (i.toNat * 1 + j)) = some u := hc0
  obtain ⟨A0, c0, rfl, l0, g0⟩ := hK
  exact ⟨ad, A0, c0, e, by have hq := hc 0 _ rfl; rwa [Nat.mul_one, Nat.add_zero] at hq, l0, g0⟩

end Go.Proofs.Ytefhcmkiachphaa.XAl
end
section
/- Steps of a region that draws its order, each in one short row: an operation that yields in every world, one that is left out, one that reads. No condition. -/
namespace Go.Proofs.Ytefhcmkiachphaa.EStep
open Go.RowKit Go.Proofs.YtefhcmkiachphaaW.PrintWords Go.Proofs.YtefhcmkiachphaaW.PrintLast Go.Proofs.YtefhcmkiachphaaW.PrintMore
set_option linter.unusedVariables false
section
variable {P : Program} {ops : Array Oper} {Q : Exit → Act → World → Prop} {md : Region.Mode} {S : World → Prop} {ds : List Nat} {T : Bool × List (List Nat × List Nat)} {B : List Nat}
def anyQ (T : Bool × List (List Nat × List Nat)) (l : List Bool) (i : Nat) : Bool := T.1 && freeT T.2 l i && readyAt T.2 l i
def takeQ (T : Bool × List (List Nat × List Nat)) (B : List Nat) (ds : List Nat) (l : List Bool) (i : Nat) : Bool := T.1 && freeT T.2 l i && readyAt T.2 l i && closedT T.2 l && lastW T.2 B l ds i
theorem any_q {l : Array Bool} {i : Nat} (hT : rtab md ops = T) (h : anyQ T l.toList i = true) : anyB md ops l (l.setIfInBounds i true) i = true :=
  any_of hT (by unfold anyT; unfold anyQ at h; rw [h]; simp)
theorem take_q {l : Array Bool} {i : Nat} (hT : rtab md ops = T) (hB : waitsOk T.2 B = true) (h : takeQ T B ds l.toList i = true) : takeB md ops ds l (l.setIfInBounds i true) i = true :=
  take_ofW hT hB (by unfold takeW; unfold takeQ at h; rw [h]; simp)
/-- It yields in every world. -/
theorem pq_ (i : Nat) (N : Option Tmp) {oi : Oper} {v : Value} {fuel : Nat} {l : Array Bool} {a a' : Act} {w : World} (HT : Aside0 (rtab md ops = T))
    (h : wpAnyLast P md ops Q S ds fuel (l.setIfInBounds i true) a' w)
    (hi : ops[i]? = some oi := by rfl) (hN : oi.dst = N := by rfl) (hc : anyQ T l.toList i = true := by kernel_rfl)
    (hQ : ∀ c a w, Q (.panic c) (a.put oi.dst v) w → Q (.panic c) a w := by exact fun _ _ _ h => h)
    (hg : Region.wanted oi (yielded ops a.tmps) = true := by rfl)
    (hy : ∀ w', (execOp a.eval oi).run P w' = .ok (.value v) w' := by intro w'; first | (go_simp; with_reducible rfl) | (go_simp; rfl))
    (ha : a.put N v = a' := by (simp only [Act.put, List.setIfInBounds_toArray, List.set_cons_zero, List.set_cons_succ, i64_w, i32_w]; rfl)) :
    wpAnyLast P md ops Q S ds (fuel + 1) l a w :=
  pure_ _ hi hN (any_q HT.out hc) hQ (Or.inl ⟨hg, hy⟩) ha h
/-- It reads what S tells. -/
theorem tq_ (i : Nat) (N : Option Tmp) {oi : Oper} {v : Value} {fuel : Nat} {l : Array Bool} {a a' : Act} {w : World} (HT : Aside0 (rtab md ops = T)) (HB : Aside0 (waitsOk T.2 B = true)) (hS : S w)
    (h : wpAnyLast P md ops Q S ds fuel (l.setIfInBounds i true) a' w)
    (hi : ops[i]? = some oi := by rfl) (hN : oi.dst = N := by rfl) (hc : takeQ T B ds l.toList i = true := by kernel_rfl)
    (hQ : ∀ c a w, Q (.panic c) (a.put oi.dst v) w → Q (.panic c) a w := by exact fun _ _ _ h => h)
    (hg : Region.wanted oi (yielded ops a.tmps) = true := by rfl)
    (hy : ∀ w', S w' → (execOp a.eval oi).run P w' = .ok (.value v) w' := by intro w' s_; first | (go_simp; with_reducible rfl) | (go_simp; rfl))
    (ha : a.put N v = a' := by (simp only [Act.put, List.setIfInBounds_toArray, List.set_cons_zero, List.set_cons_succ, i64_w, i32_w]; rfl)) :
    wpAnyLast P md ops Q S ds (fuel + 1) l a w :=
  take_ _ hi hN (take_q HT.out HB.out hc) hQ (Or.inl ⟨hg, hy⟩) hS ha h
/- The same without a table. -/
end
end Go.Proofs.Ytefhcmkiachphaa.EStep
end
section
/- Printed by px.py, a program of this session over the print of the kit: functions that the law reaches, as_ Lean functions, each with a proof that its Go code answers so. No condition. -/
namespace Go.Proofs.Ytefhcmkiachphaa.XAl
open Go.RowKit Go.Proofs.YtefhcmkiachphaaW.PrintWords Go.Proofs.YtefhcmkiachphaaW.PrintLast Go.Proofs.YtefhcmkiachphaaW.PrintMore Go.Proofs.Ytefhcmkiachphaa.EStep
attribute [local go_sem] max2_int min2_int max_two min_two max_three min_three max_four min_four   -- for this text's walks alone
set_option linter.unusedVariables false
set_option linter.unusedSimpArgs false

/-! ### diff_table: function 25 -/
mutual
def diff_table.l0 : Nat → List ByteArray → List ByteArray → List (List Int) → Int → Int → Option ((List (List Int)))
 | 0, _, _, _, _, _ => none
 | k + 1, x0, x1, x5, x15, x16 => if x16 < x15 then (if 0 ≤ (wrap64 ((x1.length : Int) + 1)) then (if (wrap64 ((x1.length : Int) + 1) : Int).toNat ≤ 35184372088832 then (if 0 ≤ x16 then (if x16 < (x5.length : Int) then (diff_table.l0 k x0 x1 (x5.set (x16 : Int).toNat (List.replicate (wrap64 ((x1.length : Int) + 1) : Int).toNat 0)) x15 (wrap64 (x16 + 1))) else (none)) else (none)) else (none)) else (none)) else (diff_table.l1 k x0 x1 x5 (wrap64 ((x0.length : Int) - 1)))
def diff_table.l1 : Nat → List ByteArray → List ByteArray → List (List Int) → Int → Option ((List (List Int)))
 | 0, _, _, _, _ => none
 | k + 1, x0, x1, x5, x7 => if x7 ≥ 0 then (diff_table.l2 k x0 x1 x5 x7 (wrap64 ((x1.length : Int) - 1))) else (some x5)
def diff_table.l2 : Nat → List ByteArray → List ByteArray → List (List Int) → Int → Int → Option ((List (List Int)))
 | 0, _, _, _, _, _ => none
 | k + 1, x0, x1, x5, x7, x8 => if x8 ≥ 0 then (if 0 ≤ x7 then (if x7 < (x5.length : Int) then (if 0 ≤ (wrap64 (x7 + 1)) then (if (wrap64 (x7 + 1)) < (x5.length : Int) then (if 0 ≤ x8 then (if x8 < ((rd_L1 x5 (wrap64 (x7 + 1))).length : Int) then (if 0 ≤ (wrap64 (x8 + 1)) then (if (wrap64 (x8 + 1)) < ((rd_L1 x5 x7).length : Int) then (if x8 < ((rd_L1 x5 x7).length : Int) then ((some (x5.set (x7 : Int).toNat ((rd_L1 x5 x7).set (x8 : Int).toNat (mx (rd (rd_L1 x5 (wrap64 (x7 + 1))) x8) (rd (rd_L1 x5 x7) (wrap64 (x8 + 1))))) : List (List Int))).bind fun y115 => (if x7 < (x0.length : Int) then (if x8 < (x1.length : Int) then (if (rdOf ByteArray.empty x0 x7).toList = (rdOf ByteArray.empty x1 x8).toList then (if (wrap64 (x8 + 1)) < ((rd_L1 y115 (wrap64 (x7 + 1))).length : Int) then (if x8 < ((rd_L1 y115 x7).length : Int) then (diff_table.l2 k x0 x1 (y115.set (x7 : Int).toNat ((rd_L1 y115 x7).set (x8 : Int).toNat (wrap64 ((rd (rd_L1 y115 (wrap64 (x7 + 1))) (wrap64 (x8 + 1))) + 1)))) x7 (wrap64 (x8 - 1))) else (none)) else (none)) else (diff_table.l2 k x0 x1 y115 x7 (wrap64 (x8 - 1)))) else (none)) else (none))) else (none)) else (none)) else (none)) else (none)) else (none)) else (none)) else (none)) else (none)) else (none)) else (diff_table.l1 k x0 x1 x5 (wrap64 (x7 - 1)))
end
def diff_table.f (k : Nat) (l0 : List ByteArray) (l1 : List ByteArray) : Option ((List (List Int))) := if 0 ≤ (wrap64 ((l0.length : Int) + 1)) then (if (wrap64 ((l0.length : Int) + 1) : Int).toNat ≤ 11728124029610 then (diff_table.l0 k l0 l1 (List.replicate (wrap64 ((l0.length : Int) + 1) : Int).toNat []) (wrap64 ((l0.length : Int) + 1)) 0) else (none)) else (none)
theorem diff_table.mono_l : ∀ k, (∀ y0 y1 y2 y3 y4, LeO (diff_table.l0 k y0 y1 y2 y3 y4) (diff_table.l0 (k + 1) y0 y1 y2 y3 y4)) ∧ (∀ y0 y1 y2 y3, LeO (diff_table.l1 k y0 y1 y2 y3) (diff_table.l1 (k + 1) y0 y1 y2 y3)) ∧ (∀ y0 y1 y2 y3 y4, LeO (diff_table.l2 k y0 y1 y2 y3 y4) (diff_table.l2 (k + 1) y0 y1 y2 y3 y4))
 | 0 => ⟨fun _ _ _ _ _ r h => by simp [diff_table.l0] at h, fun _ _ _ _ r h => by simp [diff_table.l1] at h, fun _ _ _ _ _ r h => by simp [diff_table.l2] at h⟩
 | k + 1 => by
  obtain ⟨ih0, ih1, ih2⟩ := diff_table.mono_l k
  refine ⟨?_, ?_, ?_⟩
  ·intro y0 y1 y2 y3 y4
   unfold diff_table.l0
   repeat' first
   | (with_reducible exact ih0 _ _ _ _ _)
   | (with_reducible exact ih1 _ _ _ _)
   | (with_reducible exact ih2 _ _ _ _ _)
   | (with_reducible exact LeO.refl _)
   | (with_reducible exact LeO.none _)
   | (with_reducible refine LeO.ite ?_ ?_)
   | (with_reducible refine LeO.bind ?_ (fun _ => ?_))
   | exact ih0 _ _ _ _ _
   | exact ih1 _ _ _ _
   | exact ih2 _ _ _ _ _
   | exact LeO.none _
   | refine LeO.ite ?_ ?_
   | refine LeO.bind ?_ (fun _ => ?_)
  ·intro y0 y1 y2 y3
   unfold diff_table.l1
   repeat' first
   | (with_reducible exact ih0 _ _ _ _ _)
   | (with_reducible exact ih1 _ _ _ _)
   | (with_reducible exact ih2 _ _ _ _ _)
   | (with_reducible exact LeO.refl _)
   | (with_reducible exact LeO.none _)
   | (with_reducible refine LeO.ite ?_ ?_)
   | (with_reducible refine LeO.bind ?_ (fun _ => ?_))
   | exact ih0 _ _ _ _ _
   | exact ih1 _ _ _ _
   | exact ih2 _ _ _ _ _
   | exact LeO.none _
   | refine LeO.ite ?_ ?_
   | refine LeO.bind ?_ (fun _ => ?_)
  ·intro y0 y1 y2 y3 y4
   unfold diff_table.l2
   repeat' first
   | (with_reducible exact ih0 _ _ _ _ _)
   | (with_reducible exact ih1 _ _ _ _)
   | (with_reducible exact ih2 _ _ _ _ _)
   | (with_reducible exact LeO.refl _)
   | (with_reducible exact LeO.none _)
   | (with_reducible refine LeO.ite ?_ ?_)
   | (with_reducible refine LeO.bind ?_ (fun _ => ?_))
   | exact ih0 _ _ _ _ _
   | exact ih1 _ _ _ _
   | exact ih2 _ _ _ _ _
   | exact LeO.none _
   | refine LeO.ite ?_ ?_
   | refine LeO.bind ?_ (fun _ => ?_)
theorem diff_table.mono : ∀ a0 a1 k, LeO (diff_table.f k a0 a1) (diff_table.f (k + 1) a0 a1) := by
 intro a0 a1 k
 obtain ⟨ih0, ih1, ih2⟩ := diff_table.mono_l k
 unfold diff_table.f
 repeat' first
   | (with_reducible exact ih0 _ _ _ _ _)
   | (with_reducible exact ih1 _ _ _ _)
   | (with_reducible exact ih2 _ _ _ _ _)
   | (with_reducible exact LeO.refl _)
   | (with_reducible exact LeO.none _)
   | (with_reducible refine LeO.ite ?_ ?_)
   | (with_reducible refine LeO.bind ?_ (fun _ => ?_))
   | exact ih0 _ _ _ _ _
   | exact ih1 _ _ _ _
   | exact ih2 _ _ _ _ _
   | exact LeO.none _
   | refine LeO.ite ?_ ?_
   | refine LeO.bind ?_ (fun _ => ?_)
def diff_table.T13 : Bool × List (List Nat × List Nat) := (true, [([], []), ([], []), ([0, 1], [0, 1]), ([2], [2]), ([], []), ([], []), ([], []), ([6], [6]), ([5, 7], [5, 7]), ([8], [8]), ([], []), ([9, 10], [9, 10]), ([11], [11]), ([], []), ([], []), ([13, 14], [13, 14]), ([15], [15]), ([], []), ([17], [17]), ([16, 18], [16, 18]), ([19], [19]), ([12, 20], [12, 20]), ([3, 4, 0, 1, 2, 3, 4, 5, 6, 7, 8, 9, 10, 11, 12, 13, 14, 15, 16, 17, 18, 19, 20, 21], [3, 4]), ([22, 21, 0, 1, 2, 3, 4, 5, 6, 7, 8, 9, 10, 11, 12, 13, 14, 15, 16, 17, 18, 19, 20, 21], [21, 22])])
def diff_table.B13 : List Nat := [0, 0, 3, 7, 0, 0, 0, 64, 224, 480, 0, 2016, 4064, 0, 0, 24576, 57344, 0, 131072, 516096, 1040384, 2097120, 4194303, 8388607]
theorem diff_table.tab13 : rtab .any (opsOf Try.f25 13) = diff_table.T13 := by kernel_rfl
theorem diff_table.bits13 : waitsOk diff_table.T13.2 diff_table.B13 = true := by kernel_rfl
def diff_table.T14 : Bool × List (List Nat × List Nat) := (true, [([], []), ([], []), ([0, 1], [0, 1]), ([2], [2]), ([], []), ([], []), ([4, 5], [4, 5]), ([6], [6]), ([3, 7], [3, 7])])
def diff_table.B14 : List Nat := [0, 0, 3, 7, 0, 0, 48, 112, 255]
theorem diff_table.tab14 : rtab .any (opsOf Try.f25 14) = diff_table.T14 := by kernel_rfl
theorem diff_table.bits14 : waitsOk diff_table.T14.2 diff_table.B14 = true := by kernel_rfl
def diff_table.T15 : Bool × List (List Nat × List Nat) := (true, [([], []), ([], []), ([0, 1], [0, 1]), ([2], [2]), ([], []), ([], []), ([], []), ([6], [6]), ([5, 7], [5, 7]), ([8], [8]), ([], []), ([10], [10]), ([9, 11], [9, 11]), ([12], [12]), ([13], [13]), ([3, 4, 0, 1, 2, 3, 4, 5, 6, 7, 8, 9, 10, 11, 12, 13, 14], [3, 4]), ([15, 14, 0, 1, 2, 3, 4, 5, 6, 7, 8, 9, 10, 11, 12, 13, 14], [14, 15])])
def diff_table.B15 : List Nat := [0, 0, 3, 7, 0, 0, 0, 64, 224, 480, 0, 1024, 4064, 8160, 16352, 32767, 65535]
theorem diff_table.tab15 : rtab .any (opsOf Try.f25 15) = diff_table.T15 := by kernel_rfl
theorem diff_table.bits15 : waitsOk diff_table.T15.2 diff_table.B15 = true := by kernel_rfl
set_option maxHeartbeats 8000000 in
set_option maxRecDepth 100000 in
theorem diff_table.calls (k : Nat) (A0 : Option Addr) (c0 : Nat) (l0 : List ByteArray) (A1 : Option Addr) (c1 : Nat) (l1 : List ByteArray) (r : List (List Int)) (w : World) (hr0 : Kd.C Kd.string w A0 l0.length l0) (hc0 : l0.length ≤ c0) (hr1 : Kd.C Kd.string w A1 l1.length l1) (hc1 : l1.length ≤ c1) (h : diff_table.f k l0 l1 = some r) :
  Calls Try.prog 25 #[.slice A0 l0.length c0, .slice A1 l1.length c1] w fun e w' => ∃ v0_ : Value, e = .returned (v0_) ∧ Kd.S (Kd.slice 3 (Kd.int .i64)) 32 w' w.heap.size (fun _ => True) v0_ r ∧ Below w.heap.size w w' := by
 have HR0 := Aside0.mk hr0
 have HC0 := Aside0.mk hc0
 clear hr0 hc0
 have HR1 := Aside0.mk hr1
 have HC1 := Aside0.mk hc1
 clear hr1 hc1
 have HB := Aside0.mk (Below.refl w.heap.size w)
 have H : (if 0 ≤ (wrap64 ((l0.length : Int) + 1)) then (if (wrap64 ((l0.length : Int) + 1) : Int).toNat ≤ 11728124029610 then (diff_table.l0 k l0 l1 (List.replicate (wrap64 ((l0.length : Int) + 1) : Int).toNat []) (wrap64 ((l0.length : Int) + 1)) 0) else (none)) else (none)) = some r := h
 clear h
 obtain ⟨ji3, hji3⟩ : ∃ j_ : Int, (wrap64 ((l0.length : Int) + 1)) = j_ := ⟨_, rfl⟩
 replace H : (if 0 ≤ (ji3) then (if (ji3 : Int).toNat ≤ 11728124029610 then (diff_table.l0 k l0 l1 (List.replicate (ji3 : Int).toNat []) ji3 0) else (none)) else (none)) = some r := by first | (rw [hji3] at H; exact H) | (simp only [hji3] at H ⊢; exact H)
 have hji3w : (IntKind.i64.wrap ((l0.length : Int) + 1)) = ji3 := (i64_w _).trans hji3
 by_cases c4 : 0 ≤ (ji3)
 ·rw [if_pos c4] at H
  have c4b0 := eq_true c4
  have c4b1 : decide (0 ≤ (ji3)) = true := decide_eq_true c4
  clear c4
  by_cases c5 : (ji3 : Int).toNat ≤ 11728124029610
  ·rw [if_pos c5] at H
   have c5b0 := eq_true c5
   have c5b1 : decide ((ji3 : Int).toNat ≤ 11728124029610) = true := decide_eq_true c5
   clear c5
   obtain ⟨y101, hy101⟩ : ∃ y_ : List (List Int), y_ = (List.replicate (ji3 : Int).toNat []) := ⟨_, rfl⟩
   replace H : (diff_table.l0 k l0 l1 y101 ji3 0) = some r := by first | (rw [hy101]; with_reducible exact H) | (have H2_ := (Option.bind_some _ _).symm.trans H; rw [hy101]; with_reducible exact H2_) | (have H2_ := (Option.bind_some _ _).symm.trans H; with_reducible exact H2_) | with_reducible exact H | (rw [hy101]; exact H) | exact H
   have Ny101 := Aside0.mk hy101
   clear hy101
   have H' := Aside0.mk H
   clear H
   go_enter Try.func25, Try.ntmps25
   go_wp2_with (first | ((with_reducible refine gate_dst (N := 12) rfl ?_); refine Kd.S_make (Kd.slice 3 (Kd.int .i64)) _ 32 rfl (N := 12) rfl 55 _ _ rfl ji3 rfl rfl Try.underlying55 (.slice none 0 0) 24 info32 rfl (by decide) (by omega) [] (ok := fun _ => True) (okp := fun _ => True) ⟨_, rfl, Kd.R_nil _ _ _ _ _⟩ (fun _ hk => hk) trivial (of_decide_eq_true (by first | (with_reducible assumption) | assumption)) (Nat.le_trans (Nat.mul_le_mul_right _ (of_decide_eq_true (by first | (with_reducible assumption) | assumption) : ji3.toNat ≤ 11728124029610)) (by omega)) (Below.refl _ _) (Nat.le_refl _) ?_; intro v102 w6 ho7 hb hg_ hnew_; clear hg_ hnew_; (first | rw [← Ny101.out] at ho7 | (simp only [Int.reduceToNat] at ho7; rw [← Ny101.out] at ho7)); have n0_ := Aside0.mk (Kd.S_lower ho7 (below_size (by repeat (first | (with_reducible first | exact HB.out | apply below_alloc | apply pw_below_drewN | apply below_drew1) | exact HB.out)))); have n1_ := Aside0.mk (below_step (by repeat (first | (with_reducible first | exact HB.out | apply below_alloc | apply pw_below_drewN | apply below_drew1) | exact HB.out)) hb); clear HB; have HO103 := n0_; have HB := n1_; clear n0_ n1_; clear hb ho7))
   go_loopg [16] k (fun kq v16 w' => ∃ (x5_1 : List (List Int)) (x16_1 : Int), v16 = .int .i64 x16_1 ∧ Aside0 (diff_table.l0 kq l0 l1 x5_1 ji3 x16_1 = some r) ∧ Aside0 (kq ≤ k) ∧ Aside0 (Kd.S (Kd.slice 3 (Kd.int .i64)) 32 w' w.heap.size (fun _ => True) v102 x5_1) ∧ Aside0 (Below w.heap.size w w'))
   case atStart => exact ⟨(y101), (0), (by first | rfl | (simp; done) | (simp [*]; done)), H', ⟨Nat.le_refl _⟩, ⟨by (with_reducible repeat (first | apply Kd.S_alloc | apply Kd.S_drewN | apply Kd.S_drew)); exact HO103.out⟩, ⟨by repeat (first | (with_reducible first | exact HB.out | apply below_alloc | apply pw_below_drewN | apply below_drew1) | exact HB.out)⟩⟩
   case round =>
    clear H'
    try clear c1
    try clear c2
    try clear p2
    try clear c4
    try clear c4b0
    try clear c4b1
    try clear c5
    try clear c5b0
    try clear c5b1
    try clear p6
    obtain ⟨x5_1, x16_1, rfl, HA, HK1, HO_5, HB⟩ := hrel
    cases gk with
    | zero => exact absurd HA.out (by simp [diff_table.l0])
    | succ k1 =>
     have H := HA.out
     clear HA
     simp only [diff_table.l0] at H
     by_cases c8 : x16_1 < ji3
     ·rw [if_pos c8] at H
      have c8b0 : decide (x16_1 < ji3) = true := decide_eq_true c8
      clear c8
      obtain ⟨ji9, hji9⟩ : ∃ j_ : Int, (wrap64 ((l1.length : Int) + 1)) = j_ := ⟨_, rfl⟩
      replace H : (if 0 ≤ (ji9) then (if (ji9 : Int).toNat ≤ 35184372088832 then (if 0 ≤ x16_1 then (if x16_1 < (x5_1.length : Int) then (diff_table.l0 k1 l0 l1 (x5_1.set (x16_1 : Int).toNat (List.replicate (ji9 : Int).toNat 0)) ji3 (wrap64 (x16_1 + 1))) else (none)) else (none)) else (none)) else (none)) = some r := by first | (rw [hji9] at H; exact H) | (simp only [hji9] at H ⊢; exact H)
      have hji9w : (IntKind.i64.wrap ((l1.length : Int) + 1)) = ji9 := (i64_w _).trans hji9
      by_cases c10 : 0 ≤ (ji9)
      ·rw [if_pos c10] at H
       have c10b0 := eq_true c10
       have c10b1 : decide (0 ≤ (ji9)) = true := decide_eq_true c10
       clear c10
       by_cases c11 : (ji9 : Int).toNat ≤ 35184372088832
       ·rw [if_pos c11] at H
        have c11b0 := eq_true c11
        have c11b1 : decide ((ji9 : Int).toNat ≤ 35184372088832) = true := decide_eq_true c11
        clear c11
        obtain ⟨y104, hy104⟩ : ∃ y_ : List Int, y_ = (List.replicate (ji9 : Int).toNat 0) := ⟨_, rfl⟩
        replace H : (if 0 ≤ x16_1 then (if x16_1 < (x5_1.length : Int) then (diff_table.l0 k1 l0 l1 (x5_1.set (x16_1 : Int).toNat y104) ji3 (wrap64 (x16_1 + 1))) else (none)) else (none)) = some r := by first | (rw [hy104]; with_reducible exact H) | (have H2_ := (Option.bind_some _ _).symm.trans H; rw [hy104]; with_reducible exact H2_) | (have H2_ := (Option.bind_some _ _).symm.trans H; with_reducible exact H2_) | with_reducible exact H | (rw [hy104]; exact H) | exact H
        have Ny104 := Aside0.mk hy104
        clear hy104
        by_cases c12 : 0 ≤ x16_1
        ·rw [if_pos c12] at H
         have c12b0 : decide (0 ≤ x16_1) = true := decide_eq_true c12
         clear c12
         by_cases c13 : x16_1 < (x5_1.length : Int)
         ·rw [if_pos c13] at H
          have c13b0 : decide (x16_1 < (x5_1.length : Int)) = true := decide_eq_true c13
          clear c13
          obtain ⟨y107, hy107⟩ : ∃ y_ : List (List Int), y_ = (x5_1.set (x16_1 : Int).toNat y104) := ⟨_, rfl⟩
          replace H : (diff_table.l0 k1 l0 l1 y107 ji3 (wrap64 (x16_1 + 1))) = some r := by first | (rw [hy107]; with_reducible exact H) | (have H2_ := (Option.bind_some _ _).symm.trans H; rw [hy107]; with_reducible exact H2_) | (have H2_ := (Option.bind_some _ _).symm.trans H; with_reducible exact H2_) | with_reducible exact H | (rw [hy107]; exact H) | exact H
          have Ny107 := Aside0.mk hy107
          clear hy107
          have H' := Aside0.mk H
          clear H
          go_wp2_with (first | ((with_reducible refine gate_dst (N := 24) rfl ?_); refine Kd.R_make (Kd.int .i64) _ 3 rfl (N := 24) rfl 32 _ _ rfl ji9 rfl rfl Try.underlying32 (.int .i64 0) 8 info3 rfl (by decide) (by omega) 0 (ok := fun _ => True) (okp := fun _ => True) rfl (fun _ hk => hk) trivial (of_decide_eq_true (by first | (with_reducible assumption) | assumption)) (Nat.le_trans (Nat.mul_le_mul_right _ (of_decide_eq_true (by first | (with_reducible assumption) | assumption) : ji9.toNat ≤ 35184372088832)) (by omega)) (Below.refl _ _) (Nat.le_refl _) ?_; intro v105 w15 ho16 hb hg_ hnew_; clear hg_ hnew_; (first | rw [← Ny104.out] at ho16 | (simp only [Int.reduceToNat] at ho16; rw [← Ny104.out] at ho16)); have n0_ := Aside0.mk (Kd.S_elder' (by (with_reducible repeat (first | apply Kd.S_alloc | apply Kd.S_drewN | apply Kd.S_drew)); exact HO_5.out) (Kd.R_base ho16) hb); have n1_ := Aside0.mk (Kd.R_lower ho16 (below_size (by repeat (first | (with_reducible first | exact HB.out | apply below_alloc | apply pw_below_drewN | apply below_drew1) | exact HB.out)))); have n2_ := Aside0.mk (below_step (by repeat (first | (with_reducible first | exact HB.out | apply below_alloc | apply pw_below_drewN | apply below_drew1) | exact HB.out)) hb); clear HO_5; clear HB; have HO_5 := n0_; have HO106 := n1_; have HB := n2_; clear n0_ n1_ n2_; clear hb ho16; have p14 : 0 ≤ (x16_1 : Int) := of_decide_eq_true (by first | (with_reducible assumption) | assumption); have q14 : (x16_1 : Int) < ((x5_1.length : Int) : Int) := of_decide_eq_true (by first | (with_reducible assumption) | assumption); obtain ⟨go14, co14, eo14, gb14, gl14, cl14, HG14⟩ := Kd.S_form HO_5.out (by omega); (first | cases eo14 | (injection eo14 with ea_ en_ ec_; (first | subst ea_ | (injection ea_ with ea_; subst ea_)); subst ec_; clear en_)); have GB14 := Aside0.mk gb14; have GG14 := Aside0.mk HG14; clear gb14 gl14 HG14; obtain ⟨_, ce14, hcl14, hM14, hcc14, hfr14, _, _⟩ := Kd.S_elem HO_5.out [] (x16_1 : Int) p14 q14; obtain ⟨ve14_0, rfl, ge14_0⟩ := id hM14; have hx14_0 := hcc14 0 _ rfl; have hf14_0 := hfr14 0; (try simp only [show ((Kd.slice 3 (Kd.int .i64))).sz = 1 from rfl, Nat.mul_one, Nat.add_zero] at hx14_0); (try simp only [show ((Kd.slice 3 (Kd.int .i64))).sz = 1 from rfl, Nat.mul_one, Nat.add_zero] at hf14_0); clear hcl14 hcc14 hfr14 hM14; replace p14 := eq_true p14; replace q14 := eq_true q14; have n_ := Aside0.mk (Kd.S_mono (ok' := (fun k_ => some k_ ≠ (v105 : Value).ownBlock)) HO_5.out (fun k_ hk => hk.2)); clear HO_5; have HO_5 := n_; clear n_; have HX17 := Aside0.mk (show Kd.S (Kd.slice 3 (Kd.int .i64)) 32 w15 w.heap.size (fun k_ => ((fun _ => True)) k_ ∧ ¬ ((fun k_ => some k_ = (v105 : Value).ownBlock)) k_) (.slice (some ⟨go14, 0, none⟩) x5_1.length co14) x5_1 from (by (with_reducible repeat (first | apply Kd.S_alloc | apply Kd.S_drewN | apply Kd.S_drew)); exact Kd.S_mono HO_5.out (fun k_ hk => ⟨trivial, fun e_ => hk e_⟩))); obtain ⟨oki17, ce17, hcl17, hM17, hcc17, hfr17, hoki17, hH17⟩ := Kd.S_elem HX17.out [] (x16_1 : Int) (of_decide_eq_true (by first | (with_reducible assumption) | assumption)) (by have h_ : (x16_1 : Int) < ((x5_1.length : Int) : Int) := of_decide_eq_true (by first | (with_reducible assumption) | assumption); first | exact h_ | (have e_ := (Kd.S_reads' HO_5.out).1; omega) | simpa using h_); obtain ⟨ve17_0, rfl, ge17_0⟩ := id hM17; have HP17 := Kd.S_seg hH17 (of_decide_eq_true (by first | (with_reducible assumption) | assumption)) (by have h_ : (x16_1 : Int) < ((x5_1.length : Int) : Int) := of_decide_eq_true (by first | (with_reducible assumption) | assumption); first | exact h_ | (have e_ := (Kd.S_reads' HO_5.out).1; omega) | simpa using h_) (seg := [v105]) (j := 0) (show 1 ≤ 1 from by decide) (x' := y104) (Kd.M_row (Kd.R_mono (Kd.R_tight rfl (Kd.R_mono (ok' := fun k_ => ((fun _ => True)) k_ ∧ k_ ≠ go14) (Kd.R_apart' (HO106.out) (Kd.S_typed HO_5.out) (by decide)) (fun k_ hk => ⟨trivial, fun e_ => (hk.2) (by rw [e_]; rfl)⟩))) (fun _ h_ => Or.inr (h_)))) (fun _ hk => hk) (fun k_ hk_ => ((Kd.R_mono (ok' := fun k_ => ((fun _ => True)) k_ ∧ k_ ≠ go14) (Kd.R_apart' (HO106.out) (Kd.S_typed HO_5.out) (by decide)) (fun k_ hk => ⟨trivial, fun e_ => (hk.2) (by rw [e_]; rfl)⟩))).1 k_ hk_.symm); have hx17_0 := hcc17 0 _ rfl; (try simp only [show ((Kd.slice 3 (Kd.int .i64))).sz = 1 from rfl, Nat.mul_one, Nat.add_zero] at hx17_0); have hf17_0 := hfr17 0; (try simp only [show ((Kd.slice 3 (Kd.int .i64))).sz = 1 from rfl, Nat.mul_one, Nat.add_zero] at hf17_0); clear hcl17 hcc17 hfr17 hM17 hoki17 hH17; (try simp only [show ((Kd.slice 3 (Kd.int .i64))).sz = 1 from rfl, Nat.mul_one, Nat.add_zero] at HP17); obtain ⟨Ae17_v105, ce17_v105, ev17_v105⟩ := Kd.R_slice HO106.out) | ((with_reducible refine gate_store (t := 32) (p := 25) rfl ?_); refine store_event (t := 32) (p := 25) (v := ?vo_w18) (w1 := (w15.setCell ⟨go14, (x16_1 : Int).toNat, none⟩ (v105))) ?hg ?ho ?hn ?hr ?_; (case ho => rfl); (case hg => rfl); (case hn => rfl); (case hr => first | (go_simp; done) | (go_simp; rfl) | (rw [ev17_v105]; go_simp; done) | (rw [ev17_v105]; go_simp; rfl)); intro w18 hw; have hg : w15.grownBy w18 (some go14) := (by rw [hw]; exact HP17.2); have hp_ : Kd.S (Kd.slice 3 (Kd.int .i64)) 32 w18 w.heap.size (fun _ => True) (.slice (some ⟨go14, 0, none⟩) x5_1.length co14) y107 := (by rw [hw, Ny107.out]; exact HP17.1); clear HP17; have n0_ := Aside0.mk (hp_); have n1_ := Aside0.mk ((by rw [hw]; exact below_set (HB.out) GB14.out : Below w.heap.size w w18)); clear HO_5; clear HB; clear HO106; have HO_5 := n0_; have HB := n1_; clear n0_ n1_; clear hg hw hp_))
          go_roundg k1
          case measure => have := HK1.out; omega
          case rel => exact ⟨(y107), (wrap64 (x16_1 + 1)), (by first | rfl | (simp; done) | (simp [*]; done)), H', ⟨by have := HK1.out; omega⟩, ⟨by (with_reducible repeat (first | apply Kd.S_alloc | apply Kd.S_drewN | apply Kd.S_drew)); exact HO_5.out⟩, ⟨by repeat (first | (with_reducible first | exact HB.out | apply below_alloc | apply pw_below_drewN | apply below_drew1) | exact HB.out)⟩⟩
         ·rw [if_neg c13] at H
          exact absurd H (by simp)
        ·rw [if_neg c12] at H
         exact absurd H (by simp)
       ·rw [if_neg c11] at H
        exact absurd H (by simp)
      ·rw [if_neg c10] at H
       exact absurd H (by simp)
     ·rw [if_neg c8] at H
      have c8b0 : decide (x16_1 < ji3) = false := decide_eq_false c8
      clear c8
      have H' := Aside0.mk H
      clear H
      go_wp2
      go_loopg [7] k1 (fun kq v7 w' => ∃ (x5_2 : List (List Int)) (x7_2 : Int), v7 = .int .i64 x7_2 ∧ Aside0 (diff_table.l1 kq l0 l1 x5_2 x7_2 = some r) ∧ Aside0 (kq ≤ k1) ∧ Aside0 (Kd.S (Kd.slice 3 (Kd.int .i64)) 32 w' w.heap.size (fun _ => True) v102 x5_2) ∧ Aside0 (Below w.heap.size w w'))
      case atStart => exact ⟨(x5_1), (wrap64 ((l0.length : Int) - 1)), (by first | rfl | (simp; done) | (simp [*]; done)), H', ⟨Nat.le_refl _⟩, ⟨by (with_reducible repeat (first | apply Kd.S_alloc | apply Kd.S_drewN | apply Kd.S_drew)); exact HO_5.out⟩, ⟨by repeat (first | (with_reducible first | exact HB.out | apply below_alloc | apply pw_below_drewN | apply below_drew1) | exact HB.out)⟩⟩
      case round =>
       clear H'
       try clear c1
       try clear p1
       try clear q1
       try clear hx1
       try clear c2
       try clear p2
       try clear c4
       try clear c4b0
       try clear c4b1
       try clear c5
       try clear c5b0
       try clear c5b1
       try clear p6
       try clear c8
       try clear c8b0
       try clear c10
       try clear c10b0
       try clear c10b1
       try clear c11
       try clear c11b0
       try clear c11b1
       try clear c12
       try clear c12b0
       try clear c13
       try clear c13b0
       try clear c14
       try clear p14
       try clear q14
       try clear hx14
       try clear hf14
       try clear c17
       try clear hx17
       try clear hf17
       try clear hx14_0
       try clear hx17_0
       try clear p14
       try clear p2
       try clear p6
       try clear q14
       obtain ⟨x5_2, x7_2, rfl, HA, HK2, HO_5, HB⟩ := hrel
       cases gk with
       | zero => exact absurd HA.out (by simp [diff_table.l1])
       | succ k2 =>
        have H := HA.out
        clear HA
        simp only [diff_table.l1] at H
        by_cases c19 : x7_2 ≥ 0
        ·rw [if_pos c19] at H
         have c19b0 : decide (0 ≤ x7_2) = true := decide_eq_true c19
         clear c19
         have H' := Aside0.mk H
         clear H
         go_wp2
         go_loopg [8] k2 (fun kq v8 w' => ∃ (x5_3 : List (List Int)) (x8_3 : Int), v8 = .int .i64 x8_3 ∧ Aside0 (diff_table.l2 kq l0 l1 x5_3 x7_2 x8_3 = some r) ∧ Aside0 (kq ≤ k2) ∧ Aside0 (Kd.S (Kd.slice 3 (Kd.int .i64)) 32 w' w.heap.size (fun _ => True) v102 x5_3) ∧ Aside0 (Below w.heap.size w w'))
         case atStart => exact ⟨(x5_2), (wrap64 ((l1.length : Int) - 1)), (by first | rfl | (simp; done) | (simp [*]; done)), H', ⟨Nat.le_refl _⟩, ⟨by (with_reducible repeat (first | apply Kd.S_alloc | apply Kd.S_drewN | apply Kd.S_drew)); exact HO_5.out⟩, ⟨by repeat (first | (with_reducible first | exact HB.out | apply below_alloc | apply pw_below_drewN | apply below_drew1) | exact HB.out)⟩⟩
         case round =>
          clear H'
          try clear c1
          try clear p1
          try clear q1
          try clear hx1
          try clear c2
          try clear p2
          try clear c4
          try clear c4b0
          try clear c4b1
          try clear c5
          try clear c5b0
          try clear c5b1
          try clear p6
          try clear c8
          try clear c8b0
          try clear c10
          try clear c10b0
          try clear c10b1
          try clear c11
          try clear c11b0
          try clear c11b1
          try clear c12
          try clear c12b0
          try clear c13
          try clear c13b0
          try clear c14
          try clear p14
          try clear q14
          try clear hx14
          try clear hf14
          try clear c17
          try clear hx17
          try clear hf17
          try clear c19
          try clear c19b0
          try clear hx14_0
          try clear hx17_0
          try clear p1
          try clear p14
          try clear p2
          try clear p6
          try clear q1
          try clear q14
          obtain ⟨x5_3, x8_3, rfl, HA, HK3, HO_5, HB⟩ := hrel
          cases gk with
          | zero => exact absurd HA.out (by simp [diff_table.l2])
          | succ k3 =>
           have H := HA.out
           clear HA
           simp only [diff_table.l2] at H
           by_cases c20 : x8_3 ≥ 0
           ·rw [if_pos c20] at H
            have c20b0 : decide (0 ≤ x8_3) = true := decide_eq_true c20
            clear c20
            by_cases c21 : 0 ≤ x7_2
            ·rw [if_pos c21] at H
             have c21b0 : decide (0 ≤ x7_2) = true := decide_eq_true c21
             clear c21
             by_cases c22 : x7_2 < (x5_3.length : Int)
             ·rw [if_pos c22] at H
              have c22b0 : decide (x7_2 < (x5_3.length : Int)) = true := decide_eq_true c22
              clear c22
              obtain ⟨ji23, hji23⟩ : ∃ j_ : Int, (wrap64 (x7_2 + 1)) = j_ := ⟨_, rfl⟩
              replace H : (if 0 ≤ (ji23) then (if (ji23) < (x5_3.length : Int) then (if 0 ≤ x8_3 then (if x8_3 < ((rd_L1 x5_3 (ji23)).length : Int) then (if 0 ≤ (wrap64 (x8_3 + 1)) then (if (wrap64 (x8_3 + 1)) < ((rd_L1 x5_3 x7_2).length : Int) then (if x8_3 < ((rd_L1 x5_3 x7_2).length : Int) then ((some (x5_3.set (x7_2 : Int).toNat ((rd_L1 x5_3 x7_2).set (x8_3 : Int).toNat (mx (rd (rd_L1 x5_3 (ji23)) x8_3) (rd (rd_L1 x5_3 x7_2) (wrap64 (x8_3 + 1))))) : List (List Int))).bind fun y115 => (if x7_2 < (l0.length : Int) then (if x8_3 < (l1.length : Int) then (if (rdOf ByteArray.empty l0 x7_2).toList = (rdOf ByteArray.empty l1 x8_3).toList then (if (wrap64 (x8_3 + 1)) < ((rd_L1 y115 (ji23)).length : Int) then (if x8_3 < ((rd_L1 y115 x7_2).length : Int) then (diff_table.l2 k3 l0 l1 (y115.set (x7_2 : Int).toNat ((rd_L1 y115 x7_2).set (x8_3 : Int).toNat (wrap64 ((rd (rd_L1 y115 (ji23)) (wrap64 (x8_3 + 1))) + 1)))) x7_2 (wrap64 (x8_3 - 1))) else (none)) else (none)) else (diff_table.l2 k3 l0 l1 y115 x7_2 (wrap64 (x8_3 - 1)))) else (none)) else (none))) else (none)) else (none)) else (none)) else (none)) else (none)) else (none)) else (none)) = some r := by first | (rw [hji23] at H; exact H) | (simp only [hji23] at H ⊢; exact H)
              have hji23w : (IntKind.i64.wrap (x7_2 + 1)) = ji23 := (i64_w _).trans hji23
              by_cases c24 : 0 ≤ (ji23)
              ·rw [if_pos c24] at H
               have c24b0 : decide (0 ≤ (ji23)) = true := decide_eq_true c24
               clear c24
               by_cases c25 : (ji23) < (x5_3.length : Int)
               ·rw [if_pos c25] at H
                have c25b0 : decide ((ji23) < (x5_3.length : Int)) = true := decide_eq_true c25
                clear c25
                by_cases c26 : 0 ≤ x8_3
                ·rw [if_pos c26] at H
                 have c26b0 : decide (0 ≤ x8_3) = true := decide_eq_true c26
                 clear c26
                 by_cases c27 : x8_3 < ((rd_L1 x5_3 (ji23)).length : Int)
                 ·rw [if_pos c27] at H
                  have c27b0 : decide (x8_3 < ((rd_L1 x5_3 (ji23)).length : Int)) = true := decide_eq_true c27
                  clear c27
                  obtain ⟨ji28, hji28⟩ : ∃ j_ : Int, (wrap64 (x8_3 + 1)) = j_ := ⟨_, rfl⟩
                  replace H : (if 0 ≤ (ji28) then (if (ji28) < ((rd_L1 x5_3 x7_2).length : Int) then (if x8_3 < ((rd_L1 x5_3 x7_2).length : Int) then ((some (x5_3.set (x7_2 : Int).toNat ((rd_L1 x5_3 x7_2).set (x8_3 : Int).toNat (mx (rd (rd_L1 x5_3 (ji23)) x8_3) (rd (rd_L1 x5_3 x7_2) (ji28)))) : List (List Int))).bind fun y115 => (if x7_2 < (l0.length : Int) then (if x8_3 < (l1.length : Int) then (if (rdOf ByteArray.empty l0 x7_2).toList = (rdOf ByteArray.empty l1 x8_3).toList then (if (ji28) < ((rd_L1 y115 (ji23)).length : Int) then (if x8_3 < ((rd_L1 y115 x7_2).length : Int) then (diff_table.l2 k3 l0 l1 (y115.set (x7_2 : Int).toNat ((rd_L1 y115 x7_2).set (x8_3 : Int).toNat (wrap64 ((rd (rd_L1 y115 (ji23)) (ji28)) + 1)))) x7_2 (wrap64 (x8_3 - 1))) else (none)) else (none)) else (diff_table.l2 k3 l0 l1 y115 x7_2 (wrap64 (x8_3 - 1)))) else (none)) else (none))) else (none)) else (none)) else (none)) = some r := by first | (rw [hji28] at H; exact H) | (simp only [hji28] at H ⊢; exact H)
                  have hji28w : (IntKind.i64.wrap (x8_3 + 1)) = ji28 := (i64_w _).trans hji28
                  by_cases c29 : 0 ≤ (ji28)
                  ·rw [if_pos c29] at H
                   have c29b0 : decide (0 ≤ (ji28)) = true := decide_eq_true c29
                   clear c29
                   by_cases c30 : (ji28) < ((rd_L1 x5_3 x7_2).length : Int)
                   ·rw [if_pos c30] at H
                    have c30b0 : decide ((ji28) < ((rd_L1 x5_3 x7_2).length : Int)) = true := decide_eq_true c30
                    clear c30
                    obtain ⟨ji31, hji31⟩ : ∃ j_ : Int, (mx (rd (rd_L1 x5_3 (ji23)) x8_3) (rd (rd_L1 x5_3 x7_2) (ji28))) = j_ := ⟨_, rfl⟩
                    replace H : (if x8_3 < ((rd_L1 x5_3 x7_2).length : Int) then ((some (x5_3.set (x7_2 : Int).toNat ((rd_L1 x5_3 x7_2).set (x8_3 : Int).toNat (ji31)) : List (List Int))).bind fun y115 => (if x7_2 < (l0.length : Int) then (if x8_3 < (l1.length : Int) then (if (rdOf ByteArray.empty l0 x7_2).toList = (rdOf ByteArray.empty l1 x8_3).toList then (if (ji28) < ((rd_L1 y115 (ji23)).length : Int) then (if x8_3 < ((rd_L1 y115 x7_2).length : Int) then (diff_table.l2 k3 l0 l1 (y115.set (x7_2 : Int).toNat ((rd_L1 y115 x7_2).set (x8_3 : Int).toNat (wrap64 ((rd (rd_L1 y115 (ji23)) (ji28)) + 1)))) x7_2 (wrap64 (x8_3 - 1))) else (none)) else (none)) else (diff_table.l2 k3 l0 l1 y115 x7_2 (wrap64 (x8_3 - 1)))) else (none)) else (none))) else (none)) = some r := by first | (rw [hji31] at H; exact H) | (simp only [hji31] at H ⊢; exact H)
                    have hji31_ : (if (rd (rd_L1 x5_3 (ji23)) x8_3) < (rd (rd_L1 x5_3 x7_2) (ji28)) then (rd (rd_L1 x5_3 x7_2) (ji28)) else (rd (rd_L1 x5_3 (ji23)) x8_3)) = ji31 := hji31
                    have hji31n_ := hji31_
                    (try simp only [Int.ofNat_lt] at hji31n_)
                    by_cases c32 : x8_3 < ((rd_L1 x5_3 x7_2).length : Int)
                    ·rw [if_pos c32] at H
                     have c32b0 : decide (x8_3 < ((rd_L1 x5_3 x7_2).length : Int)) = true := decide_eq_true c32
                     clear c32
                     obtain ⟨y113, hy113⟩ : ∃ y_ : List Int, y_ = ((rd_L1 x5_3 x7_2).set (x8_3 : Int).toNat (ji31)) := ⟨_, rfl⟩
                     replace H : ((some (x5_3.set (x7_2 : Int).toNat y113 : List (List Int))).bind fun y115 => (if x7_2 < (l0.length : Int) then (if x8_3 < (l1.length : Int) then (if (rdOf ByteArray.empty l0 x7_2).toList = (rdOf ByteArray.empty l1 x8_3).toList then (if (ji28) < ((rd_L1 y115 (ji23)).length : Int) then (if x8_3 < ((rd_L1 y115 x7_2).length : Int) then (diff_table.l2 k3 l0 l1 (y115.set (x7_2 : Int).toNat ((rd_L1 y115 x7_2).set (x8_3 : Int).toNat (wrap64 ((rd (rd_L1 y115 (ji23)) (ji28)) + 1)))) x7_2 (wrap64 (x8_3 - 1))) else (none)) else (none)) else (diff_table.l2 k3 l0 l1 y115 x7_2 (wrap64 (x8_3 - 1)))) else (none)) else (none))) = some r := by first | (rw [hy113]; with_reducible exact H) | (have H2_ := (Option.bind_some _ _).symm.trans H; rw [hy113]; with_reducible exact H2_) | (have H2_ := (Option.bind_some _ _).symm.trans H; with_reducible exact H2_) | with_reducible exact H | (rw [hy113]; exact H) | exact H
                     have Ny113 := Aside0.mk hy113
                     clear hy113
                     obtain ⟨y115, hy115⟩ : ∃ y_ : List (List Int), y_ = (x5_3.set (x7_2 : Int).toNat y113) := ⟨_, rfl⟩
                     replace H : (if x7_2 < (l0.length : Int) then (if x8_3 < (l1.length : Int) then (if (rdOf ByteArray.empty l0 x7_2).toList = (rdOf ByteArray.empty l1 x8_3).toList then (if (ji28) < ((rd_L1 y115 (ji23)).length : Int) then (if x8_3 < ((rd_L1 y115 x7_2).length : Int) then (diff_table.l2 k3 l0 l1 (y115.set (x7_2 : Int).toNat ((rd_L1 y115 x7_2).set (x8_3 : Int).toNat (wrap64 ((rd (rd_L1 y115 (ji23)) (ji28)) + 1)))) x7_2 (wrap64 (x8_3 - 1))) else (none)) else (none)) else (diff_table.l2 k3 l0 l1 y115 x7_2 (wrap64 (x8_3 - 1)))) else (none)) else (none)) = some r := by first | (rw [hy115]; with_reducible exact H) | (have H2_ := (Option.bind_some _ _).symm.trans H; rw [hy115]; with_reducible exact H2_) | (have H2_ := (Option.bind_some _ _).symm.trans H; with_reducible exact H2_) | with_reducible exact H | (rw [hy115]; exact H) | exact H
                     have Ny115 := Aside0.mk hy115
                     clear hy115
                     by_cases c34 : x7_2 < (l0.length : Int)
                     ·rw [if_pos c34] at H
                      have c34b0 : decide (x7_2 < (l0.length : Int)) = true := decide_eq_true c34
                      clear c34
                      by_cases c35 : x8_3 < (l1.length : Int)
                      ·rw [if_pos c35] at H
                       have c35b0 : decide (x8_3 < (l1.length : Int)) = true := decide_eq_true c35
                       clear c35
                       by_cases c36 : (rdOf ByteArray.empty l0 x7_2).toList = (rdOf ByteArray.empty l1 x8_3).toList
                       ·rw [if_pos c36] at H
                        have c36b0 : ((rdOf ByteArray.empty l0 x7_2).toList == (rdOf ByteArray.empty l1 x8_3).toList) = true := beq_iff_eq.mpr c36
                        have c36b1 : ((rdOf ByteArray.empty l0 x7_2).toList != (rdOf ByteArray.empty l1 x8_3).toList) = false := bne_eq_false_iff_eq.mpr c36
                        clear c36
                        by_cases c37 : (ji28) < ((rd_L1 y115 (ji23)).length : Int)
                        ·rw [if_pos c37] at H
                         have c37b0 : decide ((ji28) < ((rd_L1 y115 (ji23)).length : Int)) = true := decide_eq_true c37
                         clear c37
                         by_cases c38 : x8_3 < ((rd_L1 y115 x7_2).length : Int)
                         ·rw [if_pos c38] at H
                          have c38b0 : decide (x8_3 < ((rd_L1 y115 x7_2).length : Int)) = true := decide_eq_true c38
                          clear c38
                          obtain ⟨y121, hy121⟩ : ∃ y_ : List Int, y_ = ((rd_L1 y115 x7_2).set (x8_3 : Int).toNat (wrap64 ((rd (rd_L1 y115 (ji23)) (ji28)) + 1))) := ⟨_, rfl⟩
                          replace H : (diff_table.l2 k3 l0 l1 (y115.set (x7_2 : Int).toNat y121) x7_2 (wrap64 (x8_3 - 1))) = some r := by first | (rw [hy121]; with_reducible exact H) | (have H2_ := (Option.bind_some _ _).symm.trans H; rw [hy121]; with_reducible exact H2_) | (have H2_ := (Option.bind_some _ _).symm.trans H; with_reducible exact H2_) | with_reducible exact H | (rw [hy121]; exact H) | exact H
                          have Ny121 := Aside0.mk hy121
                          clear hy121
                          obtain ⟨y123, hy123⟩ : ∃ y_ : List (List Int), y_ = (y115.set (x7_2 : Int).toNat y121) := ⟨_, rfl⟩
                          replace H : (diff_table.l2 k3 l0 l1 y123 x7_2 (wrap64 (x8_3 - 1))) = some r := by first | (rw [hy123]; with_reducible exact H) | (have H2_ := (Option.bind_some _ _).symm.trans H; rw [hy123]; with_reducible exact H2_) | (have H2_ := (Option.bind_some _ _).symm.trans H; with_reducible exact H2_) | with_reducible exact H | (rw [hy123]; exact H) | exact H
                          have Ny123 := Aside0.mk hy123
                          clear hy123
                          have H' := Aside0.mk H
                          clear H
                          try go_wp2
                          have n0_ := Aside0.mk (Kd.S_drew HO_5.out)
                          have n1_ := Aside0.mk (below_drew1 HB.out)
                          clear HO_5
                          clear HB
                          have HO_5 := n0_
                          have HB := n1_
                          clear n0_ n1_
                          obtain ⟨Ao41, co41, eo41⟩ := Kd.S_slice HO_5.out
                          (first | subst eo41 | (injection eo41 with f1_ f2_ f3_; have f4_ := f1_.symm; have f5_ := f3_.symm; clear f1_ f2_ f3_; subst f4_; subst f5_))
                          have p108 : 0 ≤ (x7_2 : Int) := of_decide_eq_true (by first | (with_reducible assumption) | assumption)
                          have q108 : x7_2 < (x5_3.length : Int) := of_decide_eq_true (by first | (with_reducible assumption) | assumption)
                          obtain ⟨ad108, A108_0, c108_0, e108, hx108_0, hl108_0, hi108_0⟩ := at_L1 (Kd.S_reads' HO_5.out).2.2 x7_2 p108 q108
                          cases e108
                          obtain ⟨ce108, hce108, hMe108, hcc108⟩ := Kd.S_get HO_5.out [] x7_2 p108 (by first | exact q108 | exact of_decide_eq_true (by first | (with_reducible assumption) | assumption) | (have e_ := (Kd.S_reads' HO_5.out).1; omega))
                          obtain ⟨ve108_0, rfl, ge108_0⟩ := hMe108
                          have hv108_0 := hcc108 0 _ rfl
                          rw [Nat.add_zero, show ((Kd.slice 3 (Kd.int .i64))).sz = 1 from rfl, Nat.mul_one] at hv108_0
                          replace hv108_0 := Option.some.inj (hv108_0.symm.trans hx108_0)
                          rw [hv108_0] at ge108_0
                          have HL108_0 := Aside0.mk (show Kd.R (Kd.int .i64) 3 _ _ _ _ (rd_L1 x5_3 x7_2) from ge108_0)
                          clear hv108_0 ge108_0
                          have HX108_0 := Aside0.mk hx108_0
                          clear hcc108 hce108
                          have HR108_0 := Aside0.mk hi108_0
                          have HC108_0 := Aside0.mk hl108_0
                          clear hi108_0 hl108_0
                          replace p108 := eq_true p108
                          replace q108 := eq_true q108
                          have p109 : 0 ≤ ((ji23) : Int) := of_decide_eq_true (by first | (with_reducible assumption) | assumption)
                          have q109 : (ji23) < (x5_3.length : Int) := of_decide_eq_true (by first | (with_reducible assumption) | assumption)
                          obtain ⟨ad109, A109_0, c109_0, e109, hx109_0, hl109_0, hi109_0⟩ := at_L1 (Kd.S_reads' HO_5.out).2.2 (ji23) p109 q109
                          obtain rfl : ad108 = ad109 := (by injection e109)
                          obtain ⟨ce109, hce109, hMe109, hcc109⟩ := Kd.S_get HO_5.out [] (ji23) p109 (by first | exact q109 | exact of_decide_eq_true (by first | (with_reducible assumption) | assumption) | (have e_ := (Kd.S_reads' HO_5.out).1; omega))
                          obtain ⟨ve109_0, rfl, ge109_0⟩ := hMe109
                          have hv109_0 := hcc109 0 _ rfl
                          rw [Nat.add_zero, show ((Kd.slice 3 (Kd.int .i64))).sz = 1 from rfl, Nat.mul_one] at hv109_0
                          replace hv109_0 := Option.some.inj (hv109_0.symm.trans hx109_0)
                          rw [hv109_0] at ge109_0
                          have HL109_0 := Aside0.mk (show Kd.R (Kd.int .i64) 3 _ _ _ _ (rd_L1 x5_3 (ji23)) from ge109_0)
                          clear hv109_0 ge109_0
                          have HX109_0 := Aside0.mk hx109_0
                          clear hcc109 hce109
                          have HR109_0 := Aside0.mk hi109_0
                          have HC109_0 := Aside0.mk hl109_0
                          clear hi109_0 hl109_0
                          replace p109 := eq_true p109
                          replace q109 := eq_true q109
                          have p110 : 0 ≤ (x8_3 : Int) := of_decide_eq_true (by first | (with_reducible assumption) | assumption)
                          have q110 : x8_3 < ((rd_L1 x5_3 (ji23)).length : Int) := of_decide_eq_true (by first | (with_reducible assumption) | assumption)
                          obtain ⟨ad110, e110, hx110_0⟩ := Kd.at_int (by repeat (first | (with_reducible exact HR109_0.out) | (with_reducible refine Kd.C_alloc ?_ _) | (with_reducible refine Kd.C_drewN ?_ _) | (with_reducible refine Kd.C_drew ?_) | exact HR109_0.out)) x8_3 p110 q110
                          cases e110
                          replace p110 := eq_true p110
                          replace q110 := eq_true q110
                          have p111 : 0 ≤ (x7_2 : Int) := of_decide_eq_true (by first | (with_reducible assumption) | assumption)
                          have q111 : x7_2 < (x5_3.length : Int) := of_decide_eq_true (by first | (with_reducible assumption) | assumption)
                          obtain ⟨ad111, A111_0, c111_0, e111, hx111_0, hl111_0, hi111_0⟩ := at_L1 (Kd.S_reads' HO_5.out).2.2 x7_2 p111 q111
                          obtain rfl : ad108 = ad111 := (by injection e111)
                          obtain ⟨ce111, hce111, hMe111, hcc111⟩ := Kd.S_get HO_5.out [] x7_2 p111 (by first | exact q111 | exact of_decide_eq_true (by first | (with_reducible assumption) | assumption) | (have e_ := (Kd.S_reads' HO_5.out).1; omega))
                          obtain ⟨ve111_0, rfl, ge111_0⟩ := hMe111
                          have hv111_0 := hcc111 0 _ rfl
                          rw [Nat.add_zero, show ((Kd.slice 3 (Kd.int .i64))).sz = 1 from rfl, Nat.mul_one] at hv111_0
                          replace hv111_0 := Option.some.inj (hv111_0.symm.trans hx111_0)
                          rw [hv111_0] at ge111_0
                          have HL111_0 := Aside0.mk (show Kd.R (Kd.int .i64) 3 _ _ _ _ (rd_L1 x5_3 x7_2) from ge111_0)
                          clear hv111_0 ge111_0
                          have HX111_0 := Aside0.mk hx111_0
                          clear hcc111 hce111
                          have HR111_0 := Aside0.mk hi111_0
                          have HC111_0 := Aside0.mk hl111_0
                          clear hi111_0 hl111_0
                          replace p111 := eq_true p111
                          replace q111 := eq_true q111
                          have ea_ := Option.some.inj (hx108_0.symm.trans hx111_0)
                          injection ea_ with ea_ en_ ec_
                          subst ea_
                          subst ec_
                          clear en_
                          have p112 : 0 ≤ ((ji28) : Int) := of_decide_eq_true (by first | (with_reducible assumption) | assumption)
                          have q112 : (ji28) < ((rd_L1 x5_3 x7_2).length : Int) := of_decide_eq_true (by first | (with_reducible assumption) | assumption)
                          obtain ⟨ad112, e112, hx112_0⟩ := Kd.at_int (by repeat (first | (with_reducible exact HR111_0.out) | (with_reducible refine Kd.C_alloc ?_ _) | (with_reducible refine Kd.C_drewN ?_ _) | (with_reducible refine Kd.C_drew ?_) | exact HR111_0.out)) (ji28) p112 q112
                          cases e112
                          replace p112 := eq_true p112
                          replace q112 := eq_true q112
                          have p33 : 0 ≤ (x8_3 : Int) := of_decide_eq_true (by first | (with_reducible assumption) | assumption)
                          have q33 : (x8_3 : Int) < (((rd_L1 x5_3 x7_2).length : Int) : Int) := of_decide_eq_true (by first | (with_reducible assumption) | assumption)
                          obtain ⟨go33, co33, eo33, gb33, gl33, cl33, HG33⟩ := Kd.R_form HL108_0.out (by omega)
                          (first | cases eo33 | (injection eo33 with ea_ en_ ec_; (first | subst ea_ | (injection ea_ with ea_; subst ea_)); subst ec_; clear en_))
                          have GB33 := Aside0.mk gb33
                          have GG33 := Aside0.mk HG33
                          clear gb33 gl33 HG33
                          (first | simp only [add_plain] at hx112_0 | skip)
                          obtain ⟨hx33_0, hf33_0⟩ := Kd.R_celln 0 HL108_0.out (x8_3 : Int) p33 q33
                          replace p33 := eq_true p33
                          replace q33 := eq_true q33
                          have hq42 : (x7_2 : Int) < ((x5_3.length : Int) : Int) := (by have h_ : (x7_2 : Int) < ((x5_3.length : Int) : Int) := of_decide_eq_true (by first | (with_reducible assumption) | assumption); first | exact h_ | (have e_ := (Kd.S_reads' HO_5.out).1; omega) | simpa only [List.length_set, List.length_set] using h_)
                          obtain ⟨oki42, ce42, hcl42, hM42, hcc42, hok42, hbk42⟩ := Kd.S_borrow HO_5.out [] (x7_2 : Int) (of_decide_eq_true (by first | (with_reducible assumption) | assumption)) hq42
                          obtain ⟨ve42_0, rfl, ge42_0⟩ := id hM42
                          have hv42 := hcc42 0 _ rfl
                          rw [Nat.add_zero, show ((Kd.slice 3 (Kd.int .i64))).sz = 1 from rfl, Nat.mul_one] at hv42
                          replace hv42 := Option.some.inj (hv42.symm.trans HX108_0.out)
                          subst hv42
                          clear hcc42 hcl42
                          replace ge42_0 := (show Kd.R (Kd.int .i64) 3 _ _ _ _ (rd_L1 x5_3 x7_2) from ge42_0)
                          have HP42 := Kd.R_putg ge42_0 (x8_3 : Int) ji31
                          rw [← Ny113.out] at HP42
                          have HS42 := hbk42 HP42.2 (fun k_ e_ => by injection e_ with e_; subst e_; exact ge42_0.1 _ rfl) (x' := y113) (Kd.M_row HP42.1)
                          rw [← Ny115.out] at HS42
                          have HQ42 := Aside0.mk HS42
                          clear HP42 HS42 hbk42 hok42
                          refine start_ (n := 24) (S := fun w' => w'.cell? (ad108.add (x7_2).toNat) = some (.slice (some (⟨go33, 0, none⟩ : Addr)) (rd_L1 x5_3 x7_2).length c108_0) ∧ w'.cell? (ad108.add ((ji23)).toNat) = some (.slice (some ad110) (rd_L1 x5_3 (ji23)).length c109_0) ∧ w'.cell? (ad110.add (x8_3).toNat) = some (.int .i64 (rd (rd_L1 x5_3 (ji23)) x8_3)) ∧ w'.cell? (ad108.add (x7_2).toNat) = some (.slice (some (⟨go33, 0, none⟩ : Addr)) (rd_L1 x5_3 x7_2).length c108_0) ∧ w'.cell? ⟨go33, ((ji28)).toNat, none⟩ = some (.int .i64 (rd (rd_L1 x5_3 x7_2) (ji28)))) (ds := [23]) #[false, false, false, false, false, false, false, false, false, false, false, false, false, false, false, false, false, false, false, false, false, false, false, false] (by kernel_rfl) rfl rfl ⟨hx108_0, hx109_0, hx110_0, hx111_0, hx112_0⟩ (fun hHeld => ?_); refine with_tabW diff_table.tab13 diff_table.bits13 (fun HT_ HW_ => ?_)
                          generalize wr.drew = w40 at HO_5 HB GG33 HL108_0 HL109_0 HL111_0 HQ42 HR108_0 HR109_0 HR111_0 HX108_0 HX109_0 HX111_0 hf33_0 hx108_0 hx109_0 hx110_0 hx111_0 hx112_0 hx33_0 hHeld ⊢
                          refine pq_ 0 (some 41) HT_ ?_; refine pq_ 1 (some 42) HT_ ?_; refine pq_ 2 (some 43) HT_ ?_; refine pq_ 4 (some 45) HT_ ?_; refine pq_ 5 (some 46) HT_ ?_; refine pq_ 6 (some 47) HT_ ?_; refine pq_ 7 (some 48) HT_ ?_; refine pq_ 8 (some 49) HT_ ?_; refine pq_ 10 (some 51) HT_ ?_; refine pq_ 13 (some 54) HT_ ?_; refine pq_ 14 (some 55) HT_ ?_; refine pq_ 15 (some 56) HT_ ?_
                          refine pq_ 17 (some 58) HT_ ?_; refine pq_ 18 (some 59) HT_ ?_; refine tq_ 3 (some 44) HT_ HW_ hHeld ?_; refine tq_ 9 (some 50) HT_ HW_ hHeld ?_; refine pq_ 11 (some 52) HT_ ?_; refine tq_ 12 (some 53) HT_ HW_ hHeld ?_; refine tq_ 16 (some 57) HT_ HW_ hHeld ?_; refine pq_ 19 (some 60) HT_ ?_; refine tq_ 20 (some 61) HT_ HW_ hHeld ?_; refine pq_ 21 (some 62) HT_ ?_
                          refine pq_ 22 (some 63) HT_ ?_
                          refine last_ (i := 23) (N := none) #[true, true, true, true, true, true, true, true, true, true, true, true, true, true, true, true, true, true, true, true, true, true, true, true] rfl rfl (one_of HT_.out (by kernel_rfl)) (by decide) (fun K hK => ?_)
                          refine skip_ (w1 := ?_) (by rfl) rfl ?_ ?_
                          rotate_left
                          ·go_simp
                           rfl
                          refine hK.out _ _ ?_
                          clear hK K
                          refine done_ (done_of HT_.out (by kernel_rfl)) ?_
                          try go_wp2
                          have n0_ : Aside0 (Kd.S (Kd.slice 3 (Kd.int .i64)) 32 (w40.setCell ⟨go33, (x8_3 : Int).toNat, none⟩ (.int .i64 ji31)) w.heap.size (fun _ => True) (.slice (some ad108) x5_3.length co41) y115) := ⟨by (with_reducible repeat (first | apply Kd.S_alloc | apply Kd.S_drewN | apply Kd.S_drew)); exact HQ42.out⟩
                          have n1_ : Aside0 (Below w.heap.size w (w40.setCell ⟨go33, (x8_3 : Int).toNat, none⟩ (.int .i64 ji31))) := ⟨by repeat (first | (with_reducible first | exact HB.out | apply below_alloc | apply pw_below_drewN | apply below_drew1 | refine below_set ?_ GB33.out) | exact HB.out)⟩
                          (try clear HO_5)
                          (try clear HB)
                          generalize (w40.setCell ⟨go33, (x8_3 : Int).toNat, none⟩ (.int .i64 ji31)) = w44 at n0_ n1_ ⊢
                          have HO_5 := n0_
                          have HB := n1_
                          clear n0_ n1_
                          have n0_ := Aside0.mk (Kd.S_drew HO_5.out)
                          have n1_ := Aside0.mk (below_drew1 HB.out)
                          clear HO_5
                          clear HB
                          have HO_5 := n0_
                          have HB := n1_
                          clear n0_ n1_
                          have p116 : 0 ≤ (x7_2 : Int) := of_decide_eq_true (by first | (with_reducible assumption) | assumption)
                          have q116 : x7_2 < (l0.length : Int) := of_decide_eq_true (by first | (with_reducible assumption) | assumption)
                          obtain ⟨ad116, e116, hx116_0⟩ := Kd.at_string HR0.out x7_2 p116 q116
                          have hw116_0 := hx116_0
                          cases e116
                          replace hx116_0 := (HB.out.cell (World.block_lt_of_cell? w _ hx116_0)).trans hx116_0
                          replace p116 := eq_true p116
                          replace q116 := eq_true q116
                          have p117 : 0 ≤ (x8_3 : Int) := of_decide_eq_true (by first | (with_reducible assumption) | assumption)
                          have q117 : x8_3 < (l1.length : Int) := of_decide_eq_true (by first | (with_reducible assumption) | assumption)
                          obtain ⟨ad117, e117, hx117_0⟩ := Kd.at_string HR1.out x8_3 p117 q117
                          have hw117_0 := hx117_0
                          cases e117
                          replace hx117_0 := (HB.out.cell (World.block_lt_of_cell? w _ hx117_0)).trans hx117_0
                          replace p117 := eq_true p117
                          replace q117 := eq_true q117
                          refine start_ (n := 9) (S := fun w' => w'.cell? (ad116.add (x7_2).toNat) = some (.string (rdOf ByteArray.empty l0 x7_2)) ∧ w'.cell? (ad117.add (x8_3).toNat) = some (.string (rdOf ByteArray.empty l1 x8_3))) (ds := []) #[false, false, false, false, false, false, false, false, false] (by kernel_rfl) rfl rfl ⟨((HB.out.cell (World.block_lt_of_cell? w _ hw116_0)).trans hw116_0), ((HB.out.cell (World.block_lt_of_cell? w _ hw117_0)).trans hw117_0)⟩ (fun hHeld => ?_); refine with_tabW diff_table.tab14 diff_table.bits14 (fun HT_ HW_ => ?_)
                          generalize w44.drew = w45 at HO_5 HB HQ42 hx116_0 hx117_0 hHeld ⊢
                          refine pq_ 0 (some 64) HT_ ?_; refine pq_ 1 (some 65) HT_ ?_; refine pq_ 2 (some 66) HT_ ?_; refine pq_ 4 (some 68) HT_ ?_; refine pq_ 5 (some 69) HT_ ?_; refine pq_ 6 (some 70) HT_ ?_; refine tq_ 3 (some 67) HT_ HW_ hHeld ?_; refine tq_ 7 (some 71) HT_ HW_ hHeld ?_; refine pq_ 8 (some 72) HT_ ?_
                          refine done_ (done_of HT_.out (by kernel_rfl)) ?_
                          try go_wp2
                          have n0_ := Aside0.mk (Kd.S_drew HO_5.out)
                          have n1_ := Aside0.mk (below_drew1 HB.out)
                          clear HO_5
                          clear HB
                          have HO_5 := n0_
                          have HB := n1_
                          clear n0_ n1_
                          have p118 : 0 ≤ (x7_2 : Int) := of_decide_eq_true (by first | (with_reducible assumption) | assumption)
                          have q118 : x7_2 < (y115.length : Int) := (by have h_ : (x7_2 : Int) < ((x5_3.length : Int) : Int) := of_decide_eq_true (by first | (with_reducible assumption) | assumption); first | (have e_ := (Kd.S_reads' HO_5.out).1; omega) | simpa only [Ny115.out, List.length_set] using h_)
                          have ql118 : ((x7_2 : Int) < ((x5_3.length : Int) : Int)) = True := eq_true (of_decide_eq_true (by first | (with_reducible assumption) | assumption))
                          obtain ⟨ad118, A118_0, c118_0, e118, hx118_0, hl118_0, hi118_0⟩ := at_L1 (Kd.S_reads' HO_5.out).2.2 x7_2 p118 q118
                          obtain rfl : ad108 = ad118 := (by injection e118)
                          obtain ⟨ce118, hce118, hMe118, hcc118⟩ := Kd.S_get HO_5.out [] x7_2 p118 (by first | exact q118 | exact of_decide_eq_true (by first | (with_reducible assumption) | assumption) | (have e_ := (Kd.S_reads' HO_5.out).1; omega))
                          obtain ⟨ve118_0, rfl, ge118_0⟩ := hMe118
                          have hv118_0 := hcc118 0 _ rfl
                          rw [Nat.add_zero, show ((Kd.slice 3 (Kd.int .i64))).sz = 1 from rfl, Nat.mul_one] at hv118_0
                          replace hv118_0 := Option.some.inj (hv118_0.symm.trans hx118_0)
                          rw [hv118_0] at ge118_0
                          have HL118_0 := Aside0.mk (show Kd.R (Kd.int .i64) 3 _ _ _ _ (rd_L1 y115 x7_2) from ge118_0)
                          clear hv118_0 ge118_0
                          have HX118_0 := Aside0.mk hx118_0
                          clear hcc118 hce118
                          have HR118_0 := Aside0.mk hi118_0
                          have HC118_0 := Aside0.mk hl118_0
                          clear hi118_0 hl118_0
                          replace p118 := eq_true p118
                          replace q118 := eq_true q118
                          have p119 : 0 ≤ ((ji23) : Int) := of_decide_eq_true (by first | (with_reducible assumption) | assumption)
                          have q119 : (ji23) < (y115.length : Int) := (by have h_ : ((ji23) : Int) < ((x5_3.length : Int) : Int) := of_decide_eq_true (by first | (with_reducible assumption) | assumption); first | (have e_ := (Kd.S_reads' HO_5.out).1; omega) | simpa only [Ny115.out, List.length_set] using h_)
                          have ql119 : (((ji23) : Int) < ((x5_3.length : Int) : Int)) = True := eq_true (of_decide_eq_true (by first | (with_reducible assumption) | assumption))
                          obtain ⟨ad119, A119_0, c119_0, e119, hx119_0, hl119_0, hi119_0⟩ := at_L1 (Kd.S_reads' HO_5.out).2.2 (ji23) p119 q119
                          obtain rfl : ad108 = ad119 := (by injection e119)
                          obtain ⟨ce119, hce119, hMe119, hcc119⟩ := Kd.S_get HO_5.out [] (ji23) p119 (by first | exact q119 | exact of_decide_eq_true (by first | (with_reducible assumption) | assumption) | (have e_ := (Kd.S_reads' HO_5.out).1; omega))
                          obtain ⟨ve119_0, rfl, ge119_0⟩ := hMe119
                          have hv119_0 := hcc119 0 _ rfl
                          rw [Nat.add_zero, show ((Kd.slice 3 (Kd.int .i64))).sz = 1 from rfl, Nat.mul_one] at hv119_0
                          replace hv119_0 := Option.some.inj (hv119_0.symm.trans hx119_0)
                          rw [hv119_0] at ge119_0
                          have HL119_0 := Aside0.mk (show Kd.R (Kd.int .i64) 3 _ _ _ _ (rd_L1 y115 (ji23)) from ge119_0)
                          clear hv119_0 ge119_0
                          have HX119_0 := Aside0.mk hx119_0
                          clear hcc119 hce119
                          have HR119_0 := Aside0.mk hi119_0
                          have HC119_0 := Aside0.mk hl119_0
                          clear hi119_0 hl119_0
                          replace p119 := eq_true p119
                          replace q119 := eq_true q119
                          have p120 : 0 ≤ ((ji28) : Int) := of_decide_eq_true (by first | (with_reducible assumption) | assumption)
                          have q120 : (ji28) < ((rd_L1 y115 (ji23)).length : Int) := of_decide_eq_true (by first | (with_reducible assumption) | assumption)
                          obtain ⟨ad120, e120, hx120_0⟩ := Kd.at_int (by repeat (first | (with_reducible exact HR119_0.out) | (with_reducible refine Kd.C_alloc ?_ _) | (with_reducible refine Kd.C_drewN ?_ _) | (with_reducible refine Kd.C_drew ?_) | exact HR119_0.out)) (ji28) p120 q120
                          cases e120
                          replace p120 := eq_true p120
                          replace q120 := eq_true q120
                          have p39 : 0 ≤ (x8_3 : Int) := of_decide_eq_true (by first | (with_reducible assumption) | assumption)
                          have q39 : (x8_3 : Int) < (((rd_L1 y115 x7_2).length : Int) : Int) := of_decide_eq_true (by first | (with_reducible assumption) | assumption)
                          obtain ⟨go39, co39, eo39, gb39, gl39, cl39, HG39⟩ := Kd.R_form HL118_0.out (by omega)
                          (first | cases eo39 | (injection eo39 with ea_ en_ ec_; (first | subst ea_ | (injection ea_ with ea_; subst ea_)); subst ec_; clear en_))
                          have GB39 := Aside0.mk gb39
                          have GG39 := Aside0.mk HG39
                          clear gb39 gl39 HG39
                          obtain ⟨hx39_0, hf39_0⟩ := Kd.R_celln 0 HL118_0.out (x8_3 : Int) p39 q39
                          replace p39 := eq_true p39
                          replace q39 := eq_true q39
                          have hq47 : (x7_2 : Int) < ((x5_3.length : Int) : Int) := (by have h_ : (x7_2 : Int) < ((x5_3.length : Int) : Int) := of_decide_eq_true (by first | (with_reducible assumption) | assumption); first | exact h_ | (have e_ := (Kd.S_reads' HO_5.out).1; omega) | simpa only [Ny115.out, List.length_set] using h_)
                          obtain ⟨oki47, ce47, hcl47, hM47, hcc47, hok47, hbk47⟩ := Kd.S_borrow HO_5.out [] (x7_2 : Int) (of_decide_eq_true (by first | (with_reducible assumption) | assumption)) hq47
                          obtain ⟨ve47_0, rfl, ge47_0⟩ := id hM47
                          have hv47 := hcc47 0 _ rfl
                          rw [Nat.add_zero, show ((Kd.slice 3 (Kd.int .i64))).sz = 1 from rfl, Nat.mul_one] at hv47
                          replace hv47 := Option.some.inj (hv47.symm.trans HX118_0.out)
                          subst hv47
                          clear hcc47 hcl47
                          replace ge47_0 := (show Kd.R (Kd.int .i64) 3 _ _ _ _ (rd_L1 y115 x7_2) from ge47_0)
                          have HP47 := Kd.R_putg ge47_0 (x8_3 : Int) (wrap64 ((rd (rd_L1 y115 (ji23)) (ji28)) + 1))
                          rw [← Ny121.out] at HP47
                          have HS47 := hbk47 HP47.2 (fun k_ e_ => by injection e_ with e_; subst e_; exact ge47_0.1 _ rfl) (x' := y121) (Kd.M_row HP47.1)
                          rw [← Ny123.out] at HS47
                          have HQ47 := Aside0.mk HS47
                          clear HP47 HS47 hbk47 hok47
                          refine start_ (n := 17) (S := fun w' => w'.cell? (ad108.add (x7_2).toNat) = some (.slice (some (⟨go39, 0, none⟩ : Addr)) (rd_L1 y115 x7_2).length c118_0) ∧ w'.cell? (ad108.add ((ji23)).toNat) = some (.slice (some ad120) (rd_L1 y115 (ji23)).length c119_0) ∧ w'.cell? (ad120.add ((ji28)).toNat) = some (.int .i64 (rd (rd_L1 y115 (ji23)) (ji28)))) (ds := [16]) #[false, false, false, false, false, false, false, false, false, false, false, false, false, false, false, false, false] (by kernel_rfl) rfl rfl ⟨hx118_0, hx119_0, hx120_0⟩ (fun hHeld => ?_); refine with_tabW diff_table.tab15 diff_table.bits15 (fun HT_ HW_ => ?_)
                          generalize w45.drew = w46 at HO_5 HB GG39 HL118_0 HL119_0 HQ47 HR118_0 HR119_0 HX118_0 HX119_0 hf39_0 hx118_0 hx119_0 hx120_0 hx39_0 hHeld ⊢
                          refine pq_ 0 (some 73) HT_ ?_; refine pq_ 1 (some 74) HT_ ?_; refine pq_ 2 (some 75) HT_ ?_; refine pq_ 4 (some 77) HT_ ?_; refine pq_ 5 (some 78) HT_ ?_; refine pq_ 6 (some 79) HT_ ?_; refine pq_ 7 (some 80) HT_ ?_; refine pq_ 8 (some 81) HT_ ?_; refine pq_ 10 (some 83) HT_ ?_; refine pq_ 11 (some 84) HT_ ?_; refine tq_ 3 (some 76) HT_ HW_ hHeld ?_
                          refine tq_ 9 (some 82) HT_ HW_ hHeld ?_; refine pq_ 12 (some 85) HT_ ?_; refine tq_ 13 (some 86) HT_ HW_ hHeld ?_; refine pq_ 14 (some 87) HT_ ?_; refine pq_ 15 (some 88) HT_ ?_
                          refine last_ (i := 16) (N := none) #[true, true, true, true, true, true, true, true, true, true, true, true, true, true, true, true, true] rfl rfl (one_of HT_.out (by kernel_rfl)) (by decide) (fun K hK => ?_)
                          refine skip_ (w1 := ?_) (by rfl) rfl ?_ ?_
                          rotate_left
                          ·go_simp
                           rfl
                          refine hK.out _ _ ?_
                          clear hK K
                          refine done_ (done_of HT_.out (by kernel_rfl)) ?_
                          try go_wp2
                          go_roundg k3
                          case measure => have := HK1.out; have := HK2.out; have := HK3.out; omega
                          case rel => exact ⟨(y123), (wrap64 (x8_3 - 1)), (by first | rfl | (simp; done) | (simp [*]; done)), H', ⟨by have := HK1.out; have := HK2.out; have := HK3.out; omega⟩, ⟨by (with_reducible repeat (first | apply Kd.S_alloc | apply Kd.S_drewN | apply Kd.S_drew)); exact HQ47.out⟩, ⟨by repeat (first | (with_reducible first | exact HB.out | apply below_alloc | apply pw_below_drewN | apply below_drew1 | refine below_set ?_ GB39.out) | exact HB.out)⟩⟩
                         ·rw [if_neg c38] at H
                          exact absurd H (by simp)
                        ·rw [if_neg c37] at H
                         exact absurd H (by simp)
                       ·rw [if_neg c36] at H
                        have c36b0 : ((rdOf ByteArray.empty l0 x7_2).toList == (rdOf ByteArray.empty l1 x8_3).toList) = false := beq_eq_false_iff_ne.mpr c36
                        have c36b1 : ((rdOf ByteArray.empty l0 x7_2).toList != (rdOf ByteArray.empty l1 x8_3).toList) = true := bne_iff_ne.mpr c36
                        have H' := Aside0.mk H
                        clear H
                        try go_wp2
                        have n0_ := Aside0.mk (Kd.S_drew HO_5.out)
                        have n1_ := Aside0.mk (below_drew1 HB.out)
                        clear HO_5
                        clear HB
                        have HO_5 := n0_
                        have HB := n1_
                        clear n0_ n1_
                        obtain ⟨Ao50, co50, eo50⟩ := Kd.S_slice HO_5.out
                        (first | subst eo50 | (injection eo50 with f1_ f2_ f3_; have f4_ := f1_.symm; have f5_ := f3_.symm; clear f1_ f2_ f3_; subst f4_; subst f5_))
                        have p108 : 0 ≤ (x7_2 : Int) := of_decide_eq_true (by first | (with_reducible assumption) | assumption)
                        have q108 : x7_2 < (x5_3.length : Int) := of_decide_eq_true (by first | (with_reducible assumption) | assumption)
                        obtain ⟨ad108, A108_0, c108_0, e108, hx108_0, hl108_0, hi108_0⟩ := at_L1 (Kd.S_reads' HO_5.out).2.2 x7_2 p108 q108
                        cases e108
                        obtain ⟨ce108, hce108, hMe108, hcc108⟩ := Kd.S_get HO_5.out [] x7_2 p108 (by first | exact q108 | exact of_decide_eq_true (by first | (with_reducible assumption) | assumption) | (have e_ := (Kd.S_reads' HO_5.out).1; omega))
                        obtain ⟨ve108_0, rfl, ge108_0⟩ := hMe108
                        have hv108_0 := hcc108 0 _ rfl
                        rw [Nat.add_zero, show ((Kd.slice 3 (Kd.int .i64))).sz = 1 from rfl, Nat.mul_one] at hv108_0
                        replace hv108_0 := Option.some.inj (hv108_0.symm.trans hx108_0)
                        rw [hv108_0] at ge108_0
                        have HL108_0 := Aside0.mk (show Kd.R (Kd.int .i64) 3 _ _ _ _ (rd_L1 x5_3 x7_2) from ge108_0)
                        clear hv108_0 ge108_0
                        have HX108_0 := Aside0.mk hx108_0
                        clear hcc108 hce108
                        have HR108_0 := Aside0.mk hi108_0
                        have HC108_0 := Aside0.mk hl108_0
                        clear hi108_0 hl108_0
                        replace p108 := eq_true p108
                        replace q108 := eq_true q108
                        have p109 : 0 ≤ ((ji23) : Int) := of_decide_eq_true (by first | (with_reducible assumption) | assumption)
                        have q109 : (ji23) < (x5_3.length : Int) := of_decide_eq_true (by first | (with_reducible assumption) | assumption)
                        obtain ⟨ad109, A109_0, c109_0, e109, hx109_0, hl109_0, hi109_0⟩ := at_L1 (Kd.S_reads' HO_5.out).2.2 (ji23) p109 q109
                        obtain rfl : ad108 = ad109 := (by injection e109)
                        obtain ⟨ce109, hce109, hMe109, hcc109⟩ := Kd.S_get HO_5.out [] (ji23) p109 (by first | exact q109 | exact of_decide_eq_true (by first | (with_reducible assumption) | assumption) | (have e_ := (Kd.S_reads' HO_5.out).1; omega))
                        obtain ⟨ve109_0, rfl, ge109_0⟩ := hMe109
                        have hv109_0 := hcc109 0 _ rfl
                        rw [Nat.add_zero, show ((Kd.slice 3 (Kd.int .i64))).sz = 1 from rfl, Nat.mul_one] at hv109_0
                        replace hv109_0 := Option.some.inj (hv109_0.symm.trans hx109_0)
                        rw [hv109_0] at ge109_0
                        have HL109_0 := Aside0.mk (show Kd.R (Kd.int .i64) 3 _ _ _ _ (rd_L1 x5_3 (ji23)) from ge109_0)
                        clear hv109_0 ge109_0
                        have HX109_0 := Aside0.mk hx109_0
                        clear hcc109 hce109
                        have HR109_0 := Aside0.mk hi109_0
                        have HC109_0 := Aside0.mk hl109_0
                        clear hi109_0 hl109_0
                        replace p109 := eq_true p109
                        replace q109 := eq_true q109
                        have p110 : 0 ≤ (x8_3 : Int) := of_decide_eq_true (by first | (with_reducible assumption) | assumption)
                        have q110 : x8_3 < ((rd_L1 x5_3 (ji23)).length : Int) := of_decide_eq_true (by first | (with_reducible assumption) | assumption)
                        obtain ⟨ad110, e110, hx110_0⟩ := Kd.at_int (by repeat (first | (with_reducible exact HR109_0.out) | (with_reducible refine Kd.C_alloc ?_ _) | (with_reducible refine Kd.C_drewN ?_ _) | (with_reducible refine Kd.C_drew ?_) | exact HR109_0.out)) x8_3 p110 q110
                        cases e110
                        replace p110 := eq_true p110
                        replace q110 := eq_true q110
                        have p111 : 0 ≤ (x7_2 : Int) := of_decide_eq_true (by first | (with_reducible assumption) | assumption)
                        have q111 : x7_2 < (x5_3.length : Int) := of_decide_eq_true (by first | (with_reducible assumption) | assumption)
                        obtain ⟨ad111, A111_0, c111_0, e111, hx111_0, hl111_0, hi111_0⟩ := at_L1 (Kd.S_reads' HO_5.out).2.2 x7_2 p111 q111
                        obtain rfl : ad108 = ad111 := (by injection e111)
                        obtain ⟨ce111, hce111, hMe111, hcc111⟩ := Kd.S_get HO_5.out [] x7_2 p111 (by first | exact q111 | exact of_decide_eq_true (by first | (with_reducible assumption) | assumption) | (have e_ := (Kd.S_reads' HO_5.out).1; omega))
                        obtain ⟨ve111_0, rfl, ge111_0⟩ := hMe111
                        have hv111_0 := hcc111 0 _ rfl
                        rw [Nat.add_zero, show ((Kd.slice 3 (Kd.int .i64))).sz = 1 from rfl, Nat.mul_one] at hv111_0
                        replace hv111_0 := Option.some.inj (hv111_0.symm.trans hx111_0)
                        rw [hv111_0] at ge111_0
                        have HL111_0 := Aside0.mk (show Kd.R (Kd.int .i64) 3 _ _ _ _ (rd_L1 x5_3 x7_2) from ge111_0)
                        clear hv111_0 ge111_0
                        have HX111_0 := Aside0.mk hx111_0
                        clear hcc111 hce111
                        have HR111_0 := Aside0.mk hi111_0
                        have HC111_0 := Aside0.mk hl111_0
                        clear hi111_0 hl111_0
                        replace p111 := eq_true p111
                        replace q111 := eq_true q111
                        have ea_ := Option.some.inj (hx108_0.symm.trans hx111_0)
                        injection ea_ with ea_ en_ ec_
                        subst ea_
                        subst ec_
                        clear en_
                        have p112 : 0 ≤ ((ji28) : Int) := of_decide_eq_true (by first | (with_reducible assumption) | assumption)
                        have q112 : (ji28) < ((rd_L1 x5_3 x7_2).length : Int) := of_decide_eq_true (by first | (with_reducible assumption) | assumption)
                        obtain ⟨ad112, e112, hx112_0⟩ := Kd.at_int (by repeat (first | (with_reducible exact HR111_0.out) | (with_reducible refine Kd.C_alloc ?_ _) | (with_reducible refine Kd.C_drewN ?_ _) | (with_reducible refine Kd.C_drew ?_) | exact HR111_0.out)) (ji28) p112 q112
                        cases e112
                        replace p112 := eq_true p112
                        replace q112 := eq_true q112
                        have p33 : 0 ≤ (x8_3 : Int) := of_decide_eq_true (by first | (with_reducible assumption) | assumption)
                        have q33 : (x8_3 : Int) < (((rd_L1 x5_3 x7_2).length : Int) : Int) := of_decide_eq_true (by first | (with_reducible assumption) | assumption)
                        obtain ⟨go33, co33, eo33, gb33, gl33, cl33, HG33⟩ := Kd.R_form HL108_0.out (by omega)
                        (first | cases eo33 | (injection eo33 with ea_ en_ ec_; (first | subst ea_ | (injection ea_ with ea_; subst ea_)); subst ec_; clear en_))
                        have GB33 := Aside0.mk gb33
                        have GG33 := Aside0.mk HG33
                        clear gb33 gl33 HG33
                        (first | simp only [add_plain] at hx112_0 | skip)
                        obtain ⟨hx33_0, hf33_0⟩ := Kd.R_celln 0 HL108_0.out (x8_3 : Int) p33 q33
                        replace p33 := eq_true p33
                        replace q33 := eq_true q33
                        have hq51 : (x7_2 : Int) < ((x5_3.length : Int) : Int) := (by have h_ : (x7_2 : Int) < ((x5_3.length : Int) : Int) := of_decide_eq_true (by first | (with_reducible assumption) | assumption); first | exact h_ | (have e_ := (Kd.S_reads' HO_5.out).1; omega) | simpa only [List.length_set, List.length_set] using h_)
                        obtain ⟨oki51, ce51, hcl51, hM51, hcc51, hok51, hbk51⟩ := Kd.S_borrow HO_5.out [] (x7_2 : Int) (of_decide_eq_true (by first | (with_reducible assumption) | assumption)) hq51
                        obtain ⟨ve51_0, rfl, ge51_0⟩ := id hM51
                        have hv51 := hcc51 0 _ rfl
                        rw [Nat.add_zero, show ((Kd.slice 3 (Kd.int .i64))).sz = 1 from rfl, Nat.mul_one] at hv51
                        replace hv51 := Option.some.inj (hv51.symm.trans HX108_0.out)
                        subst hv51
                        clear hcc51 hcl51
                        replace ge51_0 := (show Kd.R (Kd.int .i64) 3 _ _ _ _ (rd_L1 x5_3 x7_2) from ge51_0)
                        have HP51 := Kd.R_putg ge51_0 (x8_3 : Int) ji31
                        rw [← Ny113.out] at HP51
                        have HS51 := hbk51 HP51.2 (fun k_ e_ => by injection e_ with e_; subst e_; exact ge51_0.1 _ rfl) (x' := y113) (Kd.M_row HP51.1)
                        rw [← Ny115.out] at HS51
                        have HQ51 := Aside0.mk HS51
                        clear HP51 HS51 hbk51 hok51
                        refine start_ (n := 24) (S := fun w' => w'.cell? (ad108.add (x7_2).toNat) = some (.slice (some (⟨go33, 0, none⟩ : Addr)) (rd_L1 x5_3 x7_2).length c108_0) ∧ w'.cell? (ad108.add ((ji23)).toNat) = some (.slice (some ad110) (rd_L1 x5_3 (ji23)).length c109_0) ∧ w'.cell? (ad110.add (x8_3).toNat) = some (.int .i64 (rd (rd_L1 x5_3 (ji23)) x8_3)) ∧ w'.cell? (ad108.add (x7_2).toNat) = some (.slice (some (⟨go33, 0, none⟩ : Addr)) (rd_L1 x5_3 x7_2).length c108_0) ∧ w'.cell? ⟨go33, ((ji28)).toNat, none⟩ = some (.int .i64 (rd (rd_L1 x5_3 x7_2) (ji28)))) (ds := [23]) #[false, false, false, false, false, false, false, false, false, false, false, false, false, false, false, false, false, false, false, false, false, false, false, false] (by kernel_rfl) rfl rfl ⟨hx108_0, hx109_0, hx110_0, hx111_0, hx112_0⟩ (fun hHeld => ?_); refine with_tabW diff_table.tab13 diff_table.bits13 (fun HT_ HW_ => ?_)
                        generalize wr.drew = w49 at HO_5 HB GG33 HL108_0 HL109_0 HL111_0 HQ51 HR108_0 HR109_0 HR111_0 HX108_0 HX109_0 HX111_0 hf33_0 hx108_0 hx109_0 hx110_0 hx111_0 hx112_0 hx33_0 hHeld ⊢
                        refine pq_ 0 (some 41) HT_ ?_; refine pq_ 1 (some 42) HT_ ?_; refine pq_ 2 (some 43) HT_ ?_; refine pq_ 4 (some 45) HT_ ?_; refine pq_ 5 (some 46) HT_ ?_; refine pq_ 6 (some 47) HT_ ?_; refine pq_ 7 (some 48) HT_ ?_; refine pq_ 8 (some 49) HT_ ?_; refine pq_ 10 (some 51) HT_ ?_; refine pq_ 13 (some 54) HT_ ?_; refine pq_ 14 (some 55) HT_ ?_; refine pq_ 15 (some 56) HT_ ?_
                        refine pq_ 17 (some 58) HT_ ?_; refine pq_ 18 (some 59) HT_ ?_; refine tq_ 3 (some 44) HT_ HW_ hHeld ?_; refine tq_ 9 (some 50) HT_ HW_ hHeld ?_; refine pq_ 11 (some 52) HT_ ?_; refine tq_ 12 (some 53) HT_ HW_ hHeld ?_; refine tq_ 16 (some 57) HT_ HW_ hHeld ?_; refine pq_ 19 (some 60) HT_ ?_; refine tq_ 20 (some 61) HT_ HW_ hHeld ?_; refine pq_ 21 (some 62) HT_ ?_
                        refine pq_ 22 (some 63) HT_ ?_
                        refine last_ (i := 23) (N := none) #[true, true, true, true, true, true, true, true, true, true, true, true, true, true, true, true, true, true, true, true, true, true, true, true] rfl rfl (one_of HT_.out (by kernel_rfl)) (by decide) (fun K hK => ?_)
                        refine skip_ (w1 := ?_) (by rfl) rfl ?_ ?_
                        rotate_left
                        ·go_simp
                         rfl
                        refine hK.out _ _ ?_
                        clear hK K
                        refine done_ (done_of HT_.out (by kernel_rfl)) ?_
                        try go_wp2
                        have n0_ : Aside0 (Kd.S (Kd.slice 3 (Kd.int .i64)) 32 (w49.setCell ⟨go33, (x8_3 : Int).toNat, none⟩ (.int .i64 ji31)) w.heap.size (fun _ => True) (.slice (some ad108) x5_3.length co50) y115) := ⟨by (with_reducible repeat (first | apply Kd.S_alloc | apply Kd.S_drewN | apply Kd.S_drew)); exact HQ51.out⟩
                        have n1_ : Aside0 (Below w.heap.size w (w49.setCell ⟨go33, (x8_3 : Int).toNat, none⟩ (.int .i64 ji31))) := ⟨by repeat (first | (with_reducible first | exact HB.out | apply below_alloc | apply pw_below_drewN | apply below_drew1 | refine below_set ?_ GB33.out) | exact HB.out)⟩
                        (try clear HO_5)
                        (try clear HB)
                        generalize (w49.setCell ⟨go33, (x8_3 : Int).toNat, none⟩ (.int .i64 ji31)) = w53 at n0_ n1_ ⊢
                        have HO_5 := n0_
                        have HB := n1_
                        clear n0_ n1_
                        have n0_ := Aside0.mk (Kd.S_drew HO_5.out)
                        have n1_ := Aside0.mk (below_drew1 HB.out)
                        clear HO_5
                        clear HB
                        have HO_5 := n0_
                        have HB := n1_
                        clear n0_ n1_
                        have p116 : 0 ≤ (x7_2 : Int) := of_decide_eq_true (by first | (with_reducible assumption) | assumption)
                        have q116 : x7_2 < (l0.length : Int) := of_decide_eq_true (by first | (with_reducible assumption) | assumption)
                        obtain ⟨ad116, e116, hx116_0⟩ := Kd.at_string HR0.out x7_2 p116 q116
                        have hw116_0 := hx116_0
                        cases e116
                        replace hx116_0 := (HB.out.cell (World.block_lt_of_cell? w _ hx116_0)).trans hx116_0
                        replace p116 := eq_true p116
                        replace q116 := eq_true q116
                        have p117 : 0 ≤ (x8_3 : Int) := of_decide_eq_true (by first | (with_reducible assumption) | assumption)
                        have q117 : x8_3 < (l1.length : Int) := of_decide_eq_true (by first | (with_reducible assumption) | assumption)
                        obtain ⟨ad117, e117, hx117_0⟩ := Kd.at_string HR1.out x8_3 p117 q117
                        have hw117_0 := hx117_0
                        cases e117
                        replace hx117_0 := (HB.out.cell (World.block_lt_of_cell? w _ hx117_0)).trans hx117_0
                        replace p117 := eq_true p117
                        replace q117 := eq_true q117
                        refine start_ (n := 9) (S := fun w' => w'.cell? (ad116.add (x7_2).toNat) = some (.string (rdOf ByteArray.empty l0 x7_2)) ∧ w'.cell? (ad117.add (x8_3).toNat) = some (.string (rdOf ByteArray.empty l1 x8_3))) (ds := []) #[false, false, false, false, false, false, false, false, false] (by kernel_rfl) rfl rfl ⟨((HB.out.cell (World.block_lt_of_cell? w _ hw116_0)).trans hw116_0), ((HB.out.cell (World.block_lt_of_cell? w _ hw117_0)).trans hw117_0)⟩ (fun hHeld => ?_); refine with_tabW diff_table.tab14 diff_table.bits14 (fun HT_ HW_ => ?_)
                        generalize w53.drew = w54 at HO_5 HB HQ51 hx116_0 hx117_0 hHeld ⊢
                        refine pq_ 0 (some 64) HT_ ?_; refine pq_ 1 (some 65) HT_ ?_; refine pq_ 2 (some 66) HT_ ?_; refine pq_ 4 (some 68) HT_ ?_; refine pq_ 5 (some 69) HT_ ?_; refine pq_ 6 (some 70) HT_ ?_; refine tq_ 3 (some 67) HT_ HW_ hHeld ?_; refine tq_ 7 (some 71) HT_ HW_ hHeld ?_; refine pq_ 8 (some 72) HT_ ?_
                        refine done_ (done_of HT_.out (by kernel_rfl)) ?_
                        try go_wp2
                        go_roundg k3
                        case measure => have := HK1.out; have := HK2.out; have := HK3.out; omega
                        case rel => exact ⟨(y115), (wrap64 (x8_3 - 1)), (by first | rfl | (simp; done) | (simp [*]; done)), H', ⟨by have := HK1.out; have := HK2.out; have := HK3.out; omega⟩, ⟨by (with_reducible repeat (first | apply Kd.S_alloc | apply Kd.S_drewN | apply Kd.S_drew)); exact HO_5.out⟩, ⟨by repeat (first | (with_reducible first | exact HB.out | apply below_alloc | apply pw_below_drewN | apply below_drew1) | exact HB.out)⟩⟩
                      ·rw [if_neg c35] at H
                       exact absurd H (by simp)
                     ·rw [if_neg c34] at H
                      exact absurd H (by simp)
                    ·rw [if_neg c32] at H
                     exact absurd H (by simp)
                   ·rw [if_neg c30] at H
                    exact absurd H (by simp)
                  ·rw [if_neg c29] at H
                   exact absurd H (by simp)
                 ·rw [if_neg c27] at H
                  exact absurd H (by simp)
                ·rw [if_neg c26] at H
                 exact absurd H (by simp)
               ·rw [if_neg c25] at H
                exact absurd H (by simp)
              ·rw [if_neg c24] at H
               exact absurd H (by simp)
             ·rw [if_neg c22] at H
              exact absurd H (by simp)
            ·rw [if_neg c21] at H
             exact absurd H (by simp)
           ·rw [if_neg c20] at H
            have c20b0 : decide (0 ≤ x8_3) = false := decide_eq_false c20
            clear c20
            have H' := Aside0.mk H
            clear H
            go_wp2
            go_roundg k3
            case measure => have := HK1.out; have := HK2.out; have := HK3.out; omega
            case rel => exact ⟨(x5_3), (wrap64 (x7_2 - 1)), (by first | rfl | (simp; done) | (simp [*]; done)), H', ⟨by have := HK1.out; have := HK2.out; have := HK3.out; omega⟩, ⟨by (with_reducible repeat (first | apply Kd.S_alloc | apply Kd.S_drewN | apply Kd.S_drew)); exact HO_5.out⟩, ⟨by repeat (first | (with_reducible first | exact HB.out | apply below_alloc | apply pw_below_drewN | apply below_drew1) | exact HB.out)⟩⟩
        ·rw [if_neg c19] at H
         have c19b0 : decide (0 ≤ x7_2) = false := decide_eq_false c19
         clear c19
         obtain rfl := Option.some.inj H
         go_wp2
         go_ret
         exact ⟨_, by first | rfl | (simp [errW_none, errW_some] <;> rfl) | (simp only [← hji3]; first | rfl | (simp [errW_none, errW_some] <;> rfl)) | (simp [*, errW_none, errW_some] <;> rfl), by (with_reducible repeat (first | apply Kd.S_alloc | apply Kd.S_drewN | apply Kd.S_drew)); exact HO_5.out, by repeat (first | (with_reducible first | exact HB.out | apply below_alloc | apply pw_below_drewN | apply below_drew1) | exact HB.out)⟩
  ·rw [if_neg c5] at H
   exact absurd H (by simp)
 ·rw [if_neg c4] at H
  exact absurd H (by simp)

end Go.Proofs.Ytefhcmkiachphaa.XAl
end
section
/- Printed by px.py, a program of this session over the print of the kit: functions that the law reaches, as_ Lean functions, each with a proof that its Go code answers so. No condition. -/
namespace Go.Proofs.Ytefhcmkiachphaa.XAl
open Go.RowKit Go.Proofs.YtefhcmkiachphaaW.PrintWords Go.Proofs.YtefhcmkiachphaaW.PrintLast Go.Proofs.YtefhcmkiachphaaW.PrintMore
attribute [local go_sem] max2_int min2_int max_two min_two max_three min_three max_four min_four   -- for this text's walks alone
set_option linter.unusedVariables false
set_option linter.unusedSimpArgs false

/-! ### diff_cut: function 26 -/
def diff_cut.f (l0 : List ByteArray) : Option (List ByteArray) := if 0 ≤ (mn (l0.length : Int) 400) then (if (mn (l0.length : Int) 400) ≤ (l0.length : Int) then (some (l0.take ((mn (l0.length : Int) 400) : Int).toNat)) else (none)) else (none)
set_option maxHeartbeats 8000000 in
set_option maxRecDepth 100000 in
theorem diff_cut.calls (P0_ : Nat → Prop) (A0 : Option Addr) (c0 : Nat) (l0 : List ByteArray) (r : List ByteArray) (w : World) (hs0 : Kd.V Kd.string 9 w w.heap.size (fun k_ => P0_ k_) (.slice A0 l0.length c0) l0) (h : diff_cut.f l0 = some r) :
  Calls Try.prog 26 #[.slice A0 l0.length c0] w fun e w' => ∃ v0_ : Value, e = .returned (v0_) ∧ Kd.V Kd.string 9 w' w.heap.size (fun k_ => (P0_ k_ ∨ w.heap.size ≤ k_)) v0_ r ∧ Below w.heap.size w w' := by
 have HO0 := Aside0.mk (show Kd.V Kd.string 9 w w.heap.size (fun k_ => (P0_ k_ ∨ w.heap.size ≤ k_)) (.slice A0 l0.length c0) l0 from Kd.V_mono hs0 (fun k_ hk => .inl hk))
 have HB := Aside0.mk (Below.refl w.heap.size w)
 have H : (if 0 ≤ (mn (l0.length : Int) 400) then (if (mn (l0.length : Int) 400) ≤ (l0.length : Int) then (some (l0.take ((mn (l0.length : Int) 400) : Int).toNat)) else (none)) else (none)) = some r := h
 clear h
 obtain ⟨ji2, hji2⟩ : ∃ j_ : Int, (mn (l0.length : Int) 400) = j_ := ⟨_, rfl⟩
 replace H : (if 0 ≤ (ji2) then (if (ji2) ≤ (l0.length : Int) then (some (l0.take ((ji2) : Int).toNat)) else (none)) else (none)) = some r := by first | (rw [hji2] at H; exact H) | (simp only [hji2] at H ⊢; exact H)
 (try (have hji2h : ji2 ≤ 400 := by (rw [← hji2]; unfold mn; (repeat' split) <;> omega)))
 (try (have hji2g : ji2 ≤ 64 := by omega))
 (try (have hji2l : 0 ≤ ji2 := by (rw [← hji2]; unfold mn; (repeat' split) <;> omega)))
 (try (have hji2m : 0 ≤ ji2 := by omega))
 have hji2_ : (if 400 < (l0.length : Int) then 400 else (l0.length : Int)) = ji2 := hji2
 have hji2n_ := hji2_
 (try simp only [Int.ofNat_lt] at hji2n_)
 by_cases c3 : 0 ≤ (ji2)
 ·rw [if_pos c3] at H
  have c3b0 := eq_true c3
  have c3b1 : decide (0 ≤ (ji2)) = true := decide_eq_true c3
  clear c3
  by_cases c4 : (ji2) ≤ (l0.length : Int)
  ·rw [if_pos c4] at H
   have c4b0 := eq_true c4
   have c4b1 : decide ((ji2) ≤ (l0.length : Int)) = true := decide_eq_true c4
   clear c4
   obtain ⟨y124, hy124⟩ : ∃ y_ : List ByteArray, y_ = (l0.take ((ji2) : Int).toNat) := ⟨_, rfl⟩
   replace H : (some y124) = some r := by first | (rw [hy124]; with_reducible exact H) | (have H2_ := (Option.bind_some _ _).symm.trans H; rw [hy124]; with_reducible exact H2_) | (have H2_ := (Option.bind_some _ _).symm.trans H; with_reducible exact H2_) | with_reducible exact H | (rw [hy124]; exact H) | exact H
   have Ny124 := Aside0.mk hy124
   clear hy124
   obtain rfl := Option.some.inj H
   have q5 : ((ji2) : Int) ≤ ((l0.length : Int) : Int) := of_decide_eq_true (by first | (with_reducible assumption) | assumption)
   obtain ⟨i05, hi05, _, hsz5, _⟩ := info_parts info9
   have hroom5 : l0.length ≤ c0 := (Kd.V_reads' HO0.out).2.1
   have hC5 : Kd.F Kd.string _ _ A0 l0.length l0 := (Kd.V_at (base := w.heap.size) HO0.out).2.2
   have hcut5 := cut_to (P := Try.prog) 22 9 .i64 Try.underlying22 hi05 A0 l0.length c0 (ji2) (of_decide_eq_true (by first | (with_reducible assumption) | assumption)) q5 hroom5
   have hr5 := Kd.F_take (m := ((ji2) : Int).toNat) hC5 (by omega)
   have hy5 : y124.length = ((ji2) : Int).toNat := (by rw [Ny124.out, List.length_take]; omega)
   rw [← Ny124.out] at hr5
   rw [← hy5] at hcut5
   have HO128 := Aside0.mk (show Kd.V Kd.string 9 _ w.heap.size _ (.slice A0 y124.length c0) y124 from Kd.V_mk (by omega) hr5)
   have HC128 := Aside0.mk (show y124.length ≤ c0 from by omega)
   clear hr5 hC5 hroom5 hi05 hsz5
   have KY5 := Aside0.mk hy5
   clear hy5
   replace q5 := eq_true q5
   go_enter Try.func26, Try.ntmps26
   go_wp2
   go_ret
   exact ⟨_, by first | rfl | (simp [errW_none, errW_some] <;> rfl) | (simp only [← hji2]; first | rfl | (simp [errW_none, errW_some] <;> rfl)) | (simp [*, errW_none, errW_some] <;> rfl), by (with_reducible repeat (first | apply Kd.V_alloc | apply Kd.V_drewN | apply Kd.V_drew)); exact HO128.out, by repeat (first | (with_reducible first | exact HB.out | apply below_alloc | apply pw_below_drewN | apply below_drew1) | exact HB.out)⟩
  ·rw [if_neg c4] at H
   exact absurd H (by simp)
 ·rw [if_neg c3] at H
  exact absurd H (by simp)

end Go.Proofs.Ytefhcmkiachphaa.XAl
end
section
/- Printed by px.py, a program of this session over the print of the kit: functions that the law reaches, as_ Lean functions, each with a proof that its Go code answers so. No condition. -/
namespace Go.Proofs.Ytefhcmkiachphaa.XAl
open Go.RowKit Go.Proofs.YtefhcmkiachphaaW.PrintWords Go.Proofs.YtefhcmkiachphaaW.PrintLast Go.Proofs.YtefhcmkiachphaaW.PrintMore
attribute [local go_sem] max2_int min2_int max_two min_two max_three min_three max_four min_four   -- for this text's walks alone
set_option linter.unusedVariables false
set_option linter.unusedSimpArgs false

/-! ### diff_Alike: function 18 -/
def diff_Alike.f (k : Nat) (l0 : List ByteArray) (l1 : List ByteArray) : Option (Int) := (diff_cut.f l0).bind fun t129 => ((diff_cut.f l1).bind fun t132 => ((diff_table.f k t129 t132).bind fun t135 => (if 0 < (t135.length : Int) then (if 0 < ((rd_L1 t135 0).length : Int) then (some (rd (rd_L1 t135 0) 0)) else (none)) else (none))))
theorem diff_Alike.mono : ∀ a0 a1 k, LeO (diff_Alike.f k a0 a1) (diff_Alike.f (k + 1) a0 a1) := by
 intro a0 a1 k
 unfold diff_Alike.f
 repeat' first
   | (with_reducible exact diff_table.mono _ _ _)
   | (with_reducible exact LeO.refl _)
   | (with_reducible exact LeO.none _)
   | (with_reducible refine LeO.ite ?_ ?_)
   | (with_reducible refine LeO.bind ?_ (fun _ => ?_))
   | exact diff_table.mono _ _ _
   | exact LeO.none _
   | refine LeO.ite ?_ ?_
   | refine LeO.bind ?_ (fun _ => ?_)
set_option maxHeartbeats 8000000 in
set_option maxRecDepth 100000 in
theorem diff_Alike.calls (k : Nat) (A0 : Option Addr) (c0 : Nat) (l0 : List ByteArray) (A1 : Option Addr) (c1 : Nat) (l1 : List ByteArray) (r : Int) (w : World) (hr0 : Kd.C Kd.string w A0 l0.length l0) (hc0 : l0.length ≤ c0) (hr1 : Kd.C Kd.string w A1 l1.length l1) (hc1 : l1.length ≤ c1) (h : diff_Alike.f k l0 l1 = some r) :
  Calls Try.prog 18 #[.slice A0 l0.length c0, .slice A1 l1.length c1] w fun e w' => e = .returned (.int .i64 r) ∧ Below w.heap.size w w' := by
 have HR0 := Aside0.mk hr0
 have HC0 := Aside0.mk hc0
 clear hr0 hc0
 have HR1 := Aside0.mk hr1
 have HC1 := Aside0.mk hc1
 clear hr1 hc1
 have HB := Aside0.mk (Below.refl w.heap.size w)
 have H : ((diff_cut.f l0).bind fun t129 => ((diff_cut.f l1).bind fun t132 => ((diff_table.f k t129 t132).bind fun t135 => (if 0 < (t135.length : Int) then (if 0 < ((rd_L1 t135 0).length : Int) then (some (rd (rd_L1 t135 0) 0)) else (none)) else (none))))) = some r := h
 clear h
 replace H := Option.bind_eq_some_iff.mp H
 obtain ⟨t129, A30, H⟩ := H
 replace H : ((diff_cut.f l1).bind fun t132 => ((diff_table.f k t129 t132).bind fun t135 => (if 0 < (t135.length : Int) then (if 0 < ((rd_L1 t135 0).length : Int) then (some (rd (rd_L1 t135 0) 0)) else (none)) else (none)))) = some r := H
 have A3 := Aside0.mk A30
 clear A30
 replace H := Option.bind_eq_some_iff.mp H
 obtain ⟨t132, A40, H⟩ := H
 replace H : ((diff_table.f k t129 t132).bind fun t135 => (if 0 < (t135.length : Int) then (if 0 < ((rd_L1 t135 0).length : Int) then (some (rd (rd_L1 t135 0) 0)) else (none)) else (none))) = some r := H
 have A4 := Aside0.mk A40
 clear A40
 replace H := Option.bind_eq_some_iff.mp H
 obtain ⟨t135, A50, H⟩ := H
 replace H : (if 0 < (t135.length : Int) then (if 0 < ((rd_L1 t135 0).length : Int) then (some (rd (rd_L1 t135 0) 0)) else (none)) else (none)) = some r := H
 have A5 := Aside0.mk A50
 clear A50
 by_cases c6 : 0 < (t135.length : Int)
 ·rw [if_pos c6] at H
  have c6b0 : decide (0 < (t135.length : Int)) = true := decide_eq_true c6
  have c6b1 : decide (0 < t135.length) = true := decide_eq_true (by omega)
  clear c6
  by_cases c7 : 0 < ((rd_L1 t135 0).length : Int)
  ·rw [if_pos c7] at H
   have c7b0 : decide (0 < ((rd_L1 t135 0).length : Int)) = true := decide_eq_true c7
   have c7b1 : decide (0 < (rd_L1 t135 0).length) = true := decide_eq_true (by omega)
   clear c7
   obtain rfl := Option.some.inj H
   go_enter Try.func18, Try.ntmps18
   go_wp2_with (first | ((with_reducible refine gate_callee (f := 26) rfl ?_); refine goesL_ (some 6) rfl rfl Try.func26 (by kernel_rfl) rfl #[.slice A0 l0.length c0] rfl (by (try simp only [List.map_toArray, List.map_cons, List.map_nil]); first | done | rfl | (simp only [List.length_drop, List.length_take]; rfl)) ?_; (with_reducible refine (diff_cut.calls (fun k_ => k_ < w.heap.size) _ _ l0 t129 _ ?side1 A3.out).mono ?_); (case side1 => exact Kd.V_mk HC0.out (Kd.F_below (Kd.C_F Kd.heap_string HR0.out) (by repeat (first | (with_reducible first | exact HB.out | apply below_alloc | apply pw_below_drewN | apply below_drew1) | exact HB.out)))); rintro e w8 ⟨v130, rfl, ho0, hb⟩; refine ⟨_, rfl, ?_⟩; have n0_ := Aside0.mk (Kd.V_lower (Kd.V_mono (ok' := fun k_ => True) ho0 (fun k_ hk_ => trivial)) (below_size (by repeat (first | (with_reducible first | exact HB.out | apply below_alloc | apply pw_below_drewN | apply below_drew1) | exact HB.out)))); have n1_ := Aside0.mk (below_step (by repeat (first | (with_reducible first | exact HB.out | apply below_alloc | apply pw_below_drewN | apply below_drew1) | exact HB.out)) hb); clear HB; have HO131 := n0_; have HB := n1_; clear n0_ n1_; (try clear hb); (try clear hb2); (try clear hk); (try clear hi); (try clear ho0)) | ((with_reducible refine gate_callee (f := 26) rfl ?_); refine goesL_ (some 8) rfl rfl Try.func26 (by kernel_rfl) rfl #[.slice A1 l1.length c1] rfl (by (try simp only [List.map_toArray, List.map_cons, List.map_nil]); first | done | rfl | (simp only [List.length_drop, List.length_take]; rfl)) ?_; (with_reducible refine (diff_cut.calls (fun k_ => k_ < w.heap.size) _ _ l1 t132 _ ?side1 A4.out).mono ?_); (case side1 => exact Kd.V_mk HC1.out (Kd.F_below (Kd.C_F Kd.heap_string HR1.out) (by repeat (first | (with_reducible first | exact HB.out | apply below_alloc | apply pw_below_drewN | apply below_drew1) | exact HB.out)))); rintro e w9 ⟨v133, rfl, ho0, hb⟩; refine ⟨_, rfl, ?_⟩; have n0_ := Aside0.mk (Kd.V_below (by (with_reducible repeat (first | apply Kd.V_alloc | apply Kd.V_drewN | apply Kd.V_drew)); exact HO131.out) hb); have n1_ := Aside0.mk (Kd.V_lower (Kd.V_mono (ok' := fun k_ => True) ho0 (fun k_ hk_ => trivial)) (below_size (by repeat (first | (with_reducible first | exact HB.out | apply below_alloc | apply pw_below_drewN | apply below_drew1) | exact HB.out)))); have n2_ := Aside0.mk (below_step (by repeat (first | (with_reducible first | exact HB.out | apply below_alloc | apply pw_below_drewN | apply below_drew1) | exact HB.out)) hb); clear HO131; clear HB; have HO131 := n0_; have HO134 := n1_; have HB := n2_; clear n0_ n1_ n2_; (try clear hb); (try clear hb2); (try clear hk); (try clear hi); (try clear ho0); obtain ⟨Ao10, co10, eo10⟩ := Kd.V_slice HO131.out; subst eo10; obtain ⟨Ao11, co11, eo11⟩ := Kd.V_slice HO134.out; subst eo11) | ((with_reducible refine gate_callee (f := 25) rfl ?_); refine goesL_ (some 9) rfl rfl Try.func25 (by kernel_rfl) rfl #[.slice Ao10 t129.length co10, .slice Ao11 t132.length co11] rfl (by (try simp only [List.map_toArray, List.map_cons, List.map_nil]); first | done | rfl | (simp only [List.length_drop, List.length_take]; rfl)) ?_; (with_reducible refine (diff_table.calls k _ _ t129 _ _ t132 t135 _ ?side1 ?side2 ?side3 ?side4 A5.out).mono ?_); (case side1 => repeat (first | exact (Kd.V_reads' HO131.out).2.2 | (with_reducible refine Kd.C_alloc ?_ _) | (with_reducible refine Kd.C_drewN ?_ _) | (with_reducible refine Kd.C_drew ?_))); (case side2 => exact (Kd.V_reads' HO131.out).2.1); (case side3 => repeat (first | exact (Kd.V_reads' HO134.out).2.2 | (with_reducible refine Kd.C_alloc ?_ _) | (with_reducible refine Kd.C_drewN ?_ _) | (with_reducible refine Kd.C_drew ?_))); (case side4 => exact (Kd.V_reads' HO134.out).2.1); rintro e w12 ⟨v136, rfl, ho0, hb⟩; refine ⟨_, rfl, ?_⟩; have n0_ := Aside0.mk (Kd.V_elder' (by (with_reducible repeat (first | apply Kd.V_alloc | apply Kd.V_drewN | apply Kd.V_drew)); exact HO131.out) (Kd.S_base ho0) hb); have n1_ := Aside0.mk (Kd.V_elder' (by (with_reducible repeat (first | apply Kd.V_alloc | apply Kd.V_drewN | apply Kd.V_drew)); exact HO134.out) (Kd.S_base ho0) hb); have n2_ := Aside0.mk (Kd.S_lower ho0 (below_size (by repeat (first | (with_reducible first | exact HB.out | apply below_alloc | apply pw_below_drewN | apply below_drew1) | exact HB.out)))); have n3_ := Aside0.mk (below_step (by repeat (first | (with_reducible first | exact HB.out | apply below_alloc | apply pw_below_drewN | apply below_drew1) | exact HB.out)) hb); clear HO131; clear HO134; clear HB; have HO131 := n0_; have HO134 := n1_; have HO137 := n2_; have HB := n3_; clear n0_ n1_ n2_ n3_; (try clear hb); (try clear hb2); (try clear hk); (try clear hi); (try clear ho0); obtain ⟨Ao13, co13, eo13⟩ := Kd.S_slice HO137.out; subst eo13; have p138 : 0 ≤ (0 : Int) := (by omega); have q138 : 0 < (t135.length : Int) := of_decide_eq_true (by first | (with_reducible assumption) | assumption); obtain ⟨ad138, A138_0, c138_0, e138, hx138_0, hl138_0, hi138_0⟩ := at_L1 (Kd.S_reads' HO137.out).2.2 0 p138 q138; cases e138; obtain ⟨ce138, hce138, hMe138, hcc138⟩ := Kd.S_get HO137.out [] 0 p138 (by first | exact q138 | exact of_decide_eq_true (by first | (with_reducible assumption) | assumption) | (have e_ := (Kd.S_reads' HO137.out).1; omega)); obtain ⟨ve138_0, rfl, ge138_0⟩ := hMe138; have hv138_0 := hcc138 0 _ rfl; rw [Nat.add_zero, show ((Kd.slice 3 (Kd.int .i64))).sz = 1 from rfl, Nat.mul_one] at hv138_0; replace hv138_0 := Option.some.inj (hv138_0.symm.trans hx138_0); rw [hv138_0] at ge138_0; have HL138_0 := Aside0.mk (show Kd.R (Kd.int .i64) 3 _ _ _ _ (rd_L1 t135 0) from ge138_0); clear hv138_0 ge138_0; clear hcc138 hce138; have qi138 : (0 < t135.length) = True := eq_true (by omega); (try rw [show ((0 : Int)).toNat = 0 from rfl] at hx138_0); (try rw [Addr.add_zero'] at hx138_0); have HR138_0 := Aside0.mk hi138_0; have HC138_0 := Aside0.mk hl138_0; clear hi138_0 hl138_0; replace p138 := eq_true p138; replace q138 := eq_true q138; have p139 : 0 ≤ (0 : Int) := (by omega); have q139 : 0 < ((rd_L1 t135 0).length : Int) := of_decide_eq_true (by first | (with_reducible assumption) | assumption); obtain ⟨ad139, e139, hx139_0⟩ := Kd.at_int (by repeat (first | (with_reducible exact HR138_0.out) | (with_reducible refine Kd.C_alloc ?_ _) | (with_reducible refine Kd.C_drewN ?_ _) | (with_reducible refine Kd.C_drew ?_) | exact HR138_0.out)) 0 p139 q139; cases e139; have qi139 : (0 < (rd_L1 t135 0).length) = True := eq_true (by omega); (try rw [show ((0 : Int)).toNat = 0 from rfl] at hx139_0); (try rw [Addr.add_zero'] at hx139_0); replace p139 := eq_true p139; replace q139 := eq_true q139))
   go_ret
   exact ⟨by first | rfl | (simp [errW_none, errW_some] <;> rfl) | (simp [*, errW_none, errW_some] <;> rfl), by repeat (first | (with_reducible first | exact HB.out | apply below_alloc | apply pw_below_drewN | apply below_drew1) | exact HB.out)⟩
  ·rw [if_neg c7] at H
   exact absurd H (by simp)
 ·rw [if_neg c6] at H
  exact absurd H (by simp)

end Go.Proofs.Ytefhcmkiachphaa.XAl
end
section
/- Proved: plain facts on what two lists have alike. No condition. -/
namespace Go.Proofs.Ytefhcmkiachphaa.DiffSpec
set_option linter.unusedVariables false
open Go.Proofs.Ytefhcmkiachphaa.XAl
abbrev L := List ByteArray
theorem toList_data (s : ByteArray) : s.toList = s.data.toList := by
  obtain ⟨⟨l⟩⟩ := s
  simp
theorem toList_inj {a b : ByteArray} : a.toList = b.toList ↔ a = b := by
  rw [toList_data, toList_data]
  refine ⟨fun h => ?_, fun h => by rw [h]⟩
  obtain ⟨⟨x⟩⟩ := a
  obtain ⟨⟨y⟩⟩ := b
  simp only at h
  rw [h]

/-- The most that is alike. -/
def lcs : L → L → Nat
  | [], _ => 0
  | _ :: _, [] => 0
  | x :: a, y :: b => if x = y then lcs a b + 1 else max (lcs a (y :: b)) (lcs (x :: a) b)
termination_by a b => a.length + b.length
theorem lcs_nil_left (b : L) : lcs [] b = 0 := by unfold lcs; rfl
theorem lcs_nil_right (a : L) : lcs a [] = 0 := by cases a <;> unfold lcs <;> rfl
theorem lcs_cons (x y : ByteArray) (a b : L) : lcs (x :: a) (y :: b) = if x = y then lcs a b + 1 else max (lcs a (y :: b)) (lcs (x :: a) b) := by rw [lcs]
theorem lcs_le : ∀ (n : Nat) (a b : L), a.length + b.length ≤ n → lcs a b ≤ a.length ∧ lcs a b ≤ b.length
  | 0, a, b, h => by
    have ha : a = [] := List.eq_nil_of_length_eq_zero (by omega)
    subst ha
    simp [lcs_nil_left]
  | n + 1, [], b, h => by simp [lcs_nil_left]
  | n + 1, x :: a, [], h => by simp [lcs_nil_right]
  | n + 1, x :: a, y :: b, h => by
    simp only [List.length_cons] at h
    rw [lcs_cons]
    split
    · have := lcs_le n a b (by omega)
      simp only [List.length_cons]
      omega
    · have h1 := lcs_le n a (y :: b) (by simp only [List.length_cons]; omega)
      have h2 := lcs_le n (x :: a) b (by simp only [List.length_cons]; omega)
      simp only [List.length_cons] at *
      omega
end Go.Proofs.Ytefhcmkiachphaa.DiffSpec
end
section
/- Proved: the table of the walk tells how much is alike of what is left. Condition: lists of at most 2^20 lines. -/
namespace Go.Proofs.Ytefhcmkiachphaa.DiffTable
set_option linter.unusedVariables false
open Go.RowKit Go.Proofs.Ytefhcmkiachphaa.XAl Go.Proofs.YtefhcmkiachphaaW.PrintWords Go.Proofs.YtefhcmkiachphaaW.PrintLast Go.Proofs.YtefhcmkiachphaaW.PrintMore
open Go.Proofs.Ytefhcmkiachphaa.DiffSpec

theorem wrap_in (z : Int) (h : -1000000000000 ≤ z ∧ z ≤ 1000000000000) : wrap64 z = z := by unfold wrap64; omega
theorem rd_nat (l : List ByteArray) (i : Nat) (h : i < l.length) : rdOf ByteArray.empty l (i : Int) = l[i] := by
  unfold rdOf
  rw [Int.toNat_natCast, List.getD_eq_getElem?_getD, List.getElem?_eq_getElem h]
  rfl
/-- A table of n rows of m numbers. -/
def mat (n m : Nat) (g : Nat → Nat → Int) : List (List Int) := (List.range n).map fun r => (List.range m).map fun c => g r c
theorem mat_len (n m : Nat) (g : Nat → Nat → Int) : (mat n m g).length = n := by simp [mat]
theorem mat_row (n m : Nat) (g : Nat → Nat → Int) (i : Nat) (h : i < n) : rd_L1 (mat n m g) (i : Int) = (List.range m).map fun c => g i c := by
  unfold rd_L1 mat
  rw [Int.toNat_natCast, List.getD_eq_getElem?_getD, List.getElem?_eq_getElem (by simpa using h)]
  simp
theorem mat_rowlen (n m : Nat) (g : Nat → Nat → Int) (i : Nat) (h : i < n) : (rd_L1 (mat n m g) (i : Int)).length = m := by rw [mat_row n m g i h]; simp
theorem mat_rd (n m : Nat) (g : Nat → Nat → Int) (i k : Nat) (h : i < n) (hk : k < m) : rd (rd_L1 (mat n m g) (i : Int)) (k : Int) = g i k := by
  rw [mat_row n m g i h]
  unfold rd
  rw [Int.toNat_natCast, List.getD_eq_getElem?_getD, List.getElem?_eq_getElem (by simpa using hk)]
  simp
def upd (g : Nat → Nat → Int) (i k : Nat) (v : Int) : Nat → Nat → Int := fun r c => if r = i ∧ c = k then v else g r c
theorem mat_set (n m : Nat) (g : Nat → Nat → Int) (i k : Nat) (v : Int) (h : i < n) (hk : k < m) : (mat n m g).set i ((rd_L1 (mat n m g) (i : Int)).set k v) = mat n m (upd g i k v) := by
  rw [mat_row n m g i h]
  unfold mat
  apply List.ext_getElem?
  intro r
  rw [List.getElem?_set]
  by_cases hr : i = r
  · subst hr
    rw [if_pos rfl, if_pos (by simpa using h), List.getElem?_eq_getElem (by simpa using h)]
    congr 1
    simp only [List.getElem_map, List.getElem_range]
    apply List.ext_getElem?
    intro c
    rw [List.getElem?_set]
    by_cases hc : k = c
    · subst hc
      rw [if_pos rfl, if_pos (by simpa using hk), List.getElem?_eq_getElem (by simpa using hk)]
      simp [upd]
    · rw [if_neg hc]
      by_cases hcm : c < m
      · rw [List.getElem?_eq_getElem (by simpa using hcm), List.getElem?_eq_getElem (by simpa using hcm)]
        have hc' : ¬ c = k := fun e => hc e.symm
        simp [upd, hc']
      · rw [List.getElem?_eq_none (by simpa using hcm), List.getElem?_eq_none (by simpa using hcm)]
  · rw [if_neg hr]
    by_cases hrn : r < n
    · rw [List.getElem?_eq_getElem (by simpa using hrn), List.getElem?_eq_getElem (by simpa using hrn)]
      have hr' : ¬ r = i := fun e => hr e.symm
      simp [upd, hr']
    · rw [List.getElem?_eq_none (by simpa using hrn), List.getElem?_eq_none (by simpa using hrn)]
theorem mat_congr {n m : Nat} {g g' : Nat → Nat → Int} (h : ∀ r c, r < n → c < m → g r c = g' r c) : mat n m g = mat n m g' := by
  unfold mat
  apply List.map_congr_left
  intro r hr
  apply List.map_congr_left
  intro c hc
  exact h r c (by simpa using hr) (by simpa using hc)
/-- How much is alike of what is left from a pair of places on. -/
def al (a b : L) (r c : Nat) : Int := ((lcs (a.drop r) (b.drop c) : Nat) : Int)
theorem al_end_left (a b : L) (c : Nat) : al a b a.length c = 0 := by unfold al; rw [List.drop_length, lcs_nil_left]; rfl
theorem al_end_right (a b : L) (r : Nat) : al a b r b.length = 0 := by unfold al; rw [List.drop_length, lcs_nil_right]; rfl
theorem al_step (a b : L) (r c : Nat) (hr : r < a.length) (hc : c < b.length) : al a b r c = if a[r] = b[c] then al a b (r + 1) (c + 1) + 1 else mx (al a b (r + 1) c) (al a b r (c + 1)) := by
  unfold al
  rw [List.drop_eq_getElem_cons hr, List.drop_eq_getElem_cons hc, lcs_cons]
  split
  · rfl
  · unfold mx
    split <;> omega
def T (a b : L) : List (List Int) := mat (a.length + 1) (b.length + 1) (al a b)
/-- What is known when row i is done from column k on. -/
def G (a b : L) (i k : Nat) : Nat → Nat → Int := fun r c => if i < r ∨ (r = i ∧ k ≤ c) then al a b r c else 0

theorem l2_ev (a b : L) (ha : a.length ≤ 1000000) (hb : b.length ≤ 1000000) (i : Nat) (hi : i < a.length) (r : List (List Int)) (hnext : Ev (fun k => diff_table.l1 k a b (mat (a.length + 1) (b.length + 1) (G a b i 0)) ((i : Int) - 1)) r) :
    ∀ m : Nat, m ≤ b.length → Ev (fun k => diff_table.l2 k a b (mat (a.length + 1) (b.length + 1) (G a b i m)) (i : Int) ((m : Int) - 1)) r
  | 0, _ => by
    refine Ev.step (f := fun k => diff_table.l1 k a b (mat (a.length + 1) (b.length + 1) (G a b i 0)) ((i : Int) - 1)) (fun k => ?_) hnext
    simp only [diff_table.l2]
    rw [if_neg (by omega), wrap_in _ (by omega)]
  | m + 1, hm => by
    have ih := l2_ev a b ha hb i hi r hnext m (by omega)
    refine Ev.step (f := fun k => diff_table.l2 k a b (mat (a.length + 1) (b.length + 1) (G a b i m)) (i : Int) ((m : Int) - 1)) (fun k => ?_) ih
    simp only [diff_table.l2]
    have e1 : wrap64 ((i : Int) + 1) = ((i + 1 : Nat) : Int) := by rw [wrap_in _ (by omega)]; omega
    have e2 : ((m + 1 : Nat) : Int) - 1 = (m : Int) := by omega
    have e3 : wrap64 ((m : Int) + 1) = ((m + 1 : Nat) : Int) := by rw [wrap_in _ (by omega)]; omega
    have e4 : wrap64 ((m : Int) - 1) = (m : Int) - 1 := wrap_in _ (by omega)
    rw [e2, e1, e3, e4]
    generalize hN : a.length + 1 = N
    generalize hM : b.length + 1 = M
    have iN : i < N := by omega
    have i1N : i + 1 < N := by omega
    have mM : m < M := by omega
    have m1M : m + 1 < M := by omega
    rw [if_pos (by omega), if_pos (by omega), if_pos (by rw [mat_len]; omega), if_pos (by omega), if_pos (by rw [mat_len]; omega), if_pos (by omega), if_pos (by rw [mat_rowlen _ _ _ _ i1N]; omega), if_pos (by omega), if_pos (by rw [mat_rowlen _ _ _ _ iN]; omega), if_pos (by rw [mat_rowlen _ _ _ _ iN]; omega)]
    rw [Option.bind_some, Int.toNat_natCast, Int.toNat_natCast, mat_rd _ _ _ _ _ i1N mM, mat_rd _ _ _ _ _ iN m1M, mat_set _ _ _ _ _ _ iN mM]
    rw [if_pos (by omega), if_pos (by omega), rd_nat a i hi, rd_nat b m (by omega)]
    have g1 : G a b i (m + 1) (i + 1) m = al a b (i + 1) m := by unfold G; rw [if_pos (by omega)]
    have g2 : G a b i (m + 1) i (m + 1) = al a b i (m + 1) := by unfold G; rw [if_pos (by omega)]
    rw [g1, g2]
    have hst := al_step a b i m hi (by omega)
    by_cases he : a[i] = b[m]
    · rw [if_pos (by rw [he]), if_pos (by rw [mat_rowlen _ _ _ _ i1N]; omega), if_pos (by rw [mat_rowlen _ _ _ _ iN]; omega), mat_rd _ _ _ _ _ i1N m1M, mat_set _ _ _ _ _ _ iN mM]
      rw [if_pos he] at hst
      have g3 : upd (G a b i (m + 1)) i m (mx (al a b (i + 1) m) (al a b i (m + 1))) (i + 1) (m + 1) = al a b (i + 1) (m + 1) := by unfold upd G; rw [if_neg (by omega), if_pos (by omega)]
      have hle := (lcs_le _ (a.drop (i + 1)) (b.drop (m + 1)) (Nat.le_refl _)).1
      rw [g3, wrap_in _ (by unfold al; rw [List.length_drop] at hle; omega), ← hst]
      congr 1
      refine mat_congr fun r c _ _ => ?_
      unfold upd G
      by_cases hrc : r = i ∧ c = m
      · obtain ⟨rfl, rfl⟩ := hrc
        simp
      · rw [if_neg hrc, if_neg hrc]
        by_cases h1 : i < r ∨ (r = i ∧ m + 1 ≤ c)
        · rw [if_pos h1, if_pos (by omega)]
        · rw [if_neg h1, if_neg (by omega)]
    · rw [if_neg (by rw [toList_inj]; exact he)]
      rw [if_neg he] at hst
      rw [← hst]
      congr 1
      refine mat_congr fun r c _ _ => ?_
      unfold upd G
      by_cases hrc : r = i ∧ c = m
      · obtain ⟨rfl, rfl⟩ := hrc
        simp
      · rw [if_neg hrc]
        by_cases h1 : i < r ∨ (r = i ∧ m + 1 ≤ c)
        · rw [if_pos h1, if_pos (by omega)]
        · rw [if_neg h1, if_neg (by omega)]
theorem l1_ev (a b : L) (ha : a.length ≤ 1000000) (hb : b.length ≤ 1000000) : ∀ m : Nat, m ≤ a.length → Ev (fun k => diff_table.l1 k a b (mat (a.length + 1) (b.length + 1) (fun r c => if m ≤ r then al a b r c else 0)) ((m : Int) - 1)) (T a b)
  | 0, _ => by
    have e : mat (a.length + 1) (b.length + 1) (fun r c => if 0 ≤ r then al a b r c else 0) = T a b := mat_congr fun r c _ _ => by simp
    rw [e]
    refine Ev.step (f := fun _ => some (T a b)) (fun k => ?_) (Ev.now _)
    simp only [diff_table.l1]
    rw [if_neg (by omega)]
  | m + 1, hm => by
    have ih := l1_ev a b ha hb m (by omega)
    have e0 : mat (a.length + 1) (b.length + 1) (G a b m 0) = mat (a.length + 1) (b.length + 1) (fun r c => if m ≤ r then al a b r c else 0) := mat_congr fun r c _ _ => by
      unfold G
      by_cases h : m ≤ r
      · rw [if_pos h, if_pos (by omega)]
      · rw [if_neg h, if_neg (by omega)]
    have e1 : mat (a.length + 1) (b.length + 1) (G a b m b.length) = mat (a.length + 1) (b.length + 1) (fun r c => if m + 1 ≤ r then al a b r c else 0) := mat_congr fun r c _ hc => by
      unfold G
      by_cases h : m + 1 ≤ r
      · rw [if_pos (by omega), if_pos h]
      · rw [if_neg h]
        by_cases h2 : r = m ∧ b.length ≤ c
        · rw [if_pos (by omega)]
          have : c = b.length := by omega
          subst this
          exact al_end_right a b r
        · rw [if_neg (by omega)]
    have h2 := l2_ev a b ha hb m (by omega) (T a b) (by rw [e0]; exact ih) b.length (Nat.le_refl _)
    refine Ev.step (f := fun k => diff_table.l2 k a b (mat (a.length + 1) (b.length + 1) (G a b m b.length)) (m : Int) ((b.length : Int) - 1)) (fun k => ?_) h2
    rw [e1]
    simp only [diff_table.l1]
    rw [if_pos (by omega), wrap_in _ (by omega)]
    congr 1
    omega
/-- The first j rows are made. -/
def rows0 (n m j : Nat) : List (List Int) := (List.range n).map fun r => if r < j then List.replicate m 0 else []
theorem rows0_len (n m j : Nat) : (rows0 n m j).length = n := by simp [rows0]
theorem rows0_set (n m j : Nat) : (rows0 n m j).set j (List.replicate m 0) = rows0 n m (j + 1) := by
  unfold rows0
  apply List.ext_getElem?
  intro r
  rw [List.getElem?_set]
  by_cases hrn : r < n
  · by_cases hr : j = r
    · subst hr
      rw [if_pos rfl, if_pos (by simpa using hrn), List.getElem?_eq_getElem (by simpa using hrn)]
      simp
    · rw [if_neg hr, List.getElem?_eq_getElem (by simpa using hrn), List.getElem?_eq_getElem (by simpa using hrn)]
      congr 1
      simp only [List.getElem_map, List.getElem_range]
      by_cases h : r < j
      · rw [if_pos h, if_pos (by omega)]
      · rw [if_neg h, if_neg (by omega)]
  · by_cases hr : j = r
    · subst hr
      rw [if_pos rfl, if_neg (by simpa using hrn), List.getElem?_eq_none (by simpa using hrn)]
    · rw [if_neg hr, List.getElem?_eq_none (by simpa using hrn), List.getElem?_eq_none (by simpa using hrn)]
theorem l0_ev (a b : L) (ha : a.length ≤ 1000000) (hb : b.length ≤ 1000000) : ∀ d j : Nat, a.length + 1 - j = d → j ≤ a.length + 1 →
    Ev (fun k => diff_table.l0 k a b (rows0 (a.length + 1) (b.length + 1) j) ((a.length + 1 : Nat) : Int) (j : Int)) (T a b)
  | 0, j, hd, hj => by
    have hj' : j = a.length + 1 := by omega
    subst hj'
    have e : rows0 (a.length + 1) (b.length + 1) (a.length + 1) = mat (a.length + 1) (b.length + 1) (fun r c => if a.length ≤ r then al a b r c else 0) := by
      unfold rows0 mat
      apply List.map_congr_left
      intro r hr
      have hr' : r < a.length + 1 := by simpa using hr
      rw [if_pos hr']
      apply List.ext_getElem?
      intro c
      by_cases hc : c < b.length + 1
      · rw [List.getElem?_eq_getElem (by simpa using hc), List.getElem?_eq_getElem (by simpa using hc)]
        simp only [List.getElem_replicate, List.getElem_map, List.getElem_range]
        by_cases h : a.length ≤ r
        · have : r = a.length := by omega
          subst this
          rw [if_pos h, al_end_left]
        · rw [if_neg h]
      · rw [List.getElem?_eq_none (by simpa using hc), List.getElem?_eq_none (by simpa using hc)]
    refine Ev.step (f := fun k => diff_table.l1 k a b (mat (a.length + 1) (b.length + 1) (fun r c => if a.length ≤ r then al a b r c else 0)) ((a.length : Int) - 1)) (fun k => ?_) (l1_ev a b ha hb a.length (Nat.le_refl _))
    simp only [diff_table.l0]
    rw [if_neg (by omega), e, wrap_in _ (by omega)]
  | d + 1, j, hd, hj => by
    have ih := l0_ev a b ha hb d (j + 1) (by omega) (by omega)
    refine Ev.step (f := fun k => diff_table.l0 k a b (rows0 (a.length + 1) (b.length + 1) (j + 1)) ((a.length + 1 : Nat) : Int) ((j + 1 : Nat) : Int)) (fun k => ?_) ih
    have e1 : wrap64 ((b.length : Int) + 1) = ((b.length + 1 : Nat) : Int) := by rw [wrap_in _ (by omega)]; omega
    have e2 : wrap64 ((j : Int) + 1) = ((j + 1 : Nat) : Int) := by rw [wrap_in _ (by omega)]; omega
    simp only [diff_table.l0]
    rw [if_pos (by omega), e1, if_pos (by omega), Int.toNat_natCast, if_pos (by omega), if_pos (by omega), if_pos (by rw [rows0_len]; omega), Int.toNat_natCast, rows0_set, e2]
/-- The whole table. -/
theorem table_ev (a b : L) (ha : a.length ≤ 1000000) (hb : b.length ≤ 1000000) : Ev (fun k => diff_table.f k a b) (T a b) := by
  have e1 : wrap64 ((a.length : Int) + 1) = ((a.length + 1 : Nat) : Int) := by rw [wrap_in _ (by omega)]; omega
  have h := l0_ev a b ha hb (a.length + 1) 0 (by omega) (by omega)
  have e2 : List.replicate (a.length + 1) ([] : List Int) = rows0 (a.length + 1) (b.length + 1) 0 := by
    unfold rows0
    apply List.ext_getElem?
    intro r
    by_cases hr : r < a.length + 1
    · rw [List.getElem?_eq_getElem (by simpa using hr), List.getElem?_eq_getElem (by simpa using hr)]
      simp
    · rw [List.getElem?_eq_none (by simpa using hr), List.getElem?_eq_none (by simpa using hr)]
  refine Ev.congr (fun k => ?_) h
  unfold diff_table.f
  rw [e1, if_pos (by omega), Int.toNat_natCast, if_pos (by omega), e2]
  rfl
end Go.Proofs.Ytefhcmkiachphaa.DiffTable
end
section
/- Proved: diff.Alike tells how much is alike. Condition: lists of at most 400 lines. -/
namespace Go.Proofs.Ytefhcmkiachphaa.DiffAlike
set_option linter.unusedVariables false
open Go.RowKit Go.Proofs.Ytefhcmkiachphaa.XAl Go.Proofs.YtefhcmkiachphaaW.PrintWords Go.Proofs.YtefhcmkiachphaaW.PrintLast Go.Proofs.YtefhcmkiachphaaW.PrintMore
open Go.Proofs.Ytefhcmkiachphaa.DiffSpec Go.Proofs.Ytefhcmkiachphaa.DiffTable

theorem own_cut (x : L) (hx : x.length ≤ 400) : diff_cut.f x = some x := by
  unfold diff_cut.f
  have e : mn (x.length : Int) 400 = (x.length : Int) := by
    unfold mn
    rw [if_neg (by omega)]
  rw [e, if_pos (by omega), if_pos (by omega), Int.toNat_natCast, List.take_length]
theorem T_first (a b : L) : (T a b).length = a.length + 1 ∧ (rd_L1 (T a b) 0).length = b.length + 1 ∧ rd (rd_L1 (T a b) 0) 0 = ((lcs a b : Nat) : Int) := by
  refine ⟨mat_len _ _ _, ?_, ?_⟩
  · have h := mat_rowlen (a.length + 1) (b.length + 1) (al a b) 0 (Nat.succ_pos _)
    rw [Int.natCast_zero] at h
    exact h
  · have h := mat_rd (a.length + 1) (b.length + 1) (al a b) 0 0 (Nat.succ_pos _) (Nat.succ_pos _)
    rw [Int.natCast_zero] at h
    unfold al at h
    rw [List.drop_zero, List.drop_zero] at h
    exact h
/-- The program's own number. -/
theorem own_ev (a b : L) (ha : a.length ≤ 400) (hb : b.length ≤ 400) : Ev (fun k => diff_Alike.f k a b) ((lcs a b : Nat) : Int) := by
  obtain ⟨h3, h1, h2⟩ := T_first a b
  have ht := table_ev a b (by omega) (by omega)
  generalize T a b = t at ht h1 h2 h3
  refine Ev.congr (f := fun k => (diff_table.f k a b).bind fun t197 => (if 0 < (t197.length : Int) then (if 0 < ((rd_L1 t197 0).length : Int) then (some (rd (rd_L1 t197 0) 0)) else (none)) else (none))) (fun k => ?_) (Ev.bind ht ?_)
  · unfold diff_Alike.f
    rw [own_cut a ha, own_cut b hb, Option.bind_some, Option.bind_some]
  · refine Ev.congr (f := fun _ => some ((lcs a b : Nat) : Int)) (fun k => ?_) (Ev.now _)
    rw [h3, h1, h2, if_pos (by omega), if_pos (by omega)]
end Go.Proofs.Ytefhcmkiachphaa.DiffAlike
end
section
/- What diff.Alike answers, as_ the machine's function, and its contract. No condition. -/
set_option linter.unusedVariables false
namespace Go.Proofs.Ytefhcmkiachphaa.Ex
open Go Go.RowKit Go.Proofs.Ytefhcmkiachphaa.Ab Go.Proofs.YtefhcmkiachphaaW.PrintWords

/-- What is alike, by rounds. -/
def lcsF : Nat → List ByteArray → List ByteArray → Nat
  | 0, _, _ => 0
  | _ + 1, [], _ => 0
  | _ + 1, _ :: _, [] => 0
  | n + 1, x :: a, y :: b => bif x.toList == y.toList then lcsF n a b + 1 else max (lcsF n a (y :: b)) (lcsF n (x :: a) b)
theorem lcsF_eq : ∀ (n : Nat) (a b : List ByteArray), a.length + b.length ≤ n → lcsF n a b = DiffSpec.lcs a b
  | 0, a, b, h => by
    have ha : a = [] := List.eq_nil_of_length_eq_zero (by omega)
    subst ha
    rw [DiffSpec.lcs_nil_left]; rfl
  | n + 1, [], b, h => by rw [DiffSpec.lcs_nil_left]; rfl
  | n + 1, x :: a, [], h => by rw [DiffSpec.lcs_nil_right]; rfl
  | n + 1, x :: a, y :: b, h => by
    simp only [List.length_cons] at h
    rw [DiffSpec.lcs_cons, lcsF, lcsF_eq n a b (by omega), lcsF_eq n a (y :: b) (by simp only [List.length_cons]; omega), lcsF_eq n (x :: a) b (by simp only [List.length_cons]; omega)]
    by_cases he : x = y
    · subst he; simp
    · have : (x.toList == y.toList) = false := by
        rw [beq_eq_false_iff_ne]
        exact fun h => he (DiffSpec.toList_inj.1 h)
      rw [this, if_neg he]; rfl

def strs2 (g : List ByteArray → List ByteArray → Option (List RV)) : List A → Option (List RV)
  | [.c (.sl .str xs), .c (.sl .str ys)] => g xs ys
  | _ => none
def ext : FuncId → Option (List A → Option (List RV))
  | 18 => some (strs2 fun xs ys => if xs.length ≤ 400 ∧ ys.length ≤ 400 then some [.d (inj (.int .i64) ((lcsF (xs.length + ys.length) xs ys : Nat) : Int))] else none)
  | _ => none
def eat : FuncId → Bool := fun _ => false

/-- What a contract says behind the call. -/
def Post (w : World) (St : Stb) (rvs : List RV) (e : Ending) (w' : World) : Prop :=
  ∃ (cs : List Value) (obs : List (Option Nat)) (St' : Stb), e = .returned (wrapV cs) ∧ Below w.heap.size w w' ∧ (∀ b o, St b o → St' b o) ∧ (∀ b o, St' b o → St b o ∨ w.heap.size ≤ b) ∧ StOK w' St' ∧
      RelRVs w' St' (base0 w.heap.size) cs rvs obs ∧ (∀ (i j : Nat) (b : Nat), obs[i]? = some (some b) → obs[j]? = some (some b) → i = j)
theorem stok {w w' : World} {St : Stb} (h : StOK w St) (hb : Below w.heap.size w w') : StOK w' St := fun b o hs => Nat.lt_of_lt_of_le (h b o hs) hb.size
theorem post_one {w w' : World} {St : Stb} (hSt : StOK w St) {v : Value} {x : RV} {ob : Option Nat} (hb : Below w.heap.size w w') (h : RelRV w' St (base0 w.heap.size) v x ob) : Post w St [x] (.returned v) w' :=
  ⟨[v], [ob], St, rfl, hb, fun _ _ h => h, fun _ _ h => .inl h, stok hSt hb, ⟨h, trivial⟩, fun i j b hi hj => by
    cases i with
    | zero => cases j with
      | zero => rfl
      | succ j => simp at hj
    | succ i => simp at hi⟩
theorem args2 {w : World} {St Q : Stb} {a : Array Value} {x y : A} (h : All2 (RelA w St Q noBet) a.toList [x, y]) : ∃ c d, a = #[c, d] ∧ RelA w St Q noBet c x ∧ RelA w St Q noBet d y := by
  obtain ⟨l⟩ := a
  match l, h with
  | [c, d], h => exact ⟨c, d, rfl, h.1, h.2.1⟩
theorem rd_strs {w : World} {St Q : Stb} {c : Value} {xs : List ByteArray} (hx : xs.length ≤ 400) (hc : RelA w St Q noBet c (.c (.sl .str xs))) : ∃ (A0 : Option Addr) (c0 : Nat), c = .slice A0 xs.length c0 ∧ Kd.C Kd.string w A0 xs.length xs ∧ xs.length ≤ c0 := by
  obtain ⟨c', hcc, hc⟩ := hc
  cases hcc
  rcases hc with ⟨rfl, h0⟩ | ⟨b, o, s, cap, rfl, hle, hel⟩
  · have h0 : xs = [] := h0
    subst h0
    exact ⟨none, 0, rfl, ⟨rfl, by simp, fun h => absurd h (by simp)⟩, Nat.le_refl _⟩
  · refine ⟨_, cap, rfl, ⟨rfl, by omega, fun hpos => ⟨_, rfl, fun j p hj => ?_⟩⟩, by omega⟩
    obtain ⟨rfl, l', hl', hat⟩ := hel j p hj
    have hl' : l' = [.string p] := hl'
    subst hl'
    refine ⟨[.string p], rfl, rfl, fun i u hu => ?_⟩
    cases i with
    | succ i => simp at hu
    | zero =>
      simp only [List.getElem?_cons_zero, Option.some.injEq] at hu
      subst hu
      have := (hat 0 (.string p) rfl).2
      rw [show Ty.w Ty.str = 1 from rfl] at this
      rw [show Kd.string.sz = 1 from rfl]
      have this : w.cell? ⟨b, o + j, none⟩ = some (.string p) := by simpa using this
      simp only [Addr.add, Nat.mul_one, Nat.add_zero]
      split
      · rename_i h0; subst h0; exact this
      · exact this
theorem alike_ok (xs ys : List ByteArray) (hx : xs.length ≤ 400) (hy : ys.length ≤ 400) : CallOK Try.prog EGlob.G 18 [.c (.sl .str xs), .c (.sl .str ys)] [.d (inj (.int .i64) ((lcsF (xs.length + ys.length) xs ys : Nat) : Int))] := by
  intro w St Q a hG hSt hQ ha
  obtain ⟨c, d, rfl, hc, hd⟩ := args2 ha
  obtain ⟨A0, c0, rfl, h0, l0⟩ := rd_strs hx hc
  obtain ⟨A1, c1, rfl, h1, l1⟩ := rd_strs hy hd
  obtain ⟨k, hk⟩ := DiffAlike.own_ev xs ys hx hy
  rw [lcsF_eq _ _ _ (Nat.le_refl _)]
  refine (XAl.diff_Alike.calls k A0 c0 xs A1 c1 ys _ w h0 l0 h1 l1 (hk k (Nat.le_refl _))).mono ?_
  rintro e w' ⟨rfl, hb⟩
  exact post_one hSt hb (ob := none) ⟨rfl, rfl, rfl⟩
theorem ext_ok : ∀ f g args rvs, ext f = some g → g args = some rvs → (match eat f with | true => CallEat Try.prog EGlob.G f args rvs | false => CallOK Try.prog EGlob.G f args rvs) ∧ Enterable Try.prog f := by
  intro f g args rvs hf hg
  unfold ext at hf
  split at hf
  · cases hf
    refine ⟨?_, _, Try.func18, rfl, by decide⟩
    unfold strs2 at hg
    split at hg
    · simp only at hg
      split at hg
      · rename_i h; cases hg; exact alike_ok _ _ h.1 h.2
      · cases hg
    · cases hg
  · cases hf
end Go.Proofs.Ytefhcmkiachphaa.Ex
end
section
/- The tables of this seat for the machine: its types, what its functions take and hand back, what is kept at their loops; and that the tables tell the truth of the program. No condition. -/
namespace Go.Proofs.Ytefhcmkiachphaa.Tb
open Go Go.Proofs.Ytefhcmkiachphaa.Ab
/-- api.File -/
abbrev ty42 : Ty := .pair .str (.pair .bool (.sl .str))
def ti : TypeId → Option TI
  | 3 => some ⟨.int .i64, 1, 8, .int .i64 0, some (.int .i64)⟩
  | 4 => some ⟨.bool, 1, 1, .bool false, some .bool⟩
  | 9 => some ⟨.string, 1, 16, .string ⟨#[]⟩, some .str⟩
  | 22 => some ⟨.slice 9, 1, 24, .slice none 0 0, some (.sl .str)⟩
  | 25 => some ⟨.float .f64, 1, 8, .float .f64 0, some (.flt .f64)⟩
  | 31 => some ⟨.slice 25, 1, 24, .slice none 0 0, some (.sl (.flt .f64))⟩
  | 32 => some ⟨.slice 3, 1, 24, .slice none 0 0, some (.sl (.int .i64))⟩
  | 34 => some ⟨.slice 4, 1, 24, .slice none 0 0, some (.sl .bool)⟩
  | 42 => some ⟨.struct [(0, 9), (1, 4), (2, 22)], 3, 48, .agg #[.string ⟨#[]⟩, .bool false, .slice none 0 0], some ty42⟩
  | 49 => some ⟨.other, 1, 8, .nilFunc, none⟩
  | 51 => some ⟨.slice 42, 1, 24, .slice none 0 0, some (.sl ty42)⟩
  | 54 => some ⟨.int .u64, 1, 8, .int .u64 0, some (.int .u64)⟩
  | 55 => some ⟨.slice 32, 1, 24, .slice none 0 0, some (.sl (.sl (.int .i64)))⟩
  | 62 => some ⟨.int .u64, 1, 8, .int .u64 0, some (.int .u64)⟩
  | _ => none
def sg : FuncId → Option Sig
  | 3 => some ⟨[some (.sl .str), some (.sl .str)], [.d .bool], [], false⟩
  | 4 => some ⟨[some (.sl (.flt .f64))], [.d .bool], [], false⟩
  | 5 => some ⟨[some (.sl .str)], [.d .bool], [], false⟩
  | 6 => some ⟨[], [.d .bool], [], false⟩
  | 7 => some ⟨[some (.sl .str), some (.sl .str)], [.d (.flt .f64)], [], false⟩
  | 8 => some ⟨[some (.sl .str), some (.sl .str)], [.d (.flt .f64), .d .bool], [], false⟩
  | 9 => some ⟨[some (.flt .f64), some (.flt .f64), some .bool], [.d .bool], [], false⟩
  | 10 => some ⟨[some (.sl .str), some (.sl .str)], [.d .bool], [], false⟩
  | 11 => some ⟨[some (.sl (.flt .f64))], [.own 3 (.int .i64)], [], false⟩
  | 12 => some ⟨[some (.flt .f64)], [.d (.flt .f64)], [], false⟩
  | 13 => some ⟨[some (.flt .f64), some (.flt .f64)], [.d .bool], [], false⟩
  | 14 => some ⟨[some (.sl (.flt .f64))], [.d (.flt .f64)], [], false⟩
  | 15 => some ⟨[some ty42, some (.sl ty42)], [.d (.int .i64), .d (.flt .f64)], [], false⟩
  | 16 => some ⟨[], [.d (.flt .f64)], [], false⟩
  | 17 => some ⟨[some (.int .i64)], [.d (.flt .f64)], [], false⟩
  | 18 => some ⟨[some (.sl .str), some (.sl .str)], [.d (.int .i64)], [], false⟩
  | 19 => some ⟨[some (.sl .str), some (.sl .str)], [.d (.int .i64), .d (.int .i64)], [], false⟩
  | 20 => some ⟨[none, none], [], [(0, 3, .pair .unit (.sl (.int .i64)))], false⟩
  | 21 => some ⟨[some (.int .i64), some (.int .i64), none], [.d (.int .i64)], [], false⟩
  | 22 => some ⟨[some (.flt .f64), some (.int .i64)], [.d .bool], [], false⟩
  | 23 => some ⟨[some ty42, none], [.d (.flt .f64)], [], false⟩
  | 27 => some ⟨[some (.sl .str), some (.sl .str)], [.own 32 (.sl (.int .i64))], [], false⟩
  | 28 => some ⟨[none, some (.int .i64), none], [], [(0, 3, .pair .unit (.sl (.int .i64)))], false⟩
  | 29 => some ⟨[some (.flt .f64)], [.d (.flt .f64)], [], false⟩
  | 30 => some ⟨[some (.sl .str)], [.d (.sl .str)], [], false⟩
  | 31 => some ⟨[some (.int .i64), some (.int .i64)], [.d (.int .i64)], [], false⟩
  | 32 => some ⟨[none, some (.int .i64), some (.int .i64), none], [], [(0, 3, .pair .unit (.sl (.int .i64)))], false⟩
  | 33 => some ⟨[none, some (.int .i64), some (.int .i64), some (.int .i64), none], [], [(0, 3, .pair .unit (.sl (.int .i64)))], false⟩
  | 35 => some ⟨[none, some (.int .i64), some (.int .i64), some (.int .i64), none], [], [(0, 3, .pair .unit (.sl (.int .i64)))], false⟩
  | 36 => some ⟨[none, some (.int .i64), some (.int .i64), some (.int .i64), none], [], [(0, 3, .pair .unit (.sl (.int .i64)))], false⟩
  | _ => none
noncomputable def code (f : Func) : Code := match f.body with | some c => c | none => .skip
/-- rafter/rafterlaw03.Light -/
def n5 : Note := ⟨19, [.tmp 2], [.d .bool], [(2, [(0, .any), (3, .any)])], [], [], 0⟩
/-- math.NaN -/
def n16 : Note := ⟨2, [.tmp 0], [.d (.flt .f64)], [], [], [], 0⟩
/-- rafter/score.Alike -/
def n7 : Note := ⟨40, [.tmp 4], [.d (.flt .f64)], [], [], [], 0⟩
/-- slices.insertionSortCmpFunc[int] -/
def n32 : Note := ⟨53, [], [], [(1, [(0, .any), (1, .any), (2, .any), (3, .any), (8, .any)]), (4, [(0, .any), (1, .any), (2, .any), (3, .any), (8, .any), (9, .any)])], [], [(0, 3, .pair .unit (.sl (.int .i64)))], 4⟩
/-- slices.swapRangeCmpFunc[int] -/
def n36 : Note := ⟨38, [], [], [(1, [(0, .any), (1, .any), (2, .any), (3, .any), (10, .any)])], [], [(0, 3, .pair .unit (.sl (.int .i64)))], 5⟩
/-- slices.rotateCmpFunc[int] -/
def n35 : Note := ⟨58, [], [], [(2, [(0, .any), (2, .any), (4, .any), (10, .any), (11, .any)])], [], [(0, 3, .pair .unit (.sl (.int .i64)))], 5⟩
/-- slices.symMergeCmpFunc[int] -/
def n33 : Note := ⟨220, [], [], [(3, [(0, .any), (1, .any), (4, .any), (10, .any), (11, .any)]), (9, [(0, .any), (10, .any), (13, .any)]), (15, [(0, .any), (2, .any), (4, .any), (14, .any), (15, .any)]), (21, [(0, .any), (14, .any), (17, .any)]), (33, [(0, .any), (1, .any), (2, .any), (3, .any), (4, .any), (18, .any), (19, .any), (20, .any), (21, .any), (22, .any)])], [], [(0, 3, .pair .unit (.sl (.int .i64)))], 5⟩
/-- slices.stableCmpFunc[int] -/
def n28 : Note := ⟨63, [], [], [(2, [(0, .any), (1, .any), (2, .any), (6, .any), (7, .any), (8, .any)]), (7, [(0, .any), (1, .any), (2, .any), (6, .any)]), (9, [(0, .any), (1, .any), (2, .any), (6, .any), (7, .any), (8, .any)])], [], [(0, 3, .pair .unit (.sl (.int .i64)))], 3⟩
/-- slices.SortStableFunc[[]int,int] -/
def n20 : Note := ⟨9, [], [], [], [], [(0, 3, .pair .unit (.sl (.int .i64)))], 2⟩
/-- rafter/score.Better -/
def n13 : Note := ⟨18, [.tmp 4], [.d .bool], [], [], [], 0⟩
/-- rafter/score.Rank$1 -/
def n21 : Note := ⟨26, [.tmp 5], [.d (.int .i64)], [], [], [], 0⟩
/-- rafter/score.Rank -/
def n11 : Note := ⟨22, [.tmp 2], [.own 3 (.int .i64)], [(3, [(1, .any), (3, .own 3 (.int .i64)), (9, .any), (10, .any)])], [], [], 0⟩
/-- rafter/score.Clamp -/
def n12 : Note := ⟨11, [.tmp 2], [.d (.flt .f64)], [], [], [], 0⟩
/-- math.Abs -/
def n29 : Note := ⟨7, [.tmp 2], [.d (.flt .f64)], [], [], [], 0⟩
/-- math.IsInf -/
def n22 : Note := ⟨15, [.tmp 4], [.d .bool], [], [], [], 0⟩
/-- rafter/score.Total -/
def n14 : Note := ⟨25, [.tmp 2], [.d (.flt .f64)], [(3, [(3, .any), (6, .any), (7, .any), (8, .any)])], [], [], 0⟩
/-- rafter/score.Best$1 -/
def n23 : Note := ⟨9, [.tmp 3], [.d (.flt .f64)], [], [], [], 0⟩
/-- rafter/score.Best -/
def n15 : Note := ⟨38, [.tmp 4, .tmp 5], [.d (.int .i64), .d (.flt .f64)], [(4, [(6, .any), (7, .any), (8, .any), (14, .any), (15, .any), (16, .any)])], [], [], 0⟩
/-- math.Inf -/
def n17 : Note := ⟨8, [.tmp 2], [.d (.flt .f64)], [], [], [], 0⟩
/-- rafter/rafterlaw30.awake -/
def n6 : Note := ⟨70, [.tmp 0], [.d .bool], [], [], [], 0⟩
/-- rafter/rafterref04.cut -/
def n30 : Note := ⟨9, [.tmp 2], [.d (.sl .str)], [], [], [], 0⟩
/-- rafter/rafterref01.High -/
def n31 : Note := ⟨10, [.tmp 4], [.d (.int .i64)], [], [], [], 0⟩
/-- rafter/rafterref04.Alike -/
def n27 : Note := ⟨76, [.tmp 4], [.own 32 (.sl (.int .i64))], [(6, [(0, .any), (1, .any), (5, .own 32 (.sl (.int .i64))), (6, .own 3 (.int .i64)), (7, .any)]), (10, [(0, .any), (1, .any), (5, .own 32 (.sl (.int .i64))), (6, .own 3 (.int .i64)), (7, .any), (8, .own 3 (.int .i64)), (9, .any)])], [], [], 0⟩
/-- rafter/rafterref30.Alike -/
def n19 : Note := ⟨24, [.tmp 4, .tmp 5], [.d (.int .i64), .d (.int .i64)], [], [], [], 0⟩
/-- rafter/rafterref30.Value -/
def n8 : Note := ⟨21, [.tmp 4, .tmp 5], [.d (.flt .f64), .d .bool], [], [], [], 0⟩
/-- rafter/rafterref30.Is -/
def n9 : Note := ⟨22, [.tmp 6], [.d .bool], [], [], [], 0⟩
/-- rafter/rafterref01.Same -/
def n10 : Note := ⟨26, [.tmp 4], [.d .bool], [(4, [(0, .any), (1, .any), (5, .any)])], [], [], 0⟩
/-- rafter/rafterlaw30.ScoreAlike -/
def n3 : Note := ⟨62, [.tmp 4], [.d .bool], [], [], [], 0⟩
/-- rafter/rafterlaw30.ScoreRanks -/
def n4 : Note := ⟨211, [.tmp 2], [.d .bool], [(7, [(0, .any), (3, .own 3 (.int .i64)), (4, .any), (5, .own 4 .bool), (6, .any)])], [(10, [(0, .any), (3, .own 3 (.int .i64)), (4, .any), (5, .own 4 .bool), (6, .any), (7, .any)]), (11, [(0, .any), (3, .own 3 (.int .i64)), (4, .any), (5, .own 4 .bool), (6, .any), (7, .any), (8, .any)]), (13, [(0, .any), (3, .own 3 (.int .i64)), (4, .any), (5, .own 4 .bool), (6, .any), (7, .any)]), (15, [(0, .any), (3, .own 3 (.int .i64)), (4, .any), (5, .own 4 .bool), (6, .any)]), (16, []), (17, [(0, .any), (3, .own 3 (.int .i64)), (4, .any), (5, .own 4 .bool), (6, .any)]), (19, [(0, .any), (3, .own 3 (.int .i64)), (4, .any), (5, .own 4 .bool), (6, .any)]), (21, [(0, .any), (3, .own 3 (.int .i64)), (4, .any), (5, .own 4 .bool), (6, .any), (9, .any), (10, .any), (11, .any)]), (22, [(0, .any), (3, .own 3 (.int .i64)), (4, .any), (5, .own 4 .bool), (6, .any), (9, .any), (10, .any), (11, .any), (12, .any)]), (8, [(0, .any), (3, .own 3 (.int .i64)), (4, .any), (5, .own 4 .bool), (6, .any)])], [], 0⟩
noncomputable def fns : FuncId → Option (Code × Note)
  | 5 => some (code Try.f5, n5)
  | 16 => some (code Try.f16, n16)
  | 7 => some (code Try.f7, n7)
  | 32 => some (code Try.f32, n32)
  | 36 => some (code Try.f36, n36)
  | 35 => some (code Try.f35, n35)
  | 33 => some (code Try.f33, n33)
  | 28 => some (code Try.f28, n28)
  | 20 => some (code Try.f20, n20)
  | 13 => some (code Try.f13, n13)
  | 21 => some (code Try.f21, n21)
  | 11 => some (code Try.f11, n11)
  | 12 => some (code Try.f12, n12)
  | 29 => some (code Try.f29, n29)
  | 22 => some (code Try.f22, n22)
  | 14 => some (code Try.f14, n14)
  | 23 => some (code Try.f23, n23)
  | 15 => some (code Try.f15, n15)
  | 17 => some (code Try.f17, n17)
  | 6 => some (code Try.f6, n6)
  | 30 => some (code Try.f30, n30)
  | 31 => some (code Try.f31, n31)
  | 27 => some (code Try.f27, n27)
  | 19 => some (code Try.f19, n19)
  | 8 => some (code Try.f8, n8)
  | 9 => some (code Try.f9, n9)
  | 10 => some (code Try.f10, n10)
  | 3 => some (code Try.f3, n3)
  | 4 => some (code Try.f4, n4)
  | _ => none
noncomputable def ext : FuncId → Option (List A → Option (List RV)) := Ex.ext
noncomputable def W0 : Wd := ⟨Try.prog, ti, sg, fns, ext, Ex.eat⟩
/-- A call over the limit, its results as_ data. -/
noncomputable def cR (f : FuncId) (rts : List RT) (xs : List A) : Option (dens rts) := callT (envOf W0 (callW W0)) rts f xs
/-- The same for a call that writes variables of its caller: what then stands in them comes behind. -/
noncomputable def cR2 (f : FuncId) (rts : List RT) (os : List Ty) (xs : List A) : Option (dens rts × dens (os.map RT.d)) := callT2 (envOf W0 (callW W0)) rts os f xs
theorem ti_one {t : TypeId} {i : TI} (d : TypeDesc) (h1 : Try.prog.underlying t = some d) (h2 : (Try.prog.info? t).map (fun i => (i.size, i.bytes, i.zero)) = some (i.size, i.bytes, some i.zero)) (h3 : Dok d i.desc) : TIok Try.prog t i := by
  cases h : Try.prog.info? t with
  | none => rw [h] at h2; cases h2
  | some j =>
    rw [h] at h2
    simp only [Option.map_some, Option.some.injEq, Prod.mk.injEq] at h2
    exact ⟨d, j, h1, h, h2.1, h2.2.1, h2.2.2, h3⟩
theorem ti_ok : ∀ t i, ti t = some i → TIok Try.prog t i := by
  intro t i h
  unfold ti at h
  split at h
  · cases h; exact ti_one _ Try.underlying3 (by kernel_rfl) rfl
  · cases h; exact ti_one _ Try.underlying4 (by kernel_rfl) rfl
  · cases h; exact ti_one _ Try.underlying9 (by kernel_rfl) rfl
  · cases h; exact ti_one _ Try.underlying22 (by kernel_rfl) rfl
  · cases h; exact ti_one _ Try.underlying25 (by kernel_rfl) rfl
  · cases h; exact ti_one _ Try.underlying31 (by kernel_rfl) rfl
  · cases h; exact ti_one _ Try.underlying32 (by kernel_rfl) rfl
  · cases h; exact ti_one _ Try.underlying34 (by kernel_rfl) rfl
  · cases h; exact ti_one _ Try.underlying42 (by kernel_rfl) ⟨_, rfl, rfl⟩
  · cases h; exact ti_one _ Try.underlying49 (by kernel_rfl) trivial
  · cases h; exact ti_one _ Try.underlying51 (by kernel_rfl) rfl
  · cases h; exact ti_one _ Try.underlying54 (by kernel_rfl) rfl
  · cases h; exact ti_one _ Try.underlying55 (by kernel_rfl) rfl
  · cases h; exact ti_one _ Try.underlying62 (by kernel_rfl) rfl
  · cases h
theorem fns_ok : ∀ f c N, fns f = some (c, N) → ∃ fn, Try.prog.funcs[f]? = some fn ∧ fn.body = some c ∧ N.nt ≤ fn.ntmps ∧ fn.results.toList = N.res ∧ (fn.name == "runtime.NumGoroutine") = false := by
  intro f c N h
  unfold fns at h
  split at h
  · cases h; exact ⟨_, Try.func5, rfl, Nat.le_refl _, rfl, by decide⟩
  · cases h; exact ⟨_, Try.func16, rfl, Nat.le_refl _, rfl, by decide⟩
  · cases h; exact ⟨_, Try.func7, rfl, Nat.le_refl _, rfl, by decide⟩
  · cases h; exact ⟨_, Try.func32, rfl, Nat.le_refl _, rfl, by decide⟩
  · cases h; exact ⟨_, Try.func36, rfl, Nat.le_refl _, rfl, by decide⟩
  · cases h; exact ⟨_, Try.func35, rfl, Nat.le_refl _, rfl, by decide⟩
  · cases h; exact ⟨_, Try.func33, rfl, Nat.le_refl _, rfl, by decide⟩
  · cases h; exact ⟨_, Try.func28, rfl, Nat.le_refl _, rfl, by decide⟩
  · cases h; exact ⟨_, Try.func20, rfl, Nat.le_refl _, rfl, by decide⟩
  · cases h; exact ⟨_, Try.func13, rfl, Nat.le_refl _, rfl, by decide⟩
  · cases h; exact ⟨_, Try.func21, rfl, Nat.le_refl _, rfl, by decide⟩
  · cases h; exact ⟨_, Try.func11, rfl, Nat.le_refl _, rfl, by decide⟩
  · cases h; exact ⟨_, Try.func12, rfl, Nat.le_refl _, rfl, by decide⟩
  · cases h; exact ⟨_, Try.func29, rfl, Nat.le_refl _, rfl, by decide⟩
  · cases h; exact ⟨_, Try.func22, rfl, Nat.le_refl _, rfl, by decide⟩
  · cases h; exact ⟨_, Try.func14, rfl, Nat.le_refl _, rfl, by decide⟩
  · cases h; exact ⟨_, Try.func23, rfl, Nat.le_refl _, rfl, by decide⟩
  · cases h; exact ⟨_, Try.func15, rfl, Nat.le_refl _, rfl, by decide⟩
  · cases h; exact ⟨_, Try.func17, rfl, Nat.le_refl _, rfl, by decide⟩
  · cases h; exact ⟨_, Try.func6, rfl, Nat.le_refl _, rfl, by decide⟩
  · cases h; exact ⟨_, Try.func30, rfl, Nat.le_refl _, rfl, by decide⟩
  · cases h; exact ⟨_, Try.func31, rfl, Nat.le_refl _, rfl, by decide⟩
  · cases h; exact ⟨_, Try.func27, rfl, Nat.le_refl _, rfl, by decide⟩
  · cases h; exact ⟨_, Try.func19, rfl, Nat.le_refl _, rfl, by decide⟩
  · cases h; exact ⟨_, Try.func8, rfl, Nat.le_refl _, rfl, by decide⟩
  · cases h; exact ⟨_, Try.func9, rfl, Nat.le_refl _, rfl, by decide⟩
  · cases h; exact ⟨_, Try.func10, rfl, Nat.le_refl _, rfl, by decide⟩
  · cases h; exact ⟨_, Try.func3, rfl, Nat.le_refl _, rfl, by decide⟩
  · cases h; exact ⟨_, Try.func4, rfl, Nat.le_refl _, rfl, by decide⟩
  · cases h
theorem sg_ok : ∀ f s, sg f = some s → SgOK W0 f s := by
  intro f s h
  unfold sg at h
  split at h
  · cases h; exact And.intro rfl (And.intro rfl (fun h => absurd rfl h))
  · cases h; exact And.intro rfl (And.intro rfl (fun h => absurd rfl h))
  · cases h; exact And.intro rfl (And.intro rfl (fun h => absurd rfl h))
  · cases h; exact And.intro rfl (And.intro rfl (fun h => absurd rfl h))
  · cases h; exact And.intro rfl (And.intro rfl (fun h => absurd rfl h))
  · cases h; exact And.intro rfl (And.intro rfl (fun h => absurd rfl h))
  · cases h; exact And.intro rfl (And.intro rfl (fun h => absurd rfl h))
  · cases h; exact And.intro rfl (And.intro rfl (fun h => absurd rfl h))
  · cases h; exact And.intro rfl (And.intro rfl (fun h => absurd rfl h))
  · cases h; exact And.intro rfl (And.intro rfl (fun h => absurd rfl h))
  · cases h; exact And.intro rfl (And.intro rfl (fun h => absurd rfl h))
  · cases h; exact And.intro rfl (And.intro rfl (fun h => absurd rfl h))
  · cases h; exact And.intro rfl (And.intro rfl (fun h => absurd rfl h))
  · cases h; exact And.intro rfl (And.intro rfl (fun h => absurd rfl h))
  · cases h; exact And.intro rfl (And.intro rfl (fun h => absurd rfl h))
  · cases h; exact And.intro rfl rfl
  · cases h; exact And.intro rfl (And.intro rfl (fun h => absurd rfl h))
  · cases h; exact And.intro rfl (And.intro rfl (fun _ => And.intro rfl rfl))
  · cases h; exact And.intro rfl (And.intro rfl (fun h => absurd rfl h))
  · cases h; exact And.intro rfl (And.intro rfl (fun h => absurd rfl h))
  · cases h; exact And.intro rfl (And.intro rfl (fun h => absurd rfl h))
  · cases h; exact And.intro rfl (And.intro rfl (fun h => absurd rfl h))
  · cases h; exact And.intro rfl (And.intro rfl (fun _ => And.intro rfl rfl))
  · cases h; exact And.intro rfl (And.intro rfl (fun h => absurd rfl h))
  · cases h; exact And.intro rfl (And.intro rfl (fun h => absurd rfl h))
  · cases h; exact And.intro rfl (And.intro rfl (fun h => absurd rfl h))
  · cases h; exact And.intro rfl (And.intro rfl (fun _ => And.intro rfl rfl))
  · cases h; exact And.intro rfl (And.intro rfl (fun _ => And.intro rfl rfl))
  · cases h; exact And.intro rfl (And.intro rfl (fun _ => And.intro rfl rfl))
  · cases h; exact And.intro rfl (And.intro rfl (fun _ => And.intro rfl rfl))
  · cases h
theorem w_ok : WdOK W0 EGlob.G := ⟨ti_ok, fns_ok, Ex.ext_ok, by kernel_rfl, fun _ _ h hb => EGlob.G_below h hb, sg_ok⟩
end Go.Proofs.Ytefhcmkiachphaa.Tb
end
section
/- What each function comes to on data: printed equations. No condition. -/
set_option linter.unusedVariables false
set_option maxRecDepth 100000
namespace Go.Proofs.Ytefhcmkiachphaa.Tb
open Go Go.Proofs.Ytefhcmkiachphaa.Ab
noncomputable def td5_2 : List Item := (findT (code Try.f5) [] 2).getD []
noncomputable def l5_2 (x0 : List ByteArray) (x1 : Int) : Option (List RV) := cutW W0 n5 td5_2 { fr := [((0 : Nat), F.a (A.c (C.sl Ty.str x0))), ((3 : Nat), F.a (A.c (C.sc (Go.Value.int Go.IntKind.i64 x1))))], mem := [], nx := (0 : Nat) }
theorem e5 (a0 : List ByteArray) : callG W0 (callW W0) (cutW W0) 5 [inj (Ty.sl Ty.str) a0] = l5_2 a0 (0 : Int) := by kernel_rfl
theorem e3 (a0 : List ByteArray) (a1 : List ByteArray) : callG W0 (callW W0) (cutW W0) 3 [inj (Ty.sl Ty.str) a0, inj (Ty.sl Ty.str) a1] = Option.bind (cR (nat_lit 5) [RT.d Ty.bool] [inj (Ty.sl Ty.str) a0]) fun r => ifs ((!r) = false) (Option.bind (cR (nat_lit 5) [RT.d Ty.bool] [inj (Ty.sl Ty.str) a1]) fun r => ifs ((!r) = true) (Option.bind (cR (nat_lit 6) [RT.d Ty.bool] []) fun r => some (injRs [RT.d Ty.bool] r)) (Option.bind (cR (nat_lit 7) [RT.d (Ty.flt Go.FloatKind.f64)] [inj (Ty.sl Ty.str) a0, inj (Ty.sl Ty.str) a1]) fun r => Option.bind (cR (nat_lit 7) [RT.d (Ty.flt Go.FloatKind.f64)] [inj (Ty.sl Ty.str) a1, inj (Ty.sl Ty.str) a0]) fun r_1 => Option.bind (cR (nat_lit 8) [RT.d (Ty.flt Go.FloatKind.f64), RT.d Ty.bool] [inj (Ty.sl Ty.str) a0, inj (Ty.sl Ty.str) a1]) fun r_2 => Option.bind (cR (nat_lit 9) [RT.d Ty.bool] [inj (Ty.flt Go.FloatKind.f64) r, inj (Ty.flt Go.FloatKind.f64) r_2.fst, inj Ty.bool r_2.snd]) fun r_3 => ifs ((!r_3) = false) (Option.bind (cR (nat_lit 9) [RT.d Ty.bool] [inj (Ty.flt Go.FloatKind.f64) r_1, inj (Ty.flt Go.FloatKind.f64) r_2.fst, inj Ty.bool r_2.snd]) fun r_4 => ifs ((!r_4) = true) (some (injRs [RT.d Ty.bool] false)) (ifs ((!r_2.snd) = true) (Option.bind (cR (nat_lit 6) [RT.d Ty.bool] []) fun r => some (injRs [RT.d Ty.bool] r)) (Option.bind (cR (nat_lit 6) [RT.d Ty.bool] []) fun r_5 => ifs (r_5 = true) (ifs ((Ieee.Format.order (Go.FloatKind.format Go.FloatKind.f64) r (0 : Nat) == some Ordering.gt || Ieee.Format.order (Go.FloatKind.format Go.FloatKind.f64) r (0 : Nat) == some Ordering.eq) = true) (ifs ((Ieee.Format.order (Go.FloatKind.format Go.FloatKind.f64) r (4607182418800017408 : Nat) == some Ordering.lt || Ieee.Format.order (Go.FloatKind.format Go.FloatKind.f64) r (4607182418800017408 : Nat) == some Ordering.eq) = true) (Option.bind (cR (nat_lit 10) [RT.d Ty.bool] [inj (Ty.sl Ty.str) a0, inj (Ty.sl Ty.str) a1]) fun r_6 => some (injRs [RT.d Ty.bool] ((Ieee.Format.order (Go.FloatKind.format Go.FloatKind.f64) r (4607182418800017408 : Nat) == some Ordering.eq) == r_6))) (some (injRs [RT.d Ty.bool] false))) (some (injRs [RT.d Ty.bool] false))) (some (injRs [RT.d Ty.bool] false))))) (some (injRs [RT.d Ty.bool] false)))) (Option.bind (cR (nat_lit 6) [RT.d Ty.bool] []) fun r => some (injRs [RT.d Ty.bool] r)) := by kernel_rfl
end Go.Proofs.Ytefhcmkiachphaa.Tb
end
section
/- What some functions of the program and of the references come to, in plain words: which lists are light, the same. Conditions: lengths as_ they stand in each statement. -/
set_option linter.unusedVariables false
set_option linter.unusedSimpArgs false
namespace Go.Proofs.Ytefhcmkiachphaa.Sp
open Go Go.Proofs.Ytefhcmkiachphaa.Ab Go.Proofs.Ytefhcmkiachphaa.Tb

abbrev Txt := ByteArray
abbrev Prm := Int × Txt × Txt × Int × List Txt × List Txt
instance prmDec1 : DecidableEq (Txt × Int × List Txt × List Txt) := inferInstance
instance prmDec : DecidableEq Prm := inferInstance
abbrev top : Nat := 9223372036854775807
theorem wr (n : Int) (h : -9223372036854775808 ≤ n ∧ n ≤ 9223372036854775807) : IntKind.i64.wrap n = n := IntWalk.i64_in n h
theorem ifs_pos {α : Type} {c : Prop} [Decidable c] {a b : α} (h : c) : ifs c a b = a := by simp [ifs, h]
theorem ifs_neg {α : Type} {c : Prop} [Decidable c] {a b : α} (h : ¬ c) : ifs c a b = b := by simp [ifs, h]
/-! ### rafterlaw03.Light -/
/-! ### Lists of texts that are the same -/
/-! ### Steps: which are light, which are the same -/
end Go.Proofs.Ytefhcmkiachphaa.Sp
end
section
/- Proved: whatever reads as_ a datum of a type is a value of the print's kind for that type; for each make of type. No condition. -/
namespace Go.Proofs.Ytefhcmkiachphaa.EOpen
open Go.ChangeShapes Go.Proofs.YtefhcmkiachphaaW.PrintWords

variable {P : Program} {t : TypeId}
theorem mapM_get {β : Type} (f : Nat → Option β) : ∀ (n : Nat) (l : List β), (List.range n).mapM f = some l → l.length = n ∧ ∀ i, i < n → f i = l[i]? := by
  intro n
  induction n with
  | zero =>
    intro l h
    simp at h
    subst h
    exact ⟨rfl, fun i hi => absurd hi (by omega)⟩
  | succ n ih =>
    intro l h
    rw [List.range_succ, List.mapM_append] at h
    obtain ⟨l1, h1, h⟩ := Option.bind_eq_some_iff.1 h
    obtain ⟨l2, h2, h⟩ := Option.bind_eq_some_iff.1 h
    obtain ⟨hl, hg⟩ := ih l1 h1
    obtain ⟨y, hy, h2⟩ := Option.bind_eq_some_iff.1 (by simpa using h2)
    injection h with h
    subst h
    injection h2 with h2
    subst h2
    refine ⟨by simp [hl], fun i hi => ?_⟩
    by_cases hin : i < n
    · rw [hg i hin, List.getElem?_append_left (by omega)]
    · have : i = n := by omega
      subst this
      rw [hy, List.getElem?_append_right (by omega), hl]
      simp
theorem cells_get {w : World} {base : Nat} {a : Addr} {n : Nat} {cs : List Value} (h : w.cells? base a n = some cs) : cs.length = n ∧ ∀ i u, cs[i]? = some u → w.cell? (a.add i) = some u := by
  unfold World.cells? at h
  split at h
  · obtain ⟨hl, hg⟩ := mapM_get _ n cs h
    refine ⟨hl, fun i u hu => ?_⟩
    have hi : i < n := by have := (List.getElem?_eq_some_iff.1 hu).1; omega
    rw [hg i hi, hu]
  · cases h
theorem list_of {α : Type} (p : Nat → α → Prop) : ∀ n : Nat, (∀ i, i < n → ∃ a, p i a) → ∃ l : List α, l.length = n ∧ ∀ i a, l[i]? = some a → p i a := by
  intro n
  induction n with
  | zero => exact fun _ => ⟨[], rfl, fun i a h => by simp at h⟩
  | succ n ih =>
    intro h
    obtain ⟨l, hl, hg⟩ := ih (fun i hi => h i (by omega))
    obtain ⟨a, ha⟩ := h n (by omega)
    refine ⟨l ++ [a], by simp [hl], fun i b hb => ?_⟩
    by_cases hi : i < n
    · rw [List.getElem?_append_left (by omega)] at hb
      exact hg i b hb
    · have hlt := (List.getElem?_eq_some_iff.1 hb).1
      have : i = n := by simp at hlt; omega
      subst this
      rw [List.getElem?_append_right (by omega), hl] at hb
      simp at hb
      subst hb
      exact ha

end Go.Proofs.Ytefhcmkiachphaa.EOpen
end
section
/- Proved: whatever reads as_ a datum of a type stands in memory as_ the machine's data of that kind; for each make of type. No condition. -/
set_option linter.unusedVariables false
namespace Go.Proofs.Ytefhcmkiachphaa.AbO
open Go Go.ChangeShapes Go.WideShapes Go.Proofs.Ytefhcmkiachphaa.Ab Go.Proofs.Ytefhcmkiachphaa.EOpen Go.Proofs.YtefhcmkiachphaaW.PrintWords

/-- All that stands. -/
def old (w : World) : Stb := fun b _ => b < w.heap.size

/-- What reads as_ a datum of type t is data of kind T, and Q holds of it. -/
def Op (P : Program) (t : TypeId) (T : Ty) (Q : T.den → Prop) : Prop :=
  ∀ {H : Type} (enc : TypeId × Value → H) (w : World) (base : Nat) (sp : Nat → Bool) (held : Bool) (fuel : Nat) (cs : List Value) (x : DataW H × List MemPlace),
    DataW.trod enc P w base sp held fuel t cs = some x → ∃ d : T.den, RelT w (old w) T cs d ∧ Q d

variable {P : Program} {t : TypeId}
theorem op_slice {e : TypeId} {T : Ty} {Q : T.den → Prop} (ht : P.underlying t = some (.slice e)) (hc : P.cellsOf e = T.w) (hpos : 0 < T.w) (h : Op P e T Q) :
    Op P t (.sl T) (fun l : List T.den => l.length ≤ maxLen ∧ ∀ x ∈ l, Q x) := by
  intro H enc w base sp held fuel cs x hx
  rcases DataW.trod_slice ht hx with ⟨rfl, _⟩ | ⟨a, len, cap, elems, rest, n, _, rfl, _, hb, hl, hm, hlen, hel, _, _⟩
  · exact ⟨[], ⟨_, rfl, .inl ⟨rfl, rfl⟩⟩, Nat.zero_le _, fun x hx => by cases hx⟩
  · obtain ⟨l, hll, hg⟩ := list_of (α := T.den) (fun i a' => Q a' ∧ ∃ c, w.cells? base (a.add (i * P.cellsOf e)) (P.cellsOf e) = some c ∧ RelT w (old w) T c a') len (fun i hi => by
      have h1 := hel i hi
      rw [List.getElem?_eq_getElem (by omega)] at h1
      obtain ⟨c, hc1, hc2⟩ := Option.bind_eq_some_iff.1 h1
      obtain ⟨a', hk, hq⟩ := h enc w base sp held n c _ hc2
      exact ⟨a', hq, c, hc1, hk⟩)
    obtain ⟨b, o, s⟩ := a
    have hspot : 0 < len → s = none := fun hpl => by
      obtain ⟨_, c, hc1, hk⟩ := hg 0 _ (List.getElem?_eq_getElem (by omega))
      obtain ⟨hl1, hg1⟩ := cells_get hc1
      have := RelT.length T _ _ hk
      have h0 := hg1 0 _ (List.getElem?_eq_getElem (by omega))
      rw [Nat.zero_mul] at h0
      simp only [Addr.add, if_true] at h0
      unfold World.cell? at h0
      split at h0
      · split at h0
        · cases h0
        · rename_i hs; simpa using hs
      · cases h0
    refine ⟨l, ⟨_, rfl, .inr ⟨b, o, s, cap, by rw [hll], by omega, fun i x hi => ?_⟩⟩, by omega, fun y hy => ?_⟩
    · have hi' := (List.getElem?_eq_some_iff.1 hi).1
      obtain rfl := hspot (by omega)
      obtain ⟨_, c, hc1, hk⟩ := hg i x hi
      rw [hc] at hc1
      obtain ⟨hl1, hg1⟩ := cells_get hc1
      refine ⟨rfl, c, hk, fun j v hj => ?_⟩
      have := hg1 j v hj
      rw [add_add, Addr.add_lit, show o + (i * T.w + j) = o + i * T.w + j by omega] at this
      exact ⟨World.block_lt_of_cell? w _ this, this⟩
    · obtain ⟨i, hi⟩ := List.getElem?_of_mem hy
      exact (hg i y hi).1

/-- From a parameter's reading to the machine's argument. -/
theorem arg_rel {H : Type} {enc : TypeId × Value → H} {w : World} {base : Nat} {sp : Nat → Bool} {held : Bool} {v : Value} {d : DataW H} {p : List MemPlace} {T : Ty} {Q : T.den → Prop} (hO : Op P t T Q) (hv : if T.agg then v = .agg v.cells else v.cells.toList = [v])
    (h : DataW.Trod enc P w base sp held t v d p) : ∃ x : T.den, RelA w (old w) noQ noBet v (inj T x) ∧ Q x := by
  obtain ⟨fuel, hf⟩ := h
  obtain ⟨x, hx, hq⟩ := hO enc w base sp held fuel _ _ hf
  exact ⟨x, rel_injA hx (by
    cases hT : T.agg with
    | true => rw [hT] at hv; simpa using hv
    | false => rw [hT] at hv; simpa using hv), hq⟩
end Go.Proofs.Ytefhcmkiachphaa.AbO
end
section
/- How the parameters of the laws stand in memory (a seat whose laws need nothing of package variables). No condition. -/
set_option linter.unusedVariables false
namespace Go.Proofs.Ytefhcmkiachphaa.SpR
open Go Go.ChangeShapes Go.WideShapes Go.Proofs.Ytefhcmkiachphaa.Ab Go.Proofs.Ytefhcmkiachphaa.AbO Go.Proofs.Ytefhcmkiachphaa.Tb
theorem own : ownKnob Try.prog.godebug = none := by kernel_rfl
theorem laidOut : laidOutB Try.prog = true := by kernel_rfl
/-- What a law that answers true gives: its call, whatever stands. -/
theorem call_true {f : FuncId} {xs : List A} {W : World} {args : Array Value} (h : callW W0 f xs = some (injRs [RT.d .bool] true)) (ha : All2 (RelA W (old W) noQ noBet) args.toList xs) (hio : iosOf W0 f = [] := by kernel_rfl) :
    Calls Try.prog f args W fun e W' => e = .returned (.bool true) ∧ RowKit.Below W.heap.size W W' := by
  refine (callW_ok w_ok h hio W (old W) noQ args trivial (fun b o hb => hb) (fun b o hb => hb.elim) ha).mono ?_
  rintro e w' ⟨cs, obs, St', rfl, hb, _, _, _, hr, _⟩
  match cs, obs, hr with
  | [], [], hr => simp [injRs, RelRVs] at hr
  | [], _ :: _, hr => simp [injRs, RelRVs] at hr
  | _ :: _, [], hr => simp [injRs, RelRVs] at hr
  | [_], _ :: _ :: _, hr => simp [injRs, RelRVs] at hr
  | _ :: _ :: _, _ :: _, hr => simp [injRs, RelRVs] at hr
  | [c], [ob], hr =>
    obtain ⟨⟨_, hc⟩, _⟩ := hr
    have : c = .bool true := hc.1
    rw [this]
    exact ⟨rfl, hb⟩
end Go.Proofs.Ytefhcmkiachphaa.SpR
namespace Go.Proofs.Ytefhcmkiachphaa.Sp
open Go
theorem lenP_of {n : Nat} (h : n ≤ maxLen) : n ≤ top := Nat.le_trans h (by decide)
end Go.Proofs.Ytefhcmkiachphaa.Sp
end
section
/- How a row of floating-point numbers stands in memory. No condition. -/
set_option linter.unusedVariables false
namespace Go.Proofs.Ytefhcmkiachphaa.SpR
open Go Go.ChangeShapes Go.WideShapes Go.Proofs.Ytefhcmkiachphaa.Ab Go.Proofs.Ytefhcmkiachphaa.AbO Go.Proofs.Ytefhcmkiachphaa.Tb
section
variable {H : Type} {enc : TypeId × Value → H} {P : Program} {w : World} {base : Nat} {spare : Nat → Bool} {held : Bool} {fuel : Nat} {t : TypeId} {cs : List Value} {x : DataW H × List MemPlace}
theorem trod_float {k : FloatKind} (ht : P.underlying t = some (.float k)) (h : DataW.trod enc P w base spare held fuel t cs = some x) : ∃ n, cs = [.float k n] ∧ x = (.lit (.float k n), []) := by
  cases fuel with
  | zero => simp [DataW.trod] at h
  | succ m =>
    unfold DataW.trod at h
    rw [ht] at h
    split at h <;> simp_all
end
theorem op_flt {P : Program} {t : TypeId} {k : FloatKind} (ht : P.underlying t = some (.float k)) : AbO.Op P t (.flt k) (fun _ => True) := by
  intro H enc w base sp held fuel cs x h
  obtain ⟨n, rfl, _⟩ := trod_float ht h
  exact ⟨n, rfl, trivial⟩
theorem c_flt : Try.prog.cellsOf 25 = 1 := by kernel_rfl
theorem op_flts : AbO.Op Try.prog 31 (.sl (.flt .f64)) (fun l => l.length ≤ maxLen ∧ ∀ c ∈ l, True) := op_slice (T := .flt .f64) Try.underlying31 c_flt (by decide) (op_flt Try.underlying25)
end Go.Proofs.Ytefhcmkiachphaa.SpR
end
section
/- What each function comes to on data: printed equations. No condition. -/
set_option linter.unusedVariables false
set_option maxRecDepth 100000
namespace Go.Proofs.Ytefhcmkiachphaa.Tb
open Go Go.Proofs.Ytefhcmkiachphaa.Ab
theorem e13 (a0 : Nat) (a1 : Nat) : callG W0 (callW W0) (cutW W0) 13 [inj (Ty.flt Go.FloatKind.f64) a0, inj (Ty.flt Go.FloatKind.f64) a1] = ifs ((Ieee.Format.order (Go.FloatKind.format Go.FloatKind.f64) a0 a0 == some Ordering.eq) = true) (ifs ((Ieee.Format.order (Go.FloatKind.format Go.FloatKind.f64) a1 a1 != some Ordering.eq) = false) (some (injRs [RT.d Ty.bool] (Ieee.Format.order (Go.FloatKind.format Go.FloatKind.f64) a0 a1 == some Ordering.gt))) (some (injRs [RT.d Ty.bool] true))) (some (injRs [RT.d Ty.bool] false)) := by kernel_rfl
theorem e21 (a0 : Int) (a1 : Int) (a2 : List Nat) : callG W0 (callW W0) (cutW W0) 21 [inj (Ty.int Go.IntKind.i64) a0, inj (Ty.int Go.IntKind.i64) a1, A.c (C.pt (Pt.sh (Ty.sl (Ty.flt Go.FloatKind.f64)) a2 (0 : Nat)))] = ifs ((0 : Int) ≤ a0) (Option.bind a2[Int.toNat a0]? fun r => ifs ((0 : Int) ≤ a1) (Option.bind a2[Int.toNat a1]? fun r_1 => Option.bind (cR (nat_lit 13) [RT.d Ty.bool] [inj (Ty.flt Go.FloatKind.f64) r, inj (Ty.flt Go.FloatKind.f64) r_1]) fun r => ifs (r = true) (some (injRs [RT.d (Ty.int Go.IntKind.i64)] (-1 : Int))) (ifs ((0 : Int) ≤ a1) (Option.bind a2[Int.toNat a1]? fun r => ifs ((0 : Int) ≤ a0) (Option.bind a2[Int.toNat a0]? fun r_2 => Option.bind (cR (nat_lit 13) [RT.d Ty.bool] [inj (Ty.flt Go.FloatKind.f64) r, inj (Ty.flt Go.FloatKind.f64) r_2]) fun r => ifs (r = true) (some (injRs [RT.d (Ty.int Go.IntKind.i64)] (1 : Int))) (some (injRs [RT.d (Ty.int Go.IntKind.i64)] (0 : Int)))) none) none)) none) none := by kernel_rfl
noncomputable def td36_1 : List Item := (findT (code Try.f36) [] 1).getD []
noncomputable def l36_1 (x0 : Nat) (x1 : Int) (x2 : Int) (x3 : Int) (x4 : Int) (x5 : List Int) : Option (List RV) := cutW W0 n36 td36_1 { fr := [((0 : Nat), F.a (A.c (C.ow (0 : Nat) x0))), ((1 : Nat), F.a (A.c (C.sc (Go.Value.int Go.IntKind.i64 x1)))), ((2 : Nat), F.a (A.c (C.sc (Go.Value.int Go.IntKind.i64 x2)))), ((3 : Nat), F.a (A.c (C.sc (Go.Value.int Go.IntKind.i64 x3)))), ((10 : Nat), F.a (A.c (C.sc (Go.Value.int Go.IntKind.i64 x4))))], mem := [some (Row.arr (3 : Nat) (Ty.int Go.IntKind.i64) x5 false)], nx := (1 : Nat) }
theorem e36 (b0 : List Int) (a1 : Int) (a2 : Int) (a3 : Int) (k4_0 : List Nat) : callG W0 (callW W0) (cutW W0) 36 [A.c (C.ow (0 : Nat) (List.length b0)), inj (Ty.int Go.IntKind.i64) a1, inj (Ty.int Go.IntKind.i64) a2, inj (Ty.int Go.IntKind.i64) a3, A.c (C.cl (21 : Nat) [Pt.sh (Ty.sl (Ty.flt Go.FloatKind.f64)) k4_0 (0 : Nat)]), A.ag [C.sl (Ty.int Go.IntKind.i64) b0]] = l36_1 (List.length b0) a1 a2 a3 (0 : Int) b0 := by kernel_rfl
theorem q36_1 (x0 : Nat) (x1 : Int) (x2 : Int) (x3 : Int) (x4 : Int) (x5 : List Int) : cutG W0 (callW W0) (cutW W0) n36 td36_1 { fr := [((0 : Nat), F.a (A.c (C.ow (0 : Nat) x0))), ((1 : Nat), F.a (A.c (C.sc (Go.Value.int Go.IntKind.i64 x1)))), ((2 : Nat), F.a (A.c (C.sc (Go.Value.int Go.IntKind.i64 x2)))), ((3 : Nat), F.a (A.c (C.sc (Go.Value.int Go.IntKind.i64 x3)))), ((10 : Nat), F.a (A.c (C.sc (Go.Value.int Go.IntKind.i64 x4))))], mem := [some (Row.arr (3 : Nat) (Ty.int Go.IntKind.i64) x5 false)], nx := (1 : Nat) } = ifs (decide (x4 < x3) = true) (ifs ((0 : Int) ≤ Go.IntKind.wrap Go.IntKind.i64 (x2 + x4) ∧ Go.IntKind.wrap Go.IntKind.i64 (x2 + x4) < (↑x0 : Int)) (Option.bind x5[Int.toNat (Go.IntKind.wrap Go.IntKind.i64 (x2 + x4))]? fun r => ifs ((0 : Int) ≤ Go.IntKind.wrap Go.IntKind.i64 (x1 + x4) ∧ Go.IntKind.wrap Go.IntKind.i64 (x1 + x4) < (↑x0 : Int)) (Option.bind x5[Int.toNat (Go.IntKind.wrap Go.IntKind.i64 (x1 + x4))]? fun r_1 => ifs ((0 : Int) ≤ Go.IntKind.wrap Go.IntKind.i64 (x1 + x4) ∧ Go.IntKind.wrap Go.IntKind.i64 (x1 + x4) < (↑x0 : Int)) (Option.bind x5[Int.toNat (Go.IntKind.wrap Go.IntKind.i64 (x1 + x4))]? fun r_2 => ifs ((0 : Int) ≤ Go.IntKind.wrap Go.IntKind.i64 (x2 + x4) ∧ Go.IntKind.wrap Go.IntKind.i64 (x2 + x4) < (↑x0 : Int)) (Option.bind (List.set x5 (Int.toNat (Go.IntKind.wrap Go.IntKind.i64 (x1 + x4))) r)[Int.toNat (Go.IntKind.wrap Go.IntKind.i64 (x2 + x4))]? fun r_3 => l36_1 x0 x1 x2 x3 (Go.IntKind.wrap Go.IntKind.i64 (x4 + (1 : Int))) (List.set (List.set x5 (Int.toNat (Go.IntKind.wrap Go.IntKind.i64 (x1 + x4))) r) (Int.toNat (Go.IntKind.wrap Go.IntKind.i64 (x2 + x4))) r_1)) none) none) none) none) (some (injRs [] () ++ injRs [RT.d (Ty.pair Ty.unit (Ty.sl (Ty.int Go.IntKind.i64)))] ((), x5))) := by kernel_rfl
noncomputable def td35_2 : List Item := (findT (code Try.f35) [] 2).getD []
noncomputable def l35_2 (x0 : Nat) (x1 : Int) (x2 : List Nat) (x3 : Int) (x4 : Int) (x5 : List Int) : Option (List RV) := cutW W0 n35 td35_2 { fr := [((0 : Nat), F.a (A.c (C.ow (0 : Nat) x0))), ((2 : Nat), F.a (A.c (C.sc (Go.Value.int Go.IntKind.i64 x1)))), ((4 : Nat), F.a (A.c (C.cl (21 : Nat) [Pt.sh (Ty.sl (Ty.flt Go.FloatKind.f64)) x2 (0 : Nat)]))), ((10 : Nat), F.a (A.c (C.sc (Go.Value.int Go.IntKind.i64 x3)))), ((11 : Nat), F.a (A.c (C.sc (Go.Value.int Go.IntKind.i64 x4))))], mem := [some (Row.arr (3 : Nat) (Ty.int Go.IntKind.i64) x5 false)], nx := (1 : Nat) }
theorem e35 (b0 : List Int) (a1 : Int) (a2 : Int) (a3 : Int) (k4_0 : List Nat) : callG W0 (callW W0) (cutW W0) 35 [A.c (C.ow (0 : Nat) (List.length b0)), inj (Ty.int Go.IntKind.i64) a1, inj (Ty.int Go.IntKind.i64) a2, inj (Ty.int Go.IntKind.i64) a3, A.c (C.cl (21 : Nat) [Pt.sh (Ty.sl (Ty.flt Go.FloatKind.f64)) k4_0 (0 : Nat)]), A.ag [C.sl (Ty.int Go.IntKind.i64) b0]] = l35_2 (List.length b0) a2 k4_0 (Go.IntKind.wrap Go.IntKind.i64 (a2 - a1)) (Go.IntKind.wrap Go.IntKind.i64 (a3 - a2)) b0 := by kernel_rfl
theorem q35_2 (x0 : Nat) (x1 : Int) (x2 : List Nat) (x3 : Int) (x4 : Int) (x5 : List Int) : cutG W0 (callW W0) (cutW W0) n35 td35_2 { fr := [((0 : Nat), F.a (A.c (C.ow (0 : Nat) x0))), ((2 : Nat), F.a (A.c (C.sc (Go.Value.int Go.IntKind.i64 x1)))), ((4 : Nat), F.a (A.c (C.cl (21 : Nat) [Pt.sh (Ty.sl (Ty.flt Go.FloatKind.f64)) x2 (0 : Nat)]))), ((10 : Nat), F.a (A.c (C.sc (Go.Value.int Go.IntKind.i64 x3)))), ((11 : Nat), F.a (A.c (C.sc (Go.Value.int Go.IntKind.i64 x4))))], mem := [some (Row.arr (3 : Nat) (Ty.int Go.IntKind.i64) x5 false)], nx := (1 : Nat) } = ifs ((x3 != x4) = true) (ifs (decide (x3 > x4) = true) (Option.bind (cR2 (nat_lit 36) [] [Ty.pair Ty.unit (Ty.sl (Ty.int Go.IntKind.i64))] [A.c (C.ow (0 : Nat) x0), inj (Ty.int Go.IntKind.i64) (Go.IntKind.wrap Go.IntKind.i64 (x1 - x3)), inj (Ty.int Go.IntKind.i64) x1, inj (Ty.int Go.IntKind.i64) x4, A.c (C.cl (21 : Nat) [Pt.sh (Ty.sl (Ty.flt Go.FloatKind.f64)) x2 (0 : Nat)]), inj (Ty.pair Ty.unit (Ty.sl (Ty.int Go.IntKind.i64))) ((), x5)]) fun r => l35_2 x0 x1 x2 (Go.IntKind.wrap Go.IntKind.i64 (x3 - x4)) x4 r.snd.snd) (Option.bind (cR2 (nat_lit 36) [] [Ty.pair Ty.unit (Ty.sl (Ty.int Go.IntKind.i64))] [A.c (C.ow (0 : Nat) x0), inj (Ty.int Go.IntKind.i64) (Go.IntKind.wrap Go.IntKind.i64 (x1 - x3)), inj (Ty.int Go.IntKind.i64) (Go.IntKind.wrap Go.IntKind.i64 (Go.IntKind.wrap Go.IntKind.i64 (x1 + x4) - x3)), inj (Ty.int Go.IntKind.i64) x3, A.c (C.cl (21 : Nat) [Pt.sh (Ty.sl (Ty.flt Go.FloatKind.f64)) x2 (0 : Nat)]), inj (Ty.pair Ty.unit (Ty.sl (Ty.int Go.IntKind.i64))) ((), x5)]) fun r => l35_2 x0 x1 x2 x3 (Go.IntKind.wrap Go.IntKind.i64 (x4 - x3)) r.snd.snd)) (Option.bind (cR2 (nat_lit 36) [] [Ty.pair Ty.unit (Ty.sl (Ty.int Go.IntKind.i64))] [A.c (C.ow (0 : Nat) x0), inj (Ty.int Go.IntKind.i64) (Go.IntKind.wrap Go.IntKind.i64 (x1 - x3)), inj (Ty.int Go.IntKind.i64) x1, inj (Ty.int Go.IntKind.i64) x3, A.c (C.cl (21 : Nat) [Pt.sh (Ty.sl (Ty.flt Go.FloatKind.f64)) x2 (0 : Nat)]), inj (Ty.pair Ty.unit (Ty.sl (Ty.int Go.IntKind.i64))) ((), x5)]) fun r => some (injRs [] () ++ injRs [RT.d (Ty.pair Ty.unit (Ty.sl (Ty.int Go.IntKind.i64)))] ((), r.snd.snd))) := by kernel_rfl
noncomputable def td32_1 : List Item := (findT (code Try.f32) [] 1).getD []
noncomputable def l32_1 (x0 : Nat) (x1 : Int) (x2 : Int) (x3 : List Nat) (x4 : Int) (x5 : List Int) : Option (List RV) := cutW W0 n32 td32_1 { fr := [((0 : Nat), F.a (A.c (C.ow (0 : Nat) x0))), ((1 : Nat), F.a (A.c (C.sc (Go.Value.int Go.IntKind.i64 x1)))), ((2 : Nat), F.a (A.c (C.sc (Go.Value.int Go.IntKind.i64 x2)))), ((3 : Nat), F.a (A.c (C.cl (21 : Nat) [Pt.sh (Ty.sl (Ty.flt Go.FloatKind.f64)) x3 (0 : Nat)]))), ((8 : Nat), F.a (A.c (C.sc (Go.Value.int Go.IntKind.i64 x4))))], mem := [some (Row.arr (3 : Nat) (Ty.int Go.IntKind.i64) x5 false)], nx := (1 : Nat) }
noncomputable def td32_4 : List Item := (findT (code Try.f32) [] 4).getD []
noncomputable def l32_4 (x0 : Nat) (x1 : Int) (x2 : Int) (x3 : List Nat) (x4 : Int) (x5 : Int) (x6 : List Int) : Option (List RV) := cutW W0 n32 td32_4 { fr := [((0 : Nat), F.a (A.c (C.ow (0 : Nat) x0))), ((1 : Nat), F.a (A.c (C.sc (Go.Value.int Go.IntKind.i64 x1)))), ((2 : Nat), F.a (A.c (C.sc (Go.Value.int Go.IntKind.i64 x2)))), ((3 : Nat), F.a (A.c (C.cl (21 : Nat) [Pt.sh (Ty.sl (Ty.flt Go.FloatKind.f64)) x3 (0 : Nat)]))), ((8 : Nat), F.a (A.c (C.sc (Go.Value.int Go.IntKind.i64 x4)))), ((9 : Nat), F.a (A.c (C.sc (Go.Value.int Go.IntKind.i64 x5))))], mem := [some (Row.arr (3 : Nat) (Ty.int Go.IntKind.i64) x6 false)], nx := (1 : Nat) }
theorem e32 (b0 : List Int) (a1 : Int) (a2 : Int) (k3_0 : List Nat) : callG W0 (callW W0) (cutW W0) 32 [A.c (C.ow (0 : Nat) (List.length b0)), inj (Ty.int Go.IntKind.i64) a1, inj (Ty.int Go.IntKind.i64) a2, A.c (C.cl (21 : Nat) [Pt.sh (Ty.sl (Ty.flt Go.FloatKind.f64)) k3_0 (0 : Nat)]), A.ag [C.sl (Ty.int Go.IntKind.i64) b0]] = l32_1 (List.length b0) a1 a2 k3_0 (Go.IntKind.wrap Go.IntKind.i64 (a1 + (1 : Int))) b0 := by kernel_rfl
theorem q32_1 (x0 : Nat) (x1 : Int) (x2 : Int) (x3 : List Nat) (x4 : Int) (x5 : List Int) : cutG W0 (callW W0) (cutW W0) n32 td32_1 { fr := [((0 : Nat), F.a (A.c (C.ow (0 : Nat) x0))), ((1 : Nat), F.a (A.c (C.sc (Go.Value.int Go.IntKind.i64 x1)))), ((2 : Nat), F.a (A.c (C.sc (Go.Value.int Go.IntKind.i64 x2)))), ((3 : Nat), F.a (A.c (C.cl (21 : Nat) [Pt.sh (Ty.sl (Ty.flt Go.FloatKind.f64)) x3 (0 : Nat)]))), ((8 : Nat), F.a (A.c (C.sc (Go.Value.int Go.IntKind.i64 x4))))], mem := [some (Row.arr (3 : Nat) (Ty.int Go.IntKind.i64) x5 false)], nx := (1 : Nat) } = ifs (decide (x4 < x2) = true) (l32_4 x0 x1 x2 x3 x4 x4 x5) (some (injRs [] () ++ injRs [RT.d (Ty.pair Ty.unit (Ty.sl (Ty.int Go.IntKind.i64)))] ((), x5))) := by kernel_rfl
theorem q32_4 (x0 : Nat) (x1 : Int) (x2 : Int) (x3 : List Nat) (x4 : Int) (x5 : Int) (x6 : List Int) : cutG W0 (callW W0) (cutW W0) n32 td32_4 { fr := [((0 : Nat), F.a (A.c (C.ow (0 : Nat) x0))), ((1 : Nat), F.a (A.c (C.sc (Go.Value.int Go.IntKind.i64 x1)))), ((2 : Nat), F.a (A.c (C.sc (Go.Value.int Go.IntKind.i64 x2)))), ((3 : Nat), F.a (A.c (C.cl (21 : Nat) [Pt.sh (Ty.sl (Ty.flt Go.FloatKind.f64)) x3 (0 : Nat)]))), ((8 : Nat), F.a (A.c (C.sc (Go.Value.int Go.IntKind.i64 x4)))), ((9 : Nat), F.a (A.c (C.sc (Go.Value.int Go.IntKind.i64 x5))))], mem := [some (Row.arr (3 : Nat) (Ty.int Go.IntKind.i64) x6 false)], nx := (1 : Nat) } = ifs (decide (x5 > x1) = true) (ifs ((0 : Int) ≤ x5 ∧ x5 < (↑x0 : Int)) (Option.bind x6[Int.toNat x5]? fun r => ifs ((0 : Int) ≤ Go.IntKind.wrap Go.IntKind.i64 (x5 - (1 : Int)) ∧ Go.IntKind.wrap Go.IntKind.i64 (x5 - (1 : Int)) < (↑x0 : Int)) (Option.bind x6[Int.toNat (Go.IntKind.wrap Go.IntKind.i64 (x5 - (1 : Int)))]? fun r_1 => Option.bind (cR (nat_lit 21) [RT.d (Ty.int Go.IntKind.i64)] [inj (Ty.int Go.IntKind.i64) r, inj (Ty.int Go.IntKind.i64) r_1, A.c (C.pt (Pt.sh (Ty.sl (Ty.flt Go.FloatKind.f64)) x3 (0 : Nat)))]) fun r => ifs (decide (r < (0 : Int)) = true) (ifs ((0 : Int) ≤ Go.IntKind.wrap Go.IntKind.i64 (x5 - (1 : Int)) ∧ Go.IntKind.wrap Go.IntKind.i64 (x5 - (1 : Int)) < (↑x0 : Int)) (Option.bind x6[Int.toNat (Go.IntKind.wrap Go.IntKind.i64 (x5 - (1 : Int)))]? fun r => ifs ((0 : Int) ≤ x5 ∧ x5 < (↑x0 : Int)) (Option.bind x6[Int.toNat x5]? fun r_2 => ifs ((0 : Int) ≤ x5 ∧ x5 < (↑x0 : Int)) (Option.bind x6[Int.toNat x5]? fun r_3 => ifs ((0 : Int) ≤ Go.IntKind.wrap Go.IntKind.i64 (x5 - (1 : Int)) ∧ Go.IntKind.wrap Go.IntKind.i64 (x5 - (1 : Int)) < (↑x0 : Int)) (Option.bind (List.set x6 (Int.toNat x5) r)[Int.toNat (Go.IntKind.wrap Go.IntKind.i64 (x5 - (1 : Int)))]? fun r_4 => l32_4 x0 x1 x2 x3 x4 (Go.IntKind.wrap Go.IntKind.i64 (x5 - (1 : Int))) (List.set (List.set x6 (Int.toNat x5) r) (Int.toNat (Go.IntKind.wrap Go.IntKind.i64 (x5 - (1 : Int)))) r_2)) none) none) none) none) (l32_1 x0 x1 x2 x3 (Go.IntKind.wrap Go.IntKind.i64 (x4 + (1 : Int))) x6)) none) none) (l32_1 x0 x1 x2 x3 (Go.IntKind.wrap Go.IntKind.i64 (x4 + (1 : Int))) x6) := by kernel_rfl
noncomputable def td33_3 : List Item := (findT (code Try.f33) [] 3).getD []
noncomputable def l33_3 (x0 : Nat) (x1 : Int) (x2 : List Nat) (x3 : Int) (x4 : Int) (x5 : List Int) : Option (List RV) := cutW W0 n33 td33_3 { fr := [((0 : Nat), F.a (A.c (C.ow (0 : Nat) x0))), ((1 : Nat), F.a (A.c (C.sc (Go.Value.int Go.IntKind.i64 x1)))), ((4 : Nat), F.a (A.c (C.cl (21 : Nat) [Pt.sh (Ty.sl (Ty.flt Go.FloatKind.f64)) x2 (0 : Nat)]))), ((10 : Nat), F.a (A.c (C.sc (Go.Value.int Go.IntKind.i64 x3)))), ((11 : Nat), F.a (A.c (C.sc (Go.Value.int Go.IntKind.i64 x4))))], mem := [some (Row.arr (3 : Nat) (Ty.int Go.IntKind.i64) x5 false)], nx := (1 : Nat) }
noncomputable def td33_15 : List Item := (findT (code Try.f33) [] 15).getD []
noncomputable def l33_15 (x0 : Nat) (x1 : Int) (x2 : List Nat) (x3 : Int) (x4 : Int) (x5 : List Int) : Option (List RV) := cutW W0 n33 td33_15 { fr := [((0 : Nat), F.a (A.c (C.ow (0 : Nat) x0))), ((2 : Nat), F.a (A.c (C.sc (Go.Value.int Go.IntKind.i64 x1)))), ((4 : Nat), F.a (A.c (C.cl (21 : Nat) [Pt.sh (Ty.sl (Ty.flt Go.FloatKind.f64)) x2 (0 : Nat)]))), ((14 : Nat), F.a (A.c (C.sc (Go.Value.int Go.IntKind.i64 x3)))), ((15 : Nat), F.a (A.c (C.sc (Go.Value.int Go.IntKind.i64 x4))))], mem := [some (Row.arr (3 : Nat) (Ty.int Go.IntKind.i64) x5 false)], nx := (1 : Nat) }
noncomputable def td33_33 : List Item := (findT (code Try.f33) [] 33).getD []
noncomputable def l33_33 (x0 : Nat) (x1 : Int) (x2 : Int) (x3 : Int) (x4 : List Nat) (x5 : Int) (x6 : Int) (x7 : Int) (x8 : Int) (x9 : Int) (x10 : List Int) : Option (List RV) := cutW W0 n33 td33_33 { fr := [((0 : Nat), F.a (A.c (C.ow (0 : Nat) x0))), ((1 : Nat), F.a (A.c (C.sc (Go.Value.int Go.IntKind.i64 x1)))), ((2 : Nat), F.a (A.c (C.sc (Go.Value.int Go.IntKind.i64 x2)))), ((3 : Nat), F.a (A.c (C.sc (Go.Value.int Go.IntKind.i64 x3)))), ((4 : Nat), F.a (A.c (C.cl (21 : Nat) [Pt.sh (Ty.sl (Ty.flt Go.FloatKind.f64)) x4 (0 : Nat)]))), ((18 : Nat), F.a (A.c (C.sc (Go.Value.int Go.IntKind.i64 x5)))), ((19 : Nat), F.a (A.c (C.sc (Go.Value.int Go.IntKind.i64 x6)))), ((20 : Nat), F.a (A.c (C.sc (Go.Value.int Go.IntKind.i64 x7)))), ((21 : Nat), F.a (A.c (C.sc (Go.Value.int Go.IntKind.i64 x8)))), ((22 : Nat), F.a (A.c (C.sc (Go.Value.int Go.IntKind.i64 x9))))], mem := [some (Row.arr (3 : Nat) (Ty.int Go.IntKind.i64) x10 false)], nx := (1 : Nat) }
noncomputable def td33_9 : List Item := (findT (code Try.f33) [] 9).getD []
noncomputable def l33_9 (x0 : Nat) (x1 : Int) (x2 : Int) (x3 : List Int) : Option (List RV) := cutW W0 n33 td33_9 { fr := [((0 : Nat), F.a (A.c (C.ow (0 : Nat) x0))), ((10 : Nat), F.a (A.c (C.sc (Go.Value.int Go.IntKind.i64 x1)))), ((13 : Nat), F.a (A.c (C.sc (Go.Value.int Go.IntKind.i64 x2))))], mem := [some (Row.arr (3 : Nat) (Ty.int Go.IntKind.i64) x3 false)], nx := (1 : Nat) }
noncomputable def td33_21 : List Item := (findT (code Try.f33) [] 21).getD []
noncomputable def l33_21 (x0 : Nat) (x1 : Int) (x2 : Int) (x3 : List Int) : Option (List RV) := cutW W0 n33 td33_21 { fr := [((0 : Nat), F.a (A.c (C.ow (0 : Nat) x0))), ((14 : Nat), F.a (A.c (C.sc (Go.Value.int Go.IntKind.i64 x1)))), ((17 : Nat), F.a (A.c (C.sc (Go.Value.int Go.IntKind.i64 x2))))], mem := [some (Row.arr (3 : Nat) (Ty.int Go.IntKind.i64) x3 false)], nx := (1 : Nat) }
theorem e33 (b0 : List Int) (a1 : Int) (a2 : Int) (a3 : Int) (k4_0 : List Nat) : callG W0 (callW W0) (cutW W0) 33 [A.c (C.ow (0 : Nat) (List.length b0)), inj (Ty.int Go.IntKind.i64) a1, inj (Ty.int Go.IntKind.i64) a2, inj (Ty.int Go.IntKind.i64) a3, A.c (C.cl (21 : Nat) [Pt.sh (Ty.sl (Ty.flt Go.FloatKind.f64)) k4_0 (0 : Nat)]), A.ag [C.sl (Ty.int Go.IntKind.i64) b0]] = ifs ((Go.IntKind.wrap Go.IntKind.i64 (a2 - a1) == (1 : Int)) = true) (l33_3 (List.length b0) a1 k4_0 a2 a3 b0) (ifs ((Go.IntKind.wrap Go.IntKind.i64 (a3 - a2) == (1 : Int)) = true) (l33_15 (List.length b0) a2 k4_0 a1 a2 b0) (ifs (decide (a2 > Go.IntKind.wrap Go.IntKind.i64 (Int.fdiv (Go.IntKind.wrap Go.IntKind.u64 (Go.IntKind.wrap Go.IntKind.i64 (a1 + a3))) ((2 : Int) ^ min (Int.toNat (1 : Int)) (Go.IntKind.bits Go.IntKind.u64)))) = true) (l33_33 (List.length b0) a1 a2 a3 k4_0 (Go.IntKind.wrap Go.IntKind.i64 (Int.fdiv (Go.IntKind.wrap Go.IntKind.u64 (Go.IntKind.wrap Go.IntKind.i64 (a1 + a3))) ((2 : Int) ^ min (Int.toNat (1 : Int)) (Go.IntKind.bits Go.IntKind.u64)))) (Go.IntKind.wrap Go.IntKind.i64 (Go.IntKind.wrap Go.IntKind.i64 (Int.fdiv (Go.IntKind.wrap Go.IntKind.u64 (Go.IntKind.wrap Go.IntKind.i64 (a1 + a3))) ((2 : Int) ^ min (Int.toNat (1 : Int)) (Go.IntKind.bits Go.IntKind.u64))) + a2)) (Go.IntKind.wrap Go.IntKind.i64 (Go.IntKind.wrap Go.IntKind.i64 (Go.IntKind.wrap Go.IntKind.i64 (Int.fdiv (Go.IntKind.wrap Go.IntKind.u64 (Go.IntKind.wrap Go.IntKind.i64 (a1 + a3))) ((2 : Int) ^ min (Int.toNat (1 : Int)) (Go.IntKind.bits Go.IntKind.u64))) + a2) - a3)) (Go.IntKind.wrap Go.IntKind.i64 (Int.fdiv (Go.IntKind.wrap Go.IntKind.u64 (Go.IntKind.wrap Go.IntKind.i64 (a1 + a3))) ((2 : Int) ^ min (Int.toNat (1 : Int)) (Go.IntKind.bits Go.IntKind.u64)))) (Go.IntKind.wrap Go.IntKind.i64 (Go.IntKind.wrap Go.IntKind.i64 (Go.IntKind.wrap Go.IntKind.i64 (Int.fdiv (Go.IntKind.wrap Go.IntKind.u64 (Go.IntKind.wrap Go.IntKind.i64 (a1 + a3))) ((2 : Int) ^ min (Int.toNat (1 : Int)) (Go.IntKind.bits Go.IntKind.u64))) + a2) - (1 : Int))) b0) (l33_33 (List.length b0) a1 a2 a3 k4_0 (Go.IntKind.wrap Go.IntKind.i64 (Int.fdiv (Go.IntKind.wrap Go.IntKind.u64 (Go.IntKind.wrap Go.IntKind.i64 (a1 + a3))) ((2 : Int) ^ min (Int.toNat (1 : Int)) (Go.IntKind.bits Go.IntKind.u64)))) (Go.IntKind.wrap Go.IntKind.i64 (Go.IntKind.wrap Go.IntKind.i64 (Int.fdiv (Go.IntKind.wrap Go.IntKind.u64 (Go.IntKind.wrap Go.IntKind.i64 (a1 + a3))) ((2 : Int) ^ min (Int.toNat (1 : Int)) (Go.IntKind.bits Go.IntKind.u64))) + a2)) a1 a2 (Go.IntKind.wrap Go.IntKind.i64 (Go.IntKind.wrap Go.IntKind.i64 (Go.IntKind.wrap Go.IntKind.i64 (Int.fdiv (Go.IntKind.wrap Go.IntKind.u64 (Go.IntKind.wrap Go.IntKind.i64 (a1 + a3))) ((2 : Int) ^ min (Int.toNat (1 : Int)) (Go.IntKind.bits Go.IntKind.u64))) + a2) - (1 : Int))) b0))) := by kernel_rfl
theorem q33_3 (x0 : Nat) (x1 : Int) (x2 : List Nat) (x3 : Int) (x4 : Int) (x5 : List Int) : cutG W0 (callW W0) (cutW W0) n33 td33_3 { fr := [((0 : Nat), F.a (A.c (C.ow (0 : Nat) x0))), ((1 : Nat), F.a (A.c (C.sc (Go.Value.int Go.IntKind.i64 x1)))), ((4 : Nat), F.a (A.c (C.cl (21 : Nat) [Pt.sh (Ty.sl (Ty.flt Go.FloatKind.f64)) x2 (0 : Nat)]))), ((10 : Nat), F.a (A.c (C.sc (Go.Value.int Go.IntKind.i64 x3)))), ((11 : Nat), F.a (A.c (C.sc (Go.Value.int Go.IntKind.i64 x4))))], mem := [some (Row.arr (3 : Nat) (Ty.int Go.IntKind.i64) x5 false)], nx := (1 : Nat) } = ifs (decide (x3 < x4) = true) (ifs ((0 : Int) ≤ Go.IntKind.wrap Go.IntKind.i64 (Int.fdiv (Go.IntKind.wrap Go.IntKind.u64 (Go.IntKind.wrap Go.IntKind.i64 (x3 + x4))) ((2 : Int) ^ min (Int.toNat (1 : Int)) (Go.IntKind.bits Go.IntKind.u64))) ∧ Go.IntKind.wrap Go.IntKind.i64 (Int.fdiv (Go.IntKind.wrap Go.IntKind.u64 (Go.IntKind.wrap Go.IntKind.i64 (x3 + x4))) ((2 : Int) ^ min (Int.toNat (1 : Int)) (Go.IntKind.bits Go.IntKind.u64))) < (↑x0 : Int)) (Option.bind x5[Int.toNat (Go.IntKind.wrap Go.IntKind.i64 (Int.fdiv (Go.IntKind.wrap Go.IntKind.u64 (Go.IntKind.wrap Go.IntKind.i64 (x3 + x4))) ((2 : Int) ^ min (Int.toNat (1 : Int)) (Go.IntKind.bits Go.IntKind.u64))))]? fun r => ifs ((0 : Int) ≤ x1 ∧ x1 < (↑x0 : Int)) (Option.bind x5[Int.toNat x1]? fun r_1 => Option.bind (cR (nat_lit 21) [RT.d (Ty.int Go.IntKind.i64)] [inj (Ty.int Go.IntKind.i64) r, inj (Ty.int Go.IntKind.i64) r_1, A.c (C.pt (Pt.sh (Ty.sl (Ty.flt Go.FloatKind.f64)) x2 (0 : Nat)))]) fun r => ifs (decide (r < (0 : Int)) = true) (l33_3 x0 x1 x2 (Go.IntKind.wrap Go.IntKind.i64 (Go.IntKind.wrap Go.IntKind.i64 (Int.fdiv (Go.IntKind.wrap Go.IntKind.u64 (Go.IntKind.wrap Go.IntKind.i64 (x3 + x4))) ((2 : Int) ^ min (Int.toNat (1 : Int)) (Go.IntKind.bits Go.IntKind.u64))) + (1 : Int))) x4 x5) (l33_3 x0 x1 x2 x3 (Go.IntKind.wrap Go.IntKind.i64 (Int.fdiv (Go.IntKind.wrap Go.IntKind.u64 (Go.IntKind.wrap Go.IntKind.i64 (x3 + x4))) ((2 : Int) ^ min (Int.toNat (1 : Int)) (Go.IntKind.bits Go.IntKind.u64)))) x5)) none) none) (l33_9 x0 x3 x1 x5) := by kernel_rfl
theorem q33_15 (x0 : Nat) (x1 : Int) (x2 : List Nat) (x3 : Int) (x4 : Int) (x5 : List Int) : cutG W0 (callW W0) (cutW W0) n33 td33_15 { fr := [((0 : Nat), F.a (A.c (C.ow (0 : Nat) x0))), ((2 : Nat), F.a (A.c (C.sc (Go.Value.int Go.IntKind.i64 x1)))), ((4 : Nat), F.a (A.c (C.cl (21 : Nat) [Pt.sh (Ty.sl (Ty.flt Go.FloatKind.f64)) x2 (0 : Nat)]))), ((14 : Nat), F.a (A.c (C.sc (Go.Value.int Go.IntKind.i64 x3)))), ((15 : Nat), F.a (A.c (C.sc (Go.Value.int Go.IntKind.i64 x4))))], mem := [some (Row.arr (3 : Nat) (Ty.int Go.IntKind.i64) x5 false)], nx := (1 : Nat) } = ifs (decide (x3 < x4) = true) (ifs ((0 : Int) ≤ x1 ∧ x1 < (↑x0 : Int)) (Option.bind x5[Int.toNat x1]? fun r => ifs ((0 : Int) ≤ Go.IntKind.wrap Go.IntKind.i64 (Int.fdiv (Go.IntKind.wrap Go.IntKind.u64 (Go.IntKind.wrap Go.IntKind.i64 (x3 + x4))) ((2 : Int) ^ min (Int.toNat (1 : Int)) (Go.IntKind.bits Go.IntKind.u64))) ∧ Go.IntKind.wrap Go.IntKind.i64 (Int.fdiv (Go.IntKind.wrap Go.IntKind.u64 (Go.IntKind.wrap Go.IntKind.i64 (x3 + x4))) ((2 : Int) ^ min (Int.toNat (1 : Int)) (Go.IntKind.bits Go.IntKind.u64))) < (↑x0 : Int)) (Option.bind x5[Int.toNat (Go.IntKind.wrap Go.IntKind.i64 (Int.fdiv (Go.IntKind.wrap Go.IntKind.u64 (Go.IntKind.wrap Go.IntKind.i64 (x3 + x4))) ((2 : Int) ^ min (Int.toNat (1 : Int)) (Go.IntKind.bits Go.IntKind.u64))))]? fun r_1 => Option.bind (cR (nat_lit 21) [RT.d (Ty.int Go.IntKind.i64)] [inj (Ty.int Go.IntKind.i64) r, inj (Ty.int Go.IntKind.i64) r_1, A.c (C.pt (Pt.sh (Ty.sl (Ty.flt Go.FloatKind.f64)) x2 (0 : Nat)))]) fun r => ifs ((!decide (r < (0 : Int))) = true) (l33_15 x0 x1 x2 (Go.IntKind.wrap Go.IntKind.i64 (Go.IntKind.wrap Go.IntKind.i64 (Int.fdiv (Go.IntKind.wrap Go.IntKind.u64 (Go.IntKind.wrap Go.IntKind.i64 (x3 + x4))) ((2 : Int) ^ min (Int.toNat (1 : Int)) (Go.IntKind.bits Go.IntKind.u64))) + (1 : Int))) x4 x5) (l33_15 x0 x1 x2 x3 (Go.IntKind.wrap Go.IntKind.i64 (Int.fdiv (Go.IntKind.wrap Go.IntKind.u64 (Go.IntKind.wrap Go.IntKind.i64 (x3 + x4))) ((2 : Int) ^ min (Int.toNat (1 : Int)) (Go.IntKind.bits Go.IntKind.u64)))) x5)) none) none) (l33_21 x0 x3 x1 x5) := by kernel_rfl
theorem q33_33 (x0 : Nat) (x1 : Int) (x2 : Int) (x3 : Int) (x4 : List Nat) (x5 : Int) (x6 : Int) (x7 : Int) (x8 : Int) (x9 : Int) (x10 : List Int) : cutG W0 (callW W0) (cutW W0) n33 td33_33 { fr := [((0 : Nat), F.a (A.c (C.ow (0 : Nat) x0))), ((1 : Nat), F.a (A.c (C.sc (Go.Value.int Go.IntKind.i64 x1)))), ((2 : Nat), F.a (A.c (C.sc (Go.Value.int Go.IntKind.i64 x2)))), ((3 : Nat), F.a (A.c (C.sc (Go.Value.int Go.IntKind.i64 x3)))), ((4 : Nat), F.a (A.c (C.cl (21 : Nat) [Pt.sh (Ty.sl (Ty.flt Go.FloatKind.f64)) x4 (0 : Nat)]))), ((18 : Nat), F.a (A.c (C.sc (Go.Value.int Go.IntKind.i64 x5)))), ((19 : Nat), F.a (A.c (C.sc (Go.Value.int Go.IntKind.i64 x6)))), ((20 : Nat), F.a (A.c (C.sc (Go.Value.int Go.IntKind.i64 x7)))), ((21 : Nat), F.a (A.c (C.sc (Go.Value.int Go.IntKind.i64 x8)))), ((22 : Nat), F.a (A.c (C.sc (Go.Value.int Go.IntKind.i64 x9))))], mem := [some (Row.arr (3 : Nat) (Ty.int Go.IntKind.i64) x10 false)], nx := (1 : Nat) } = ifs (decide (x7 < x8) = true) (ifs ((0 : Int) ≤ Go.IntKind.wrap Go.IntKind.i64 (x9 - Go.IntKind.wrap Go.IntKind.i64 (Int.fdiv (Go.IntKind.wrap Go.IntKind.u64 (Go.IntKind.wrap Go.IntKind.i64 (x7 + x8))) ((2 : Int) ^ min (Int.toNat (1 : Int)) (Go.IntKind.bits Go.IntKind.u64)))) ∧ Go.IntKind.wrap Go.IntKind.i64 (x9 - Go.IntKind.wrap Go.IntKind.i64 (Int.fdiv (Go.IntKind.wrap Go.IntKind.u64 (Go.IntKind.wrap Go.IntKind.i64 (x7 + x8))) ((2 : Int) ^ min (Int.toNat (1 : Int)) (Go.IntKind.bits Go.IntKind.u64)))) < (↑x0 : Int)) (Option.bind x10[Int.toNat (Go.IntKind.wrap Go.IntKind.i64 (x9 - Go.IntKind.wrap Go.IntKind.i64 (Int.fdiv (Go.IntKind.wrap Go.IntKind.u64 (Go.IntKind.wrap Go.IntKind.i64 (x7 + x8))) ((2 : Int) ^ min (Int.toNat (1 : Int)) (Go.IntKind.bits Go.IntKind.u64)))))]? fun r => ifs ((0 : Int) ≤ Go.IntKind.wrap Go.IntKind.i64 (Int.fdiv (Go.IntKind.wrap Go.IntKind.u64 (Go.IntKind.wrap Go.IntKind.i64 (x7 + x8))) ((2 : Int) ^ min (Int.toNat (1 : Int)) (Go.IntKind.bits Go.IntKind.u64))) ∧ Go.IntKind.wrap Go.IntKind.i64 (Int.fdiv (Go.IntKind.wrap Go.IntKind.u64 (Go.IntKind.wrap Go.IntKind.i64 (x7 + x8))) ((2 : Int) ^ min (Int.toNat (1 : Int)) (Go.IntKind.bits Go.IntKind.u64))) < (↑x0 : Int)) (Option.bind x10[Int.toNat (Go.IntKind.wrap Go.IntKind.i64 (Int.fdiv (Go.IntKind.wrap Go.IntKind.u64 (Go.IntKind.wrap Go.IntKind.i64 (x7 + x8))) ((2 : Int) ^ min (Int.toNat (1 : Int)) (Go.IntKind.bits Go.IntKind.u64))))]? fun r_1 => Option.bind (cR (nat_lit 21) [RT.d (Ty.int Go.IntKind.i64)] [inj (Ty.int Go.IntKind.i64) r, inj (Ty.int Go.IntKind.i64) r_1, A.c (C.pt (Pt.sh (Ty.sl (Ty.flt Go.FloatKind.f64)) x4 (0 : Nat)))]) fun r => ifs ((!decide (r < (0 : Int))) = true) (l33_33 x0 x1 x2 x3 x4 x5 x6 (Go.IntKind.wrap Go.IntKind.i64 (Go.IntKind.wrap Go.IntKind.i64 (Int.fdiv (Go.IntKind.wrap Go.IntKind.u64 (Go.IntKind.wrap Go.IntKind.i64 (x7 + x8))) ((2 : Int) ^ min (Int.toNat (1 : Int)) (Go.IntKind.bits Go.IntKind.u64))) + (1 : Int))) x8 x9 x10) (l33_33 x0 x1 x2 x3 x4 x5 x6 x7 (Go.IntKind.wrap Go.IntKind.i64 (Int.fdiv (Go.IntKind.wrap Go.IntKind.u64 (Go.IntKind.wrap Go.IntKind.i64 (x7 + x8))) ((2 : Int) ^ min (Int.toNat (1 : Int)) (Go.IntKind.bits Go.IntKind.u64)))) x9 x10)) none) none) (ifs (decide (x7 < x2) = true) (ifs (decide (x2 < Go.IntKind.wrap Go.IntKind.i64 (x6 - x7)) = true) (Option.bind (cR2 (nat_lit 35) [] [Ty.pair Ty.unit (Ty.sl (Ty.int Go.IntKind.i64))] [A.c (C.ow (0 : Nat) x0), inj (Ty.int Go.IntKind.i64) x7, inj (Ty.int Go.IntKind.i64) x2, inj (Ty.int Go.IntKind.i64) (Go.IntKind.wrap Go.IntKind.i64 (x6 - x7)), A.c (C.cl (21 : Nat) [Pt.sh (Ty.sl (Ty.flt Go.FloatKind.f64)) x4 (0 : Nat)]), inj (Ty.pair Ty.unit (Ty.sl (Ty.int Go.IntKind.i64))) ((), x10)]) fun r => ifs (decide (x1 < x7) = true) (ifs (decide (x7 < x5) = true) (Option.bind (cR2 (nat_lit 33) [] [Ty.pair Ty.unit (Ty.sl (Ty.int Go.IntKind.i64))] [A.c (C.ow (0 : Nat) x0), inj (Ty.int Go.IntKind.i64) x1, inj (Ty.int Go.IntKind.i64) x7, inj (Ty.int Go.IntKind.i64) x5, A.c (C.cl (21 : Nat) [Pt.sh (Ty.sl (Ty.flt Go.FloatKind.f64)) x4 (0 : Nat)]), inj (Ty.pair Ty.unit (Ty.sl (Ty.int Go.IntKind.i64))) ((), r.snd.snd)]) fun r => ifs (decide (x5 < Go.IntKind.wrap Go.IntKind.i64 (x6 - x7)) = true) (ifs (decide (Go.IntKind.wrap Go.IntKind.i64 (x6 - x7) < x3) = true) (Option.bind (cR2 (nat_lit 33) [] [Ty.pair Ty.unit (Ty.sl (Ty.int Go.IntKind.i64))] [A.c (C.ow (0 : Nat) x0), inj (Ty.int Go.IntKind.i64) x5, inj (Ty.int Go.IntKind.i64) (Go.IntKind.wrap Go.IntKind.i64 (x6 - x7)), inj (Ty.int Go.IntKind.i64) x3, A.c (C.cl (21 : Nat) [Pt.sh (Ty.sl (Ty.flt Go.FloatKind.f64)) x4 (0 : Nat)]), inj (Ty.pair Ty.unit (Ty.sl (Ty.int Go.IntKind.i64))) ((), r.snd.snd)]) fun r => some (injRs [] () ++ injRs [RT.d (Ty.pair Ty.unit (Ty.sl (Ty.int Go.IntKind.i64)))] ((), r.snd.snd))) (some (injRs [] () ++ injRs [RT.d (Ty.pair Ty.unit (Ty.sl (Ty.int Go.IntKind.i64)))] ((), r.snd.snd)))) (some (injRs [] () ++ injRs [RT.d (Ty.pair Ty.unit (Ty.sl (Ty.int Go.IntKind.i64)))] ((), r.snd.snd)))) (ifs (decide (x5 < Go.IntKind.wrap Go.IntKind.i64 (x6 - x7)) = true) (ifs (decide (Go.IntKind.wrap Go.IntKind.i64 (x6 - x7) < x3) = true) (Option.bind (cR2 (nat_lit 33) [] [Ty.pair Ty.unit (Ty.sl (Ty.int Go.IntKind.i64))] [A.c (C.ow (0 : Nat) x0), inj (Ty.int Go.IntKind.i64) x5, inj (Ty.int Go.IntKind.i64) (Go.IntKind.wrap Go.IntKind.i64 (x6 - x7)), inj (Ty.int Go.IntKind.i64) x3, A.c (C.cl (21 : Nat) [Pt.sh (Ty.sl (Ty.flt Go.FloatKind.f64)) x4 (0 : Nat)]), inj (Ty.pair Ty.unit (Ty.sl (Ty.int Go.IntKind.i64))) ((), r.snd.snd)]) fun r => some (injRs [] () ++ injRs [RT.d (Ty.pair Ty.unit (Ty.sl (Ty.int Go.IntKind.i64)))] ((), r.snd.snd))) (some (injRs [] () ++ injRs [RT.d (Ty.pair Ty.unit (Ty.sl (Ty.int Go.IntKind.i64)))] ((), r.snd.snd)))) (some (injRs [] () ++ injRs [RT.d (Ty.pair Ty.unit (Ty.sl (Ty.int Go.IntKind.i64)))] ((), r.snd.snd))))) (ifs (decide (x5 < Go.IntKind.wrap Go.IntKind.i64 (x6 - x7)) = true) (ifs (decide (Go.IntKind.wrap Go.IntKind.i64 (x6 - x7) < x3) = true) (Option.bind (cR2 (nat_lit 33) [] [Ty.pair Ty.unit (Ty.sl (Ty.int Go.IntKind.i64))] [A.c (C.ow (0 : Nat) x0), inj (Ty.int Go.IntKind.i64) x5, inj (Ty.int Go.IntKind.i64) (Go.IntKind.wrap Go.IntKind.i64 (x6 - x7)), inj (Ty.int Go.IntKind.i64) x3, A.c (C.cl (21 : Nat) [Pt.sh (Ty.sl (Ty.flt Go.FloatKind.f64)) x4 (0 : Nat)]), inj (Ty.pair Ty.unit (Ty.sl (Ty.int Go.IntKind.i64))) ((), r.snd.snd)]) fun r => some (injRs [] () ++ injRs [RT.d (Ty.pair Ty.unit (Ty.sl (Ty.int Go.IntKind.i64)))] ((), r.snd.snd))) (some (injRs [] () ++ injRs [RT.d (Ty.pair Ty.unit (Ty.sl (Ty.int Go.IntKind.i64)))] ((), r.snd.snd)))) (some (injRs [] () ++ injRs [RT.d (Ty.pair Ty.unit (Ty.sl (Ty.int Go.IntKind.i64)))] ((), r.snd.snd))))) (ifs (decide (x1 < x7) = true) (ifs (decide (x7 < x5) = true) (Option.bind (cR2 (nat_lit 33) [] [Ty.pair Ty.unit (Ty.sl (Ty.int Go.IntKind.i64))] [A.c (C.ow (0 : Nat) x0), inj (Ty.int Go.IntKind.i64) x1, inj (Ty.int Go.IntKind.i64) x7, inj (Ty.int Go.IntKind.i64) x5, A.c (C.cl (21 : Nat) [Pt.sh (Ty.sl (Ty.flt Go.FloatKind.f64)) x4 (0 : Nat)]), inj (Ty.pair Ty.unit (Ty.sl (Ty.int Go.IntKind.i64))) ((), x10)]) fun r => ifs (decide (x5 < Go.IntKind.wrap Go.IntKind.i64 (x6 - x7)) = true) (ifs (decide (Go.IntKind.wrap Go.IntKind.i64 (x6 - x7) < x3) = true) (Option.bind (cR2 (nat_lit 33) [] [Ty.pair Ty.unit (Ty.sl (Ty.int Go.IntKind.i64))] [A.c (C.ow (0 : Nat) x0), inj (Ty.int Go.IntKind.i64) x5, inj (Ty.int Go.IntKind.i64) (Go.IntKind.wrap Go.IntKind.i64 (x6 - x7)), inj (Ty.int Go.IntKind.i64) x3, A.c (C.cl (21 : Nat) [Pt.sh (Ty.sl (Ty.flt Go.FloatKind.f64)) x4 (0 : Nat)]), inj (Ty.pair Ty.unit (Ty.sl (Ty.int Go.IntKind.i64))) ((), r.snd.snd)]) fun r => some (injRs [] () ++ injRs [RT.d (Ty.pair Ty.unit (Ty.sl (Ty.int Go.IntKind.i64)))] ((), r.snd.snd))) (some (injRs [] () ++ injRs [RT.d (Ty.pair Ty.unit (Ty.sl (Ty.int Go.IntKind.i64)))] ((), r.snd.snd)))) (some (injRs [] () ++ injRs [RT.d (Ty.pair Ty.unit (Ty.sl (Ty.int Go.IntKind.i64)))] ((), r.snd.snd)))) (ifs (decide (x5 < Go.IntKind.wrap Go.IntKind.i64 (x6 - x7)) = true) (ifs (decide (Go.IntKind.wrap Go.IntKind.i64 (x6 - x7) < x3) = true) (Option.bind (cR2 (nat_lit 33) [] [Ty.pair Ty.unit (Ty.sl (Ty.int Go.IntKind.i64))] [A.c (C.ow (0 : Nat) x0), inj (Ty.int Go.IntKind.i64) x5, inj (Ty.int Go.IntKind.i64) (Go.IntKind.wrap Go.IntKind.i64 (x6 - x7)), inj (Ty.int Go.IntKind.i64) x3, A.c (C.cl (21 : Nat) [Pt.sh (Ty.sl (Ty.flt Go.FloatKind.f64)) x4 (0 : Nat)]), inj (Ty.pair Ty.unit (Ty.sl (Ty.int Go.IntKind.i64))) ((), x10)]) fun r => some (injRs [] () ++ injRs [RT.d (Ty.pair Ty.unit (Ty.sl (Ty.int Go.IntKind.i64)))] ((), r.snd.snd))) (some (injRs [] () ++ injRs [RT.d (Ty.pair Ty.unit (Ty.sl (Ty.int Go.IntKind.i64)))] ((), x10)))) (some (injRs [] () ++ injRs [RT.d (Ty.pair Ty.unit (Ty.sl (Ty.int Go.IntKind.i64)))] ((), x10))))) (ifs (decide (x5 < Go.IntKind.wrap Go.IntKind.i64 (x6 - x7)) = true) (ifs (decide (Go.IntKind.wrap Go.IntKind.i64 (x6 - x7) < x3) = true) (Option.bind (cR2 (nat_lit 33) [] [Ty.pair Ty.unit (Ty.sl (Ty.int Go.IntKind.i64))] [A.c (C.ow (0 : Nat) x0), inj (Ty.int Go.IntKind.i64) x5, inj (Ty.int Go.IntKind.i64) (Go.IntKind.wrap Go.IntKind.i64 (x6 - x7)), inj (Ty.int Go.IntKind.i64) x3, A.c (C.cl (21 : Nat) [Pt.sh (Ty.sl (Ty.flt Go.FloatKind.f64)) x4 (0 : Nat)]), inj (Ty.pair Ty.unit (Ty.sl (Ty.int Go.IntKind.i64))) ((), x10)]) fun r => some (injRs [] () ++ injRs [RT.d (Ty.pair Ty.unit (Ty.sl (Ty.int Go.IntKind.i64)))] ((), r.snd.snd))) (some (injRs [] () ++ injRs [RT.d (Ty.pair Ty.unit (Ty.sl (Ty.int Go.IntKind.i64)))] ((), x10)))) (some (injRs [] () ++ injRs [RT.d (Ty.pair Ty.unit (Ty.sl (Ty.int Go.IntKind.i64)))] ((), x10)))))) (ifs (decide (x1 < x7) = true) (ifs (decide (x7 < x5) = true) (Option.bind (cR2 (nat_lit 33) [] [Ty.pair Ty.unit (Ty.sl (Ty.int Go.IntKind.i64))] [A.c (C.ow (0 : Nat) x0), inj (Ty.int Go.IntKind.i64) x1, inj (Ty.int Go.IntKind.i64) x7, inj (Ty.int Go.IntKind.i64) x5, A.c (C.cl (21 : Nat) [Pt.sh (Ty.sl (Ty.flt Go.FloatKind.f64)) x4 (0 : Nat)]), inj (Ty.pair Ty.unit (Ty.sl (Ty.int Go.IntKind.i64))) ((), x10)]) fun r => ifs (decide (x5 < Go.IntKind.wrap Go.IntKind.i64 (x6 - x7)) = true) (ifs (decide (Go.IntKind.wrap Go.IntKind.i64 (x6 - x7) < x3) = true) (Option.bind (cR2 (nat_lit 33) [] [Ty.pair Ty.unit (Ty.sl (Ty.int Go.IntKind.i64))] [A.c (C.ow (0 : Nat) x0), inj (Ty.int Go.IntKind.i64) x5, inj (Ty.int Go.IntKind.i64) (Go.IntKind.wrap Go.IntKind.i64 (x6 - x7)), inj (Ty.int Go.IntKind.i64) x3, A.c (C.cl (21 : Nat) [Pt.sh (Ty.sl (Ty.flt Go.FloatKind.f64)) x4 (0 : Nat)]), inj (Ty.pair Ty.unit (Ty.sl (Ty.int Go.IntKind.i64))) ((), r.snd.snd)]) fun r => some (injRs [] () ++ injRs [RT.d (Ty.pair Ty.unit (Ty.sl (Ty.int Go.IntKind.i64)))] ((), r.snd.snd))) (some (injRs [] () ++ injRs [RT.d (Ty.pair Ty.unit (Ty.sl (Ty.int Go.IntKind.i64)))] ((), r.snd.snd)))) (some (injRs [] () ++ injRs [RT.d (Ty.pair Ty.unit (Ty.sl (Ty.int Go.IntKind.i64)))] ((), r.snd.snd)))) (ifs (decide (x5 < Go.IntKind.wrap Go.IntKind.i64 (x6 - x7)) = true) (ifs (decide (Go.IntKind.wrap Go.IntKind.i64 (x6 - x7) < x3) = true) (Option.bind (cR2 (nat_lit 33) [] [Ty.pair Ty.unit (Ty.sl (Ty.int Go.IntKind.i64))] [A.c (C.ow (0 : Nat) x0), inj (Ty.int Go.IntKind.i64) x5, inj (Ty.int Go.IntKind.i64) (Go.IntKind.wrap Go.IntKind.i64 (x6 - x7)), inj (Ty.int Go.IntKind.i64) x3, A.c (C.cl (21 : Nat) [Pt.sh (Ty.sl (Ty.flt Go.FloatKind.f64)) x4 (0 : Nat)]), inj (Ty.pair Ty.unit (Ty.sl (Ty.int Go.IntKind.i64))) ((), x10)]) fun r => some (injRs [] () ++ injRs [RT.d (Ty.pair Ty.unit (Ty.sl (Ty.int Go.IntKind.i64)))] ((), r.snd.snd))) (some (injRs [] () ++ injRs [RT.d (Ty.pair Ty.unit (Ty.sl (Ty.int Go.IntKind.i64)))] ((), x10)))) (some (injRs [] () ++ injRs [RT.d (Ty.pair Ty.unit (Ty.sl (Ty.int Go.IntKind.i64)))] ((), x10))))) (ifs (decide (x5 < Go.IntKind.wrap Go.IntKind.i64 (x6 - x7)) = true) (ifs (decide (Go.IntKind.wrap Go.IntKind.i64 (x6 - x7) < x3) = true) (Option.bind (cR2 (nat_lit 33) [] [Ty.pair Ty.unit (Ty.sl (Ty.int Go.IntKind.i64))] [A.c (C.ow (0 : Nat) x0), inj (Ty.int Go.IntKind.i64) x5, inj (Ty.int Go.IntKind.i64) (Go.IntKind.wrap Go.IntKind.i64 (x6 - x7)), inj (Ty.int Go.IntKind.i64) x3, A.c (C.cl (21 : Nat) [Pt.sh (Ty.sl (Ty.flt Go.FloatKind.f64)) x4 (0 : Nat)]), inj (Ty.pair Ty.unit (Ty.sl (Ty.int Go.IntKind.i64))) ((), x10)]) fun r => some (injRs [] () ++ injRs [RT.d (Ty.pair Ty.unit (Ty.sl (Ty.int Go.IntKind.i64)))] ((), r.snd.snd))) (some (injRs [] () ++ injRs [RT.d (Ty.pair Ty.unit (Ty.sl (Ty.int Go.IntKind.i64)))] ((), x10)))) (some (injRs [] () ++ injRs [RT.d (Ty.pair Ty.unit (Ty.sl (Ty.int Go.IntKind.i64)))] ((), x10)))))) := by kernel_rfl
theorem q33_9 (x0 : Nat) (x1 : Int) (x2 : Int) (x3 : List Int) : cutG W0 (callW W0) (cutW W0) n33 td33_9 { fr := [((0 : Nat), F.a (A.c (C.ow (0 : Nat) x0))), ((10 : Nat), F.a (A.c (C.sc (Go.Value.int Go.IntKind.i64 x1)))), ((13 : Nat), F.a (A.c (C.sc (Go.Value.int Go.IntKind.i64 x2))))], mem := [some (Row.arr (3 : Nat) (Ty.int Go.IntKind.i64) x3 false)], nx := (1 : Nat) } = ifs (decide (x2 < Go.IntKind.wrap Go.IntKind.i64 (x1 - (1 : Int))) = true) (ifs ((0 : Int) ≤ Go.IntKind.wrap Go.IntKind.i64 (x2 + (1 : Int)) ∧ Go.IntKind.wrap Go.IntKind.i64 (x2 + (1 : Int)) < (↑x0 : Int)) (Option.bind x3[Int.toNat (Go.IntKind.wrap Go.IntKind.i64 (x2 + (1 : Int)))]? fun r => ifs ((0 : Int) ≤ x2 ∧ x2 < (↑x0 : Int)) (Option.bind x3[Int.toNat x2]? fun r_1 => ifs ((0 : Int) ≤ x2 ∧ x2 < (↑x0 : Int)) (Option.bind x3[Int.toNat x2]? fun r_2 => ifs ((0 : Int) ≤ Go.IntKind.wrap Go.IntKind.i64 (x2 + (1 : Int)) ∧ Go.IntKind.wrap Go.IntKind.i64 (x2 + (1 : Int)) < (↑x0 : Int)) (Option.bind (List.set x3 (Int.toNat x2) r)[Int.toNat (Go.IntKind.wrap Go.IntKind.i64 (x2 + (1 : Int)))]? fun r_3 => l33_9 x0 x1 (Go.IntKind.wrap Go.IntKind.i64 (x2 + (1 : Int))) (List.set (List.set x3 (Int.toNat x2) r) (Int.toNat (Go.IntKind.wrap Go.IntKind.i64 (x2 + (1 : Int)))) r_1)) none) none) none) none) (some (injRs [] () ++ injRs [RT.d (Ty.pair Ty.unit (Ty.sl (Ty.int Go.IntKind.i64)))] ((), x3))) := by kernel_rfl
theorem q33_21 (x0 : Nat) (x1 : Int) (x2 : Int) (x3 : List Int) : cutG W0 (callW W0) (cutW W0) n33 td33_21 { fr := [((0 : Nat), F.a (A.c (C.ow (0 : Nat) x0))), ((14 : Nat), F.a (A.c (C.sc (Go.Value.int Go.IntKind.i64 x1)))), ((17 : Nat), F.a (A.c (C.sc (Go.Value.int Go.IntKind.i64 x2))))], mem := [some (Row.arr (3 : Nat) (Ty.int Go.IntKind.i64) x3 false)], nx := (1 : Nat) } = ifs (decide (x2 > x1) = true) (ifs ((0 : Int) ≤ Go.IntKind.wrap Go.IntKind.i64 (x2 - (1 : Int)) ∧ Go.IntKind.wrap Go.IntKind.i64 (x2 - (1 : Int)) < (↑x0 : Int)) (Option.bind x3[Int.toNat (Go.IntKind.wrap Go.IntKind.i64 (x2 - (1 : Int)))]? fun r => ifs ((0 : Int) ≤ x2 ∧ x2 < (↑x0 : Int)) (Option.bind x3[Int.toNat x2]? fun r_1 => ifs ((0 : Int) ≤ x2 ∧ x2 < (↑x0 : Int)) (Option.bind x3[Int.toNat x2]? fun r_2 => ifs ((0 : Int) ≤ Go.IntKind.wrap Go.IntKind.i64 (x2 - (1 : Int)) ∧ Go.IntKind.wrap Go.IntKind.i64 (x2 - (1 : Int)) < (↑x0 : Int)) (Option.bind (List.set x3 (Int.toNat x2) r)[Int.toNat (Go.IntKind.wrap Go.IntKind.i64 (x2 - (1 : Int)))]? fun r_3 => l33_21 x0 x1 (Go.IntKind.wrap Go.IntKind.i64 (x2 - (1 : Int))) (List.set (List.set x3 (Int.toNat x2) r) (Int.toNat (Go.IntKind.wrap Go.IntKind.i64 (x2 - (1 : Int)))) r_1)) none) none) none) none) (some (injRs [] () ++ injRs [RT.d (Ty.pair Ty.unit (Ty.sl (Ty.int Go.IntKind.i64)))] ((), x3))) := by kernel_rfl
noncomputable def td28_2 : List Item := (findT (code Try.f28) [] 2).getD []
noncomputable def l28_2 (x0 : Nat) (x1 : Int) (x2 : List Nat) (x3 : Int) (x4 : Int) (x5 : Int) (x6 : List Int) : Option (List RV) := cutW W0 n28 td28_2 { fr := [((0 : Nat), F.a (A.c (C.ow (0 : Nat) x0))), ((1 : Nat), F.a (A.c (C.sc (Go.Value.int Go.IntKind.i64 x1)))), ((2 : Nat), F.a (A.c (C.cl (21 : Nat) [Pt.sh (Ty.sl (Ty.flt Go.FloatKind.f64)) x2 (0 : Nat)]))), ((6 : Nat), F.a (A.c (C.sc (Go.Value.int Go.IntKind.i64 x3)))), ((7 : Nat), F.a (A.c (C.sc (Go.Value.int Go.IntKind.i64 x4)))), ((8 : Nat), F.a (A.c (C.sc (Go.Value.int Go.IntKind.i64 x5))))], mem := [some (Row.arr (3 : Nat) (Ty.int Go.IntKind.i64) x6 false)], nx := (1 : Nat) }
noncomputable def td28_7 : List Item := (findT (code Try.f28) [] 7).getD []
noncomputable def l28_7 (x0 : Nat) (x1 : Int) (x2 : List Nat) (x3 : Int) (x4 : List Int) : Option (List RV) := cutW W0 n28 td28_7 { fr := [((0 : Nat), F.a (A.c (C.ow (0 : Nat) x0))), ((1 : Nat), F.a (A.c (C.sc (Go.Value.int Go.IntKind.i64 x1)))), ((2 : Nat), F.a (A.c (C.cl (21 : Nat) [Pt.sh (Ty.sl (Ty.flt Go.FloatKind.f64)) x2 (0 : Nat)]))), ((6 : Nat), F.a (A.c (C.sc (Go.Value.int Go.IntKind.i64 x3))))], mem := [some (Row.arr (3 : Nat) (Ty.int Go.IntKind.i64) x4 false)], nx := (1 : Nat) }
noncomputable def td28_9 : List Item := (findT (code Try.f28) [] 9).getD []
noncomputable def l28_9 (x0 : Nat) (x1 : Int) (x2 : List Nat) (x3 : Int) (x4 : Int) (x5 : Int) (x6 : List Int) : Option (List RV) := cutW W0 n28 td28_9 { fr := [((0 : Nat), F.a (A.c (C.ow (0 : Nat) x0))), ((1 : Nat), F.a (A.c (C.sc (Go.Value.int Go.IntKind.i64 x1)))), ((2 : Nat), F.a (A.c (C.cl (21 : Nat) [Pt.sh (Ty.sl (Ty.flt Go.FloatKind.f64)) x2 (0 : Nat)]))), ((6 : Nat), F.a (A.c (C.sc (Go.Value.int Go.IntKind.i64 x3)))), ((7 : Nat), F.a (A.c (C.sc (Go.Value.int Go.IntKind.i64 x4)))), ((8 : Nat), F.a (A.c (C.sc (Go.Value.int Go.IntKind.i64 x5))))], mem := [some (Row.arr (3 : Nat) (Ty.int Go.IntKind.i64) x6 false)], nx := (1 : Nat) }
theorem e28 (b0 : List Int) (a1 : Int) (k2_0 : List Nat) : callG W0 (callW W0) (cutW W0) 28 [A.c (C.ow (0 : Nat) (List.length b0)), inj (Ty.int Go.IntKind.i64) a1, A.c (C.cl (21 : Nat) [Pt.sh (Ty.sl (Ty.flt Go.FloatKind.f64)) k2_0 (0 : Nat)]), A.ag [C.sl (Ty.int Go.IntKind.i64) b0]] = l28_2 (List.length b0) a1 k2_0 (20 : Int) (0 : Int) (20 : Int) b0 := by kernel_rfl
theorem q28_2 (x0 : Nat) (x1 : Int) (x2 : List Nat) (x3 : Int) (x4 : Int) (x5 : Int) (x6 : List Int) : cutG W0 (callW W0) (cutW W0) n28 td28_2 { fr := [((0 : Nat), F.a (A.c (C.ow (0 : Nat) x0))), ((1 : Nat), F.a (A.c (C.sc (Go.Value.int Go.IntKind.i64 x1)))), ((2 : Nat), F.a (A.c (C.cl (21 : Nat) [Pt.sh (Ty.sl (Ty.flt Go.FloatKind.f64)) x2 (0 : Nat)]))), ((6 : Nat), F.a (A.c (C.sc (Go.Value.int Go.IntKind.i64 x3)))), ((7 : Nat), F.a (A.c (C.sc (Go.Value.int Go.IntKind.i64 x4)))), ((8 : Nat), F.a (A.c (C.sc (Go.Value.int Go.IntKind.i64 x5))))], mem := [some (Row.arr (3 : Nat) (Ty.int Go.IntKind.i64) x6 false)], nx := (1 : Nat) } = ifs (decide (x5 ≤ x1) = true) (Option.bind (cR2 (nat_lit 32) [] [Ty.pair Ty.unit (Ty.sl (Ty.int Go.IntKind.i64))] [A.c (C.ow (0 : Nat) x0), inj (Ty.int Go.IntKind.i64) x4, inj (Ty.int Go.IntKind.i64) x5, A.c (C.cl (21 : Nat) [Pt.sh (Ty.sl (Ty.flt Go.FloatKind.f64)) x2 (0 : Nat)]), inj (Ty.pair Ty.unit (Ty.sl (Ty.int Go.IntKind.i64))) ((), x6)]) fun r => l28_2 x0 x1 x2 x3 x5 (Go.IntKind.wrap Go.IntKind.i64 (x5 + x3)) r.snd.snd) (Option.bind (cR2 (nat_lit 32) [] [Ty.pair Ty.unit (Ty.sl (Ty.int Go.IntKind.i64))] [A.c (C.ow (0 : Nat) x0), inj (Ty.int Go.IntKind.i64) x4, inj (Ty.int Go.IntKind.i64) x1, A.c (C.cl (21 : Nat) [Pt.sh (Ty.sl (Ty.flt Go.FloatKind.f64)) x2 (0 : Nat)]), inj (Ty.pair Ty.unit (Ty.sl (Ty.int Go.IntKind.i64))) ((), x6)]) fun r => l28_7 x0 x1 x2 x3 r.snd.snd) := by kernel_rfl
theorem q28_7 (x0 : Nat) (x1 : Int) (x2 : List Nat) (x3 : Int) (x4 : List Int) : cutG W0 (callW W0) (cutW W0) n28 td28_7 { fr := [((0 : Nat), F.a (A.c (C.ow (0 : Nat) x0))), ((1 : Nat), F.a (A.c (C.sc (Go.Value.int Go.IntKind.i64 x1)))), ((2 : Nat), F.a (A.c (C.cl (21 : Nat) [Pt.sh (Ty.sl (Ty.flt Go.FloatKind.f64)) x2 (0 : Nat)]))), ((6 : Nat), F.a (A.c (C.sc (Go.Value.int Go.IntKind.i64 x3))))], mem := [some (Row.arr (3 : Nat) (Ty.int Go.IntKind.i64) x4 false)], nx := (1 : Nat) } = ifs (decide (x3 < x1) = true) (l28_9 x0 x1 x2 x3 (0 : Int) (Go.IntKind.wrap Go.IntKind.i64 ((2 : Int) * x3)) x4) (some (injRs [] () ++ injRs [RT.d (Ty.pair Ty.unit (Ty.sl (Ty.int Go.IntKind.i64)))] ((), x4))) := by kernel_rfl
theorem q28_9 (x0 : Nat) (x1 : Int) (x2 : List Nat) (x3 : Int) (x4 : Int) (x5 : Int) (x6 : List Int) : cutG W0 (callW W0) (cutW W0) n28 td28_9 { fr := [((0 : Nat), F.a (A.c (C.ow (0 : Nat) x0))), ((1 : Nat), F.a (A.c (C.sc (Go.Value.int Go.IntKind.i64 x1)))), ((2 : Nat), F.a (A.c (C.cl (21 : Nat) [Pt.sh (Ty.sl (Ty.flt Go.FloatKind.f64)) x2 (0 : Nat)]))), ((6 : Nat), F.a (A.c (C.sc (Go.Value.int Go.IntKind.i64 x3)))), ((7 : Nat), F.a (A.c (C.sc (Go.Value.int Go.IntKind.i64 x4)))), ((8 : Nat), F.a (A.c (C.sc (Go.Value.int Go.IntKind.i64 x5))))], mem := [some (Row.arr (3 : Nat) (Ty.int Go.IntKind.i64) x6 false)], nx := (1 : Nat) } = ifs (decide (x5 ≤ x1) = true) (Option.bind (cR2 (nat_lit 33) [] [Ty.pair Ty.unit (Ty.sl (Ty.int Go.IntKind.i64))] [A.c (C.ow (0 : Nat) x0), inj (Ty.int Go.IntKind.i64) x4, inj (Ty.int Go.IntKind.i64) (Go.IntKind.wrap Go.IntKind.i64 (x4 + x3)), inj (Ty.int Go.IntKind.i64) x5, A.c (C.cl (21 : Nat) [Pt.sh (Ty.sl (Ty.flt Go.FloatKind.f64)) x2 (0 : Nat)]), inj (Ty.pair Ty.unit (Ty.sl (Ty.int Go.IntKind.i64))) ((), x6)]) fun r => l28_9 x0 x1 x2 x3 x5 (Go.IntKind.wrap Go.IntKind.i64 (x5 + Go.IntKind.wrap Go.IntKind.i64 ((2 : Int) * x3))) r.snd.snd) (ifs (decide (Go.IntKind.wrap Go.IntKind.i64 (x4 + x3) < x1) = true) (Option.bind (cR2 (nat_lit 33) [] [Ty.pair Ty.unit (Ty.sl (Ty.int Go.IntKind.i64))] [A.c (C.ow (0 : Nat) x0), inj (Ty.int Go.IntKind.i64) x4, inj (Ty.int Go.IntKind.i64) (Go.IntKind.wrap Go.IntKind.i64 (x4 + x3)), inj (Ty.int Go.IntKind.i64) x1, A.c (C.cl (21 : Nat) [Pt.sh (Ty.sl (Ty.flt Go.FloatKind.f64)) x2 (0 : Nat)]), inj (Ty.pair Ty.unit (Ty.sl (Ty.int Go.IntKind.i64))) ((), x6)]) fun r => l28_7 x0 x1 x2 (Go.IntKind.wrap Go.IntKind.i64 (x3 * (2 : Int))) r.snd.snd) (l28_7 x0 x1 x2 (Go.IntKind.wrap Go.IntKind.i64 (x3 * (2 : Int))) x6)) := by kernel_rfl
theorem e20 (b0 : List Int) (k1_0 : List Nat) : callG W0 (callW W0) (cutW W0) 20 [A.c (C.ow (0 : Nat) (List.length b0)), A.c (C.cl (21 : Nat) [Pt.sh (Ty.sl (Ty.flt Go.FloatKind.f64)) k1_0 (0 : Nat)]), A.ag [C.sl (Ty.int Go.IntKind.i64) b0]] = Option.bind (cR2 (nat_lit 28) [] [Ty.pair Ty.unit (Ty.sl (Ty.int Go.IntKind.i64))] [A.c (C.ow (0 : Nat) (List.length b0)), inj (Ty.int Go.IntKind.i64) (↑(List.length b0) : Int), A.c (C.cl (21 : Nat) [Pt.sh (Ty.sl (Ty.flt Go.FloatKind.f64)) k1_0 (0 : Nat)]), inj (Ty.pair Ty.unit (Ty.sl (Ty.int Go.IntKind.i64))) ((), b0)]) fun r => some (injRs [] () ++ injRs [RT.d (Ty.pair Ty.unit (Ty.sl (Ty.int Go.IntKind.i64)))] ((), r.snd.snd)) := by kernel_rfl
noncomputable def td11_3 : List Item := (findT (code Try.f11) [] 3).getD []
noncomputable def l11_3 (x0 : Nat) (x1 : Int) (x2 : Int) (x3 : List Nat) (x4 : List Int) : Option (List RV) := cutW W0 n11 td11_3 { fr := [((1 : Nat), F.a (A.c (C.pt (Pt.own (0 : Nat) (0 : Nat) (0 : Nat))))), ((3 : Nat), F.a (A.c (C.ow (1 : Nat) x0))), ((9 : Nat), F.a (A.c (C.sc (Go.Value.int Go.IntKind.i64 x1)))), ((10 : Nat), F.a (A.c (C.sc (Go.Value.int Go.IntKind.i64 x2))))], mem := [some (Row.box (31 : Nat) (some (Ty.sl (Ty.flt Go.FloatKind.f64))) [C.sl (Ty.flt Go.FloatKind.f64) x3] false), some (Row.arr (3 : Nat) (Ty.int Go.IntKind.i64) x4 false)], nx := (2 : Nat) }
theorem e11 (a0 : List Nat) : callG W0 (callW W0) (cutW W0) 11 [inj (Ty.sl (Ty.flt Go.FloatKind.f64)) a0] = ifs ((0 : Int) ≤ (↑(List.length a0) : Int) ∧ (↑(List.length a0) : Int) ≤ (↑(List.length a0) : Int) ∧ (↑(List.length a0) : Int) * (↑(nat_lit 8) : Int) ≤ (140737488355328 : Int)) (l11_3 (List.length (List.replicate (Int.toNat (↑(List.length a0) : Int)) (0 : Int))) (↑(List.length (List.replicate (Int.toNat (↑(List.length a0) : Int)) (0 : Int))) : Int) (0 : Int) a0 (List.replicate (Int.toNat (↑(List.length a0) : Int)) (0 : Int))) none := by kernel_rfl
theorem q11_3 (x0 : Nat) (x1 : Int) (x2 : Int) (x3 : List Nat) (x4 : List Int) : cutG W0 (callW W0) (cutW W0) n11 td11_3 { fr := [((1 : Nat), F.a (A.c (C.pt (Pt.own (0 : Nat) (0 : Nat) (0 : Nat))))), ((3 : Nat), F.a (A.c (C.ow (1 : Nat) x0))), ((9 : Nat), F.a (A.c (C.sc (Go.Value.int Go.IntKind.i64 x1)))), ((10 : Nat), F.a (A.c (C.sc (Go.Value.int Go.IntKind.i64 x2))))], mem := [some (Row.box (31 : Nat) (some (Ty.sl (Ty.flt Go.FloatKind.f64))) [C.sl (Ty.flt Go.FloatKind.f64) x3] false), some (Row.arr (3 : Nat) (Ty.int Go.IntKind.i64) x4 false)], nx := (2 : Nat) } = ifs (decide (x2 < x1) = true) (ifs ((0 : Int) ≤ x2 ∧ x2 < (↑x0 : Int)) (Option.bind x4[Int.toNat x2]? fun r => l11_3 x0 x1 (Go.IntKind.wrap Go.IntKind.i64 (x2 + (1 : Int))) x3 (List.set x4 (Int.toNat x2) x2)) none) (Option.bind (cR2 (nat_lit 20) [] [Ty.pair Ty.unit (Ty.sl (Ty.int Go.IntKind.i64))] [A.c (C.ow (0 : Nat) x0), A.c (C.cl (21 : Nat) [Pt.sh (Ty.sl (Ty.flt Go.FloatKind.f64)) x3 (0 : Nat)]), inj (Ty.pair Ty.unit (Ty.sl (Ty.int Go.IntKind.i64))) ((), x4)]) fun r => some (injRs [RT.own (3 : Go.TypeId) (Ty.int Go.IntKind.i64)] (List.take x0 r.snd.snd))) := by kernel_rfl
theorem e12 (a0 : Nat) : callG W0 (callW W0) (cutW W0) 12 [inj (Ty.flt Go.FloatKind.f64) a0] = ifs ((!Ieee.Format.order (Go.FloatKind.format Go.FloatKind.f64) a0 (0 : Nat) == some Ordering.gt) = true) (some (injRs [RT.d (Ty.flt Go.FloatKind.f64)] (0 : Nat))) (ifs ((Ieee.Format.order (Go.FloatKind.format Go.FloatKind.f64) a0 (4607182418800017408 : Nat) == some Ordering.gt) = true) (some (injRs [RT.d (Ty.flt Go.FloatKind.f64)] (4607182418800017408 : Nat))) (some (injRs [RT.d (Ty.flt Go.FloatKind.f64)] a0))) := by kernel_rfl
theorem e29 (a0 : Nat) : callG W0 (callW W0) (cutW W0) 29 [inj (Ty.flt Go.FloatKind.f64) a0] = some (injRs [RT.d (Ty.flt Go.FloatKind.f64)] (Int.toNat (Go.IntKind.wrap Go.IntKind.u64 (↑(BitVec.toNat (BitVec.ofInt (Go.IntKind.bits Go.IntKind.u64) (↑a0 : Int) &&& ~~~BitVec.ofInt (Go.IntKind.bits Go.IntKind.u64) (9223372036854775808 : Int))) : Int)))) := by kernel_rfl
theorem e22 (a0 : Nat) (a1 : Int) : callG W0 (callW W0) (cutW W0) 22 [inj (Ty.flt Go.FloatKind.f64) a0, inj (Ty.int Go.IntKind.i64) a1] = ifs ((a1 == (0 : Int)) = true) (Option.bind (cR (nat_lit 29) [RT.d (Ty.flt Go.FloatKind.f64)] [inj (Ty.flt Go.FloatKind.f64) a0]) fun r => some (injRs [RT.d Ty.bool] (Ieee.Format.order (Go.FloatKind.format Go.FloatKind.f64) r (9218868437227405311 : Nat) == some Ordering.gt))) (ifs (decide (a1 < (0 : Int)) = true) (some (injRs [RT.d Ty.bool] (Ieee.Format.order (Go.FloatKind.format Go.FloatKind.f64) (Go.Op.negFloat Go.FloatKind.f64 a0) (9218868437227405311 : Nat) == some Ordering.gt))) (some (injRs [RT.d Ty.bool] (Ieee.Format.order (Go.FloatKind.format Go.FloatKind.f64) a0 (9218868437227405311 : Nat) == some Ordering.gt)))) := by kernel_rfl
noncomputable def td14_3 : List Item := (findT (code Try.f14) [] 3).getD []
noncomputable def l14_3 (x0 : Nat) (x1 : List Nat) (x2 : Int) (x3 : Int) : Option (List RV) := cutW W0 n14 td14_3 { fr := [((3 : Nat), F.a (A.c (C.sc (Go.Value.float Go.FloatKind.f64 x0)))), ((6 : Nat), F.a (A.c (C.sl (Ty.flt Go.FloatKind.f64) x1))), ((7 : Nat), F.a (A.c (C.sc (Go.Value.int Go.IntKind.i64 x2)))), ((8 : Nat), F.a (A.c (C.sc (Go.Value.int Go.IntKind.i64 x3))))], mem := [], nx := (0 : Nat) }
noncomputable def l14_3v1 (x0 : List Nat) (x1 : Int) (x2 : Int) : Option (List RV) := cutW W0 n14 td14_3 { fr := [((3 : Nat), F.a (A.c (C.nan Go.FloatKind.f64))), ((6 : Nat), F.a (A.c (C.sl (Ty.flt Go.FloatKind.f64) x0))), ((7 : Nat), F.a (A.c (C.sc (Go.Value.int Go.IntKind.i64 x1)))), ((8 : Nat), F.a (A.c (C.sc (Go.Value.int Go.IntKind.i64 x2))))], mem := [], nx := (0 : Nat) }
theorem e14 (a0 : List Nat) : callG W0 (callW W0) (cutW W0) 14 [inj (Ty.sl (Ty.flt Go.FloatKind.f64)) a0] = l14_3 (0 : Nat) a0 (↑(List.length a0) : Int) (0 : Int) := by kernel_rfl
theorem q14_3 (x0 : Nat) (x1 : List Nat) (x2 : Int) (x3 : Int) : cutG W0 (callW W0) (cutW W0) n14 td14_3 { fr := [((3 : Nat), F.a (A.c (C.sc (Go.Value.float Go.FloatKind.f64 x0)))), ((6 : Nat), F.a (A.c (C.sl (Ty.flt Go.FloatKind.f64) x1))), ((7 : Nat), F.a (A.c (C.sc (Go.Value.int Go.IntKind.i64 x2)))), ((8 : Nat), F.a (A.c (C.sc (Go.Value.int Go.IntKind.i64 x3))))], mem := [], nx := (0 : Nat) } = ifs (decide (x3 < x2) = true) (ifs ((0 : Int) ≤ x3) (Option.bind x1[Int.toNat x3]? fun r => ifs ((Ieee.Format.order (Go.FloatKind.format Go.FloatKind.f64) r r == some Ordering.eq) = true) (Option.bind (cR (nat_lit 22) [RT.d Ty.bool] [inj (Ty.flt Go.FloatKind.f64) r, inj (Ty.int Go.IntKind.i64) (0 : Int)]) fun r_1 => ifs ((!r_1) = true) (ifs (Option.isNone (Ieee.Format.add (Go.FloatKind.format Go.FloatKind.f64) x0 r) = true) (l14_3v1 x1 x2 (Go.IntKind.wrap Go.IntKind.i64 (x3 + (1 : Int)))) (Option.bind (Ieee.Format.add (Go.FloatKind.format Go.FloatKind.f64) x0 r) fun r => l14_3 r x1 x2 (Go.IntKind.wrap Go.IntKind.i64 (x3 + (1 : Int))))) (l14_3 x0 x1 x2 (Go.IntKind.wrap Go.IntKind.i64 (x3 + (1 : Int))))) (l14_3 x0 x1 x2 (Go.IntKind.wrap Go.IntKind.i64 (x3 + (1 : Int))))) none) (some (injRs [RT.d (Ty.flt Go.FloatKind.f64)] x0)) := by kernel_rfl
end Go.Proofs.Ytefhcmkiachphaa.Tb
end
section
/- What each function comes to on data: printed equations. No condition. -/
set_option linter.unusedVariables false
set_option maxRecDepth 100000
namespace Go.Proofs.Ytefhcmkiachphaa.Tb
open Go Go.Proofs.Ytefhcmkiachphaa.Ab
noncomputable def td4_7 : List Item := (findT (code Try.f4) [] 7).getD []
noncomputable def l4_7 (x0 : List Nat) (x1 : Nat) (x2 : Nat) (x3 : Nat) (x4 : Int) (x5 : List Int) (x6 : List Bool) : Option (List RV) := cutW W0 n4 td4_7 { fr := [((0 : Nat), F.a (A.c (C.sl (Ty.flt Go.FloatKind.f64) x0))), ((3 : Nat), F.a (A.c (C.ow (0 : Nat) x1))), ((4 : Nat), F.a (A.c (C.sc (Go.Value.float Go.FloatKind.f64 x2)))), ((5 : Nat), F.a (A.c (C.ow (1 : Nat) x3))), ((6 : Nat), F.a (A.c (C.sc (Go.Value.int Go.IntKind.i64 x4))))], mem := [some (Row.arr (3 : Nat) (Ty.int Go.IntKind.i64) x5 false), some (Row.arr (4 : Nat) Ty.bool x6 false)], nx := (2 : Nat) }
noncomputable def td4_10 : List Item := (findT (code Try.f4) [] 10).getD []
noncomputable def l4_10 (x0 : List Nat) (x1 : Nat) (x2 : Nat) (x3 : Nat) (x4 : Int) (x5 : Nat) (x6 : List Int) (x7 : List Bool) : Option (List RV) := cutW W0 n4 td4_10 { fr := [((0 : Nat), F.a (A.c (C.sl (Ty.flt Go.FloatKind.f64) x0))), ((3 : Nat), F.a (A.c (C.ow (0 : Nat) x1))), ((4 : Nat), F.a (A.c (C.sc (Go.Value.float Go.FloatKind.f64 x2)))), ((5 : Nat), F.a (A.c (C.ow (1 : Nat) x3))), ((6 : Nat), F.a (A.c (C.sc (Go.Value.int Go.IntKind.i64 x4)))), ((7 : Nat), F.a (A.c (C.sc (Go.Value.float Go.FloatKind.f64 x5))))], mem := [some (Row.arr (3 : Nat) (Ty.int Go.IntKind.i64) x6 false), some (Row.arr (4 : Nat) Ty.bool x7 false)], nx := (2 : Nat) }
noncomputable def td4_11 : List Item := (findT (code Try.f4) [] 11).getD []
noncomputable def l4_11 (x0 : List Nat) (x1 : Nat) (x2 : Nat) (x3 : Nat) (x4 : Int) (x5 : Nat) (x6 : Nat) (x7 : List Int) (x8 : List Bool) : Option (List RV) := cutW W0 n4 td4_11 { fr := [((0 : Nat), F.a (A.c (C.sl (Ty.flt Go.FloatKind.f64) x0))), ((3 : Nat), F.a (A.c (C.ow (0 : Nat) x1))), ((4 : Nat), F.a (A.c (C.sc (Go.Value.float Go.FloatKind.f64 x2)))), ((5 : Nat), F.a (A.c (C.ow (1 : Nat) x3))), ((6 : Nat), F.a (A.c (C.sc (Go.Value.int Go.IntKind.i64 x4)))), ((7 : Nat), F.a (A.c (C.sc (Go.Value.float Go.FloatKind.f64 x5)))), ((8 : Nat), F.a (A.c (C.sc (Go.Value.float Go.FloatKind.f64 x6))))], mem := [some (Row.arr (3 : Nat) (Ty.int Go.IntKind.i64) x7 false), some (Row.arr (4 : Nat) Ty.bool x8 false)], nx := (2 : Nat) }
noncomputable def td4_13 : List Item := (findT (code Try.f4) [] 13).getD []
noncomputable def l4_13 (x0 : List Nat) (x1 : Nat) (x2 : Nat) (x3 : Nat) (x4 : Int) (x5 : Nat) (x6 : List Int) (x7 : List Bool) : Option (List RV) := cutW W0 n4 td4_13 { fr := [((0 : Nat), F.a (A.c (C.sl (Ty.flt Go.FloatKind.f64) x0))), ((3 : Nat), F.a (A.c (C.ow (0 : Nat) x1))), ((4 : Nat), F.a (A.c (C.sc (Go.Value.float Go.FloatKind.f64 x2)))), ((5 : Nat), F.a (A.c (C.ow (1 : Nat) x3))), ((6 : Nat), F.a (A.c (C.sc (Go.Value.int Go.IntKind.i64 x4)))), ((7 : Nat), F.a (A.c (C.sc (Go.Value.float Go.FloatKind.f64 x5))))], mem := [some (Row.arr (3 : Nat) (Ty.int Go.IntKind.i64) x6 false), some (Row.arr (4 : Nat) Ty.bool x7 false)], nx := (2 : Nat) }
noncomputable def td4_15 : List Item := (findT (code Try.f4) [] 15).getD []
noncomputable def l4_15 (x0 : List Nat) (x1 : Nat) (x2 : Nat) (x3 : Nat) (x4 : Int) (x5 : List Int) (x6 : List Bool) : Option (List RV) := cutW W0 n4 td4_15 { fr := [((0 : Nat), F.a (A.c (C.sl (Ty.flt Go.FloatKind.f64) x0))), ((3 : Nat), F.a (A.c (C.ow (0 : Nat) x1))), ((4 : Nat), F.a (A.c (C.sc (Go.Value.float Go.FloatKind.f64 x2)))), ((5 : Nat), F.a (A.c (C.ow (1 : Nat) x3))), ((6 : Nat), F.a (A.c (C.sc (Go.Value.int Go.IntKind.i64 x4))))], mem := [some (Row.arr (3 : Nat) (Ty.int Go.IntKind.i64) x5 false), some (Row.arr (4 : Nat) Ty.bool x6 false)], nx := (2 : Nat) }
noncomputable def l4_15v1 (x0 : List Nat) (x1 : Nat) (x2 : Nat) (x3 : Int) (x4 : List Int) (x5 : List Bool) : Option (List RV) := cutW W0 n4 td4_15 { fr := [((0 : Nat), F.a (A.c (C.sl (Ty.flt Go.FloatKind.f64) x0))), ((3 : Nat), F.a (A.c (C.ow (0 : Nat) x1))), ((4 : Nat), F.a (A.c (C.nan Go.FloatKind.f64))), ((5 : Nat), F.a (A.c (C.ow (1 : Nat) x2))), ((6 : Nat), F.a (A.c (C.sc (Go.Value.int Go.IntKind.i64 x3))))], mem := [some (Row.arr (3 : Nat) (Ty.int Go.IntKind.i64) x4 false), some (Row.arr (4 : Nat) Ty.bool x5 false)], nx := (2 : Nat) }
noncomputable def td4_16 : List Item := (findT (code Try.f4) [] 16).getD []
noncomputable def l4_16 : Option (List RV) := cutW W0 n4 td4_16 { fr := [], mem := [], nx := (0 : Nat) }
noncomputable def td4_17 : List Item := (findT (code Try.f4) [] 17).getD []
noncomputable def l4_17 (x0 : List Nat) (x1 : Nat) (x2 : Nat) (x3 : Nat) (x4 : Int) (x5 : List Int) (x6 : List Bool) : Option (List RV) := cutW W0 n4 td4_17 { fr := [((0 : Nat), F.a (A.c (C.sl (Ty.flt Go.FloatKind.f64) x0))), ((3 : Nat), F.a (A.c (C.ow (0 : Nat) x1))), ((4 : Nat), F.a (A.c (C.sc (Go.Value.float Go.FloatKind.f64 x2)))), ((5 : Nat), F.a (A.c (C.ow (1 : Nat) x3))), ((6 : Nat), F.a (A.c (C.sc (Go.Value.int Go.IntKind.i64 x4))))], mem := [some (Row.arr (3 : Nat) (Ty.int Go.IntKind.i64) x5 false), some (Row.arr (4 : Nat) Ty.bool x6 false)], nx := (2 : Nat) }
noncomputable def td4_8 : List Item := (findT (code Try.f4) [] 8).getD []
noncomputable def l4_8 (x0 : List Nat) (x1 : Nat) (x2 : Nat) (x3 : Nat) (x4 : Int) (x5 : List Int) (x6 : List Bool) : Option (List RV) := cutW W0 n4 td4_8 { fr := [((0 : Nat), F.a (A.c (C.sl (Ty.flt Go.FloatKind.f64) x0))), ((3 : Nat), F.a (A.c (C.ow (0 : Nat) x1))), ((4 : Nat), F.a (A.c (C.sc (Go.Value.float Go.FloatKind.f64 x2)))), ((5 : Nat), F.a (A.c (C.ow (1 : Nat) x3))), ((6 : Nat), F.a (A.c (C.sc (Go.Value.int Go.IntKind.i64 x4))))], mem := [some (Row.arr (3 : Nat) (Ty.int Go.IntKind.i64) x5 false), some (Row.arr (4 : Nat) Ty.bool x6 false)], nx := (2 : Nat) }
noncomputable def td4_19 : List Item := (findT (code Try.f4) [] 19).getD []
noncomputable def l4_19 (x0 : List Nat) (x1 : Nat) (x2 : Nat) (x3 : Nat) (x4 : Int) (x5 : List Int) (x6 : List Bool) : Option (List RV) := cutW W0 n4 td4_19 { fr := [((0 : Nat), F.a (A.c (C.sl (Ty.flt Go.FloatKind.f64) x0))), ((3 : Nat), F.a (A.c (C.ow (0 : Nat) x1))), ((4 : Nat), F.a (A.c (C.sc (Go.Value.float Go.FloatKind.f64 x2)))), ((5 : Nat), F.a (A.c (C.ow (1 : Nat) x3))), ((6 : Nat), F.a (A.c (C.sc (Go.Value.int Go.IntKind.i64 x4))))], mem := [some (Row.arr (3 : Nat) (Ty.int Go.IntKind.i64) x5 false), some (Row.arr (4 : Nat) Ty.bool x6 false)], nx := (2 : Nat) }
noncomputable def td4_21 : List Item := (findT (code Try.f4) [] 21).getD []
noncomputable def l4_21 (x0 : List Nat) (x1 : Nat) (x2 : Nat) (x3 : Nat) (x4 : Int) (x5 : Nat) (x6 : Nat) (x7 : Bool) (x8 : List Int) (x9 : List Bool) : Option (List RV) := cutW W0 n4 td4_21 { fr := [((0 : Nat), F.a (A.c (C.sl (Ty.flt Go.FloatKind.f64) x0))), ((3 : Nat), F.a (A.c (C.ow (0 : Nat) x1))), ((4 : Nat), F.a (A.c (C.sc (Go.Value.float Go.FloatKind.f64 x2)))), ((5 : Nat), F.a (A.c (C.ow (1 : Nat) x3))), ((6 : Nat), F.a (A.c (C.sc (Go.Value.int Go.IntKind.i64 x4)))), ((9 : Nat), F.a (A.c (C.sc (Go.Value.float Go.FloatKind.f64 x5)))), ((10 : Nat), F.a (A.c (C.sc (Go.Value.float Go.FloatKind.f64 x6)))), ((11 : Nat), F.a (A.c (C.sc (Go.Value.bool x7))))], mem := [some (Row.arr (3 : Nat) (Ty.int Go.IntKind.i64) x8 false), some (Row.arr (4 : Nat) Ty.bool x9 false)], nx := (2 : Nat) }
noncomputable def td4_22 : List Item := (findT (code Try.f4) [] 22).getD []
noncomputable def l4_22 (x0 : List Nat) (x1 : Nat) (x2 : Nat) (x3 : Nat) (x4 : Int) (x5 : Nat) (x6 : Nat) (x7 : Bool) (x8 : Bool) (x9 : List Int) (x10 : List Bool) : Option (List RV) := cutW W0 n4 td4_22 { fr := [((0 : Nat), F.a (A.c (C.sl (Ty.flt Go.FloatKind.f64) x0))), ((3 : Nat), F.a (A.c (C.ow (0 : Nat) x1))), ((4 : Nat), F.a (A.c (C.sc (Go.Value.float Go.FloatKind.f64 x2)))), ((5 : Nat), F.a (A.c (C.ow (1 : Nat) x3))), ((6 : Nat), F.a (A.c (C.sc (Go.Value.int Go.IntKind.i64 x4)))), ((9 : Nat), F.a (A.c (C.sc (Go.Value.float Go.FloatKind.f64 x5)))), ((10 : Nat), F.a (A.c (C.sc (Go.Value.float Go.FloatKind.f64 x6)))), ((11 : Nat), F.a (A.c (C.sc (Go.Value.bool x7)))), ((12 : Nat), F.a (A.c (C.sc (Go.Value.bool x8))))], mem := [some (Row.arr (3 : Nat) (Ty.int Go.IntKind.i64) x9 false), some (Row.arr (4 : Nat) Ty.bool x10 false)], nx := (2 : Nat) }
theorem e4 (a0 : List Nat) : callG W0 (callW W0) (cutW W0) 4 [inj (Ty.sl (Ty.flt Go.FloatKind.f64)) a0] = ifs (decide ((↑(List.length a0) : Int) > (60 : Int)) = true) (ifs ((0 : Int) ≤ (60 : Int) ∧ (60 : Int) ≤ (↑(List.length a0) : Int)) (Option.bind (cR (nat_lit 11) [RT.own (3 : Go.TypeId) (Ty.int Go.IntKind.i64)] [inj (Ty.sl (Ty.flt Go.FloatKind.f64)) (List.drop (Int.toNat (0 : Int)) (List.take (Int.toNat (60 : Int)) a0))]) fun r => ifs ((0 : Int) ≤ (↑(List.length (List.drop (Int.toNat (0 : Int)) (List.take (Int.toNat (60 : Int)) a0))) : Int) ∧ (↑(List.length (List.drop (Int.toNat (0 : Int)) (List.take (Int.toNat (60 : Int)) a0))) : Int) ≤ (↑(List.length (List.drop (Int.toNat (0 : Int)) (List.take (Int.toNat (60 : Int)) a0))) : Int) ∧ (↑(List.length (List.drop (Int.toNat (0 : Int)) (List.take (Int.toNat (60 : Int)) a0))) : Int) * (↑(nat_lit 1) : Int) ≤ (140737488355328 : Int)) (l4_7 (List.drop (Int.toNat (0 : Int)) (List.take (Int.toNat (60 : Int)) a0)) (List.length r) (0 : Nat) (List.length (List.replicate (Int.toNat (↑(List.length (List.drop (Int.toNat (0 : Int)) (List.take (Int.toNat (60 : Int)) a0))) : Int)) false)) (0 : Int) r (List.replicate (Int.toNat (↑(List.length (List.drop (Int.toNat (0 : Int)) (List.take (Int.toNat (60 : Int)) a0))) : Int)) false)) none) none) (Option.bind (cR (nat_lit 11) [RT.own (3 : Go.TypeId) (Ty.int Go.IntKind.i64)] [inj (Ty.sl (Ty.flt Go.FloatKind.f64)) a0]) fun r => ifs ((0 : Int) ≤ (↑(List.length a0) : Int) ∧ (↑(List.length a0) : Int) ≤ (↑(List.length a0) : Int) ∧ (↑(List.length a0) : Int) * (↑(nat_lit 1) : Int) ≤ (140737488355328 : Int)) (l4_7 a0 (List.length r) (0 : Nat) (List.length (List.replicate (Int.toNat (↑(List.length a0) : Int)) false)) (0 : Int) r (List.replicate (Int.toNat (↑(List.length a0) : Int)) false)) none) := by kernel_rfl
theorem q4_7 (x0 : List Nat) (x1 : Nat) (x2 : Nat) (x3 : Nat) (x4 : Int) (x5 : List Int) (x6 : List Bool) : cutG W0 (callW W0) (cutW W0) n4 td4_7 { fr := [((0 : Nat), F.a (A.c (C.sl (Ty.flt Go.FloatKind.f64) x0))), ((3 : Nat), F.a (A.c (C.ow (0 : Nat) x1))), ((4 : Nat), F.a (A.c (C.sc (Go.Value.float Go.FloatKind.f64 x2)))), ((5 : Nat), F.a (A.c (C.ow (1 : Nat) x3))), ((6 : Nat), F.a (A.c (C.sc (Go.Value.int Go.IntKind.i64 x4))))], mem := [some (Row.arr (3 : Nat) (Ty.int Go.IntKind.i64) x5 false), some (Row.arr (4 : Nat) Ty.bool x6 false)], nx := (2 : Nat) } = ifs (decide (x4 < (↑(List.length x0) : Int)) = true) (ifs ((0 : Int) ≤ x4) (Option.bind x0[Int.toNat x4]? fun r => l4_10 x0 x1 x2 x3 x4 r x5 x6) none) (Option.bind (cR (nat_lit 14) [RT.d (Ty.flt Go.FloatKind.f64)] [inj (Ty.sl (Ty.flt Go.FloatKind.f64)) x0]) fun r => Option.bind (cR (nat_lit 6) [RT.d Ty.bool] []) fun r_1 => ifs (r_1 = true) (ifs ((Ieee.Format.order (Go.FloatKind.format Go.FloatKind.f64) r x2 == some Ordering.eq) = false) (ifs ((Ieee.Format.order (Go.FloatKind.format Go.FloatKind.f64) r r != some Ordering.eq) = true) (some (injRs [RT.d Ty.bool] (Ieee.Format.order (Go.FloatKind.format Go.FloatKind.f64) x2 x2 != some Ordering.eq))) (some (injRs [RT.d Ty.bool] false))) (some (injRs [RT.d Ty.bool] true))) (some (injRs [RT.d Ty.bool] false))) := by kernel_rfl
theorem q4_10 (x0 : List Nat) (x1 : Nat) (x2 : Nat) (x3 : Nat) (x4 : Int) (x5 : Nat) (x6 : List Int) (x7 : List Bool) : cutG W0 (callW W0) (cutW W0) n4 td4_10 { fr := [((0 : Nat), F.a (A.c (C.sl (Ty.flt Go.FloatKind.f64) x0))), ((3 : Nat), F.a (A.c (C.ow (0 : Nat) x1))), ((4 : Nat), F.a (A.c (C.sc (Go.Value.float Go.FloatKind.f64 x2)))), ((5 : Nat), F.a (A.c (C.ow (1 : Nat) x3))), ((6 : Nat), F.a (A.c (C.sc (Go.Value.int Go.IntKind.i64 x4)))), ((7 : Nat), F.a (A.c (C.sc (Go.Value.float Go.FloatKind.f64 x5))))], mem := [some (Row.arr (3 : Nat) (Ty.int Go.IntKind.i64) x6 false), some (Row.arr (4 : Nat) Ty.bool x7 false)], nx := (2 : Nat) } = Option.bind (cR (nat_lit 12) [RT.d (Ty.flt Go.FloatKind.f64)] [inj (Ty.flt Go.FloatKind.f64) x5]) fun r => l4_11 x0 x1 x2 x3 x4 x5 r x6 x7 := by kernel_rfl
theorem q4_11 (x0 : List Nat) (x1 : Nat) (x2 : Nat) (x3 : Nat) (x4 : Int) (x5 : Nat) (x6 : Nat) (x7 : List Int) (x8 : List Bool) : cutG W0 (callW W0) (cutW W0) n4 td4_11 { fr := [((0 : Nat), F.a (A.c (C.sl (Ty.flt Go.FloatKind.f64) x0))), ((3 : Nat), F.a (A.c (C.ow (0 : Nat) x1))), ((4 : Nat), F.a (A.c (C.sc (Go.Value.float Go.FloatKind.f64 x2)))), ((5 : Nat), F.a (A.c (C.ow (1 : Nat) x3))), ((6 : Nat), F.a (A.c (C.sc (Go.Value.int Go.IntKind.i64 x4)))), ((7 : Nat), F.a (A.c (C.sc (Go.Value.float Go.FloatKind.f64 x5)))), ((8 : Nat), F.a (A.c (C.sc (Go.Value.float Go.FloatKind.f64 x6))))], mem := [some (Row.arr (3 : Nat) (Ty.int Go.IntKind.i64) x7 false), some (Row.arr (4 : Nat) Ty.bool x8 false)], nx := (2 : Nat) } = ifs ((Ieee.Format.order (Go.FloatKind.format Go.FloatKind.f64) x6 (0 : Nat) == some Ordering.gt || Ieee.Format.order (Go.FloatKind.format Go.FloatKind.f64) x6 (0 : Nat) == some Ordering.eq) = true) (ifs ((!(Ieee.Format.order (Go.FloatKind.format Go.FloatKind.f64) x6 (4607182418800017408 : Nat) == some Ordering.lt || Ieee.Format.order (Go.FloatKind.format Go.FloatKind.f64) x6 (4607182418800017408 : Nat) == some Ordering.eq)) = false) (ifs ((Ieee.Format.order (Go.FloatKind.format Go.FloatKind.f64) x5 (0 : Nat) == some Ordering.gt) = true) (ifs ((Ieee.Format.order (Go.FloatKind.format Go.FloatKind.f64) x5 (4607182418800017408 : Nat) == some Ordering.lt) = true) (ifs ((Ieee.Format.order (Go.FloatKind.format Go.FloatKind.f64) x6 x5 != some Ordering.eq) = false) (ifs ((Ieee.Format.order (Go.FloatKind.format Go.FloatKind.f64) x5 (4607182418800017408 : Nat) == some Ordering.gt || Ieee.Format.order (Go.FloatKind.format Go.FloatKind.f64) x5 (4607182418800017408 : Nat) == some Ordering.eq) = true) (ifs ((Ieee.Format.order (Go.FloatKind.format Go.FloatKind.f64) x6 (4607182418800017408 : Nat) != some Ordering.eq) = false) (ifs ((!Ieee.Format.order (Go.FloatKind.format Go.FloatKind.f64) x5 (0 : Nat) == some Ordering.gt) = true) (ifs ((Ieee.Format.order (Go.FloatKind.format Go.FloatKind.f64) x6 (0 : Nat) != some Ordering.eq) = false) (ifs (Option.isNone (Ieee.Format.div (Go.FloatKind.format Go.FloatKind.f64) (4607182418800017408 : Nat) x6) = true) (l4_13 x0 x1 x2 x3 x4 x5 x7 x8) (Option.bind (Ieee.Format.div (Go.FloatKind.format Go.FloatKind.f64) (4607182418800017408 : Nat) x6) fun r => ifs ((Ieee.Format.order (Go.FloatKind.format Go.FloatKind.f64) r (0 : Nat) == some Ordering.lt) = true) (some (injRs [RT.d Ty.bool] false)) (l4_13 x0 x1 x2 x3 x4 x5 x7 x8))) (some (injRs [RT.d Ty.bool] false))) (l4_13 x0 x1 x2 x3 x4 x5 x7 x8)) (some (injRs [RT.d Ty.bool] false))) (ifs ((!Ieee.Format.order (Go.FloatKind.format Go.FloatKind.f64) x5 (0 : Nat) == some Ordering.gt) = true) (ifs ((Ieee.Format.order (Go.FloatKind.format Go.FloatKind.f64) x6 (0 : Nat) != some Ordering.eq) = false) (ifs (Option.isNone (Ieee.Format.div (Go.FloatKind.format Go.FloatKind.f64) (4607182418800017408 : Nat) x6) = true) (l4_13 x0 x1 x2 x3 x4 x5 x7 x8) (Option.bind (Ieee.Format.div (Go.FloatKind.format Go.FloatKind.f64) (4607182418800017408 : Nat) x6) fun r => ifs ((Ieee.Format.order (Go.FloatKind.format Go.FloatKind.f64) r (0 : Nat) == some Ordering.lt) = true) (some (injRs [RT.d Ty.bool] false)) (l4_13 x0 x1 x2 x3 x4 x5 x7 x8))) (some (injRs [RT.d Ty.bool] false))) (l4_13 x0 x1 x2 x3 x4 x5 x7 x8))) (some (injRs [RT.d Ty.bool] false))) (ifs ((Ieee.Format.order (Go.FloatKind.format Go.FloatKind.f64) x5 (4607182418800017408 : Nat) == some Ordering.gt || Ieee.Format.order (Go.FloatKind.format Go.FloatKind.f64) x5 (4607182418800017408 : Nat) == some Ordering.eq) = true) (ifs ((Ieee.Format.order (Go.FloatKind.format Go.FloatKind.f64) x6 (4607182418800017408 : Nat) != some Ordering.eq) = false) (ifs ((!Ieee.Format.order (Go.FloatKind.format Go.FloatKind.f64) x5 (0 : Nat) == some Ordering.gt) = true) (ifs ((Ieee.Format.order (Go.FloatKind.format Go.FloatKind.f64) x6 (0 : Nat) != some Ordering.eq) = false) (ifs (Option.isNone (Ieee.Format.div (Go.FloatKind.format Go.FloatKind.f64) (4607182418800017408 : Nat) x6) = true) (l4_13 x0 x1 x2 x3 x4 x5 x7 x8) (Option.bind (Ieee.Format.div (Go.FloatKind.format Go.FloatKind.f64) (4607182418800017408 : Nat) x6) fun r => ifs ((Ieee.Format.order (Go.FloatKind.format Go.FloatKind.f64) r (0 : Nat) == some Ordering.lt) = true) (some (injRs [RT.d Ty.bool] false)) (l4_13 x0 x1 x2 x3 x4 x5 x7 x8))) (some (injRs [RT.d Ty.bool] false))) (l4_13 x0 x1 x2 x3 x4 x5 x7 x8)) (some (injRs [RT.d Ty.bool] false))) (ifs ((!Ieee.Format.order (Go.FloatKind.format Go.FloatKind.f64) x5 (0 : Nat) == some Ordering.gt) = true) (ifs ((Ieee.Format.order (Go.FloatKind.format Go.FloatKind.f64) x6 (0 : Nat) != some Ordering.eq) = false) (ifs (Option.isNone (Ieee.Format.div (Go.FloatKind.format Go.FloatKind.f64) (4607182418800017408 : Nat) x6) = true) (l4_13 x0 x1 x2 x3 x4 x5 x7 x8) (Option.bind (Ieee.Format.div (Go.FloatKind.format Go.FloatKind.f64) (4607182418800017408 : Nat) x6) fun r => ifs ((Ieee.Format.order (Go.FloatKind.format Go.FloatKind.f64) r (0 : Nat) == some Ordering.lt) = true) (some (injRs [RT.d Ty.bool] false)) (l4_13 x0 x1 x2 x3 x4 x5 x7 x8))) (some (injRs [RT.d Ty.bool] false))) (l4_13 x0 x1 x2 x3 x4 x5 x7 x8)))) (ifs ((Ieee.Format.order (Go.FloatKind.format Go.FloatKind.f64) x5 (4607182418800017408 : Nat) == some Ordering.gt || Ieee.Format.order (Go.FloatKind.format Go.FloatKind.f64) x5 (4607182418800017408 : Nat) == some Ordering.eq) = true) (ifs ((Ieee.Format.order (Go.FloatKind.format Go.FloatKind.f64) x6 (4607182418800017408 : Nat) != some Ordering.eq) = false) (ifs ((!Ieee.Format.order (Go.FloatKind.format Go.FloatKind.f64) x5 (0 : Nat) == some Ordering.gt) = true) (ifs ((Ieee.Format.order (Go.FloatKind.format Go.FloatKind.f64) x6 (0 : Nat) != some Ordering.eq) = false) (ifs (Option.isNone (Ieee.Format.div (Go.FloatKind.format Go.FloatKind.f64) (4607182418800017408 : Nat) x6) = true) (l4_13 x0 x1 x2 x3 x4 x5 x7 x8) (Option.bind (Ieee.Format.div (Go.FloatKind.format Go.FloatKind.f64) (4607182418800017408 : Nat) x6) fun r => ifs ((Ieee.Format.order (Go.FloatKind.format Go.FloatKind.f64) r (0 : Nat) == some Ordering.lt) = true) (some (injRs [RT.d Ty.bool] false)) (l4_13 x0 x1 x2 x3 x4 x5 x7 x8))) (some (injRs [RT.d Ty.bool] false))) (l4_13 x0 x1 x2 x3 x4 x5 x7 x8)) (some (injRs [RT.d Ty.bool] false))) (ifs ((!Ieee.Format.order (Go.FloatKind.format Go.FloatKind.f64) x5 (0 : Nat) == some Ordering.gt) = true) (ifs ((Ieee.Format.order (Go.FloatKind.format Go.FloatKind.f64) x6 (0 : Nat) != some Ordering.eq) = false) (ifs (Option.isNone (Ieee.Format.div (Go.FloatKind.format Go.FloatKind.f64) (4607182418800017408 : Nat) x6) = true) (l4_13 x0 x1 x2 x3 x4 x5 x7 x8) (Option.bind (Ieee.Format.div (Go.FloatKind.format Go.FloatKind.f64) (4607182418800017408 : Nat) x6) fun r => ifs ((Ieee.Format.order (Go.FloatKind.format Go.FloatKind.f64) r (0 : Nat) == some Ordering.lt) = true) (some (injRs [RT.d Ty.bool] false)) (l4_13 x0 x1 x2 x3 x4 x5 x7 x8))) (some (injRs [RT.d Ty.bool] false))) (l4_13 x0 x1 x2 x3 x4 x5 x7 x8)))) (some (injRs [RT.d Ty.bool] false))) (some (injRs [RT.d Ty.bool] false)) := by kernel_rfl
theorem q4_13 (x0 : List Nat) (x1 : Nat) (x2 : Nat) (x3 : Nat) (x4 : Int) (x5 : Nat) (x6 : List Int) (x7 : List Bool) : cutG W0 (callW W0) (cutW W0) n4 td4_13 { fr := [((0 : Nat), F.a (A.c (C.sl (Ty.flt Go.FloatKind.f64) x0))), ((3 : Nat), F.a (A.c (C.ow (0 : Nat) x1))), ((4 : Nat), F.a (A.c (C.sc (Go.Value.float Go.FloatKind.f64 x2)))), ((5 : Nat), F.a (A.c (C.ow (1 : Nat) x3))), ((6 : Nat), F.a (A.c (C.sc (Go.Value.int Go.IntKind.i64 x4)))), ((7 : Nat), F.a (A.c (C.sc (Go.Value.float Go.FloatKind.f64 x5))))], mem := [some (Row.arr (3 : Nat) (Ty.int Go.IntKind.i64) x6 false), some (Row.arr (4 : Nat) Ty.bool x7 false)], nx := (2 : Nat) } = ifs ((Ieee.Format.order (Go.FloatKind.format Go.FloatKind.f64) x5 x5 == some Ordering.eq) = true) (ifs (Option.isNone (Ieee.Format.sub (Go.FloatKind.format Go.FloatKind.f64) x5 x5) = true) (l4_15 x0 x1 x2 x3 x4 x6 x7) (Option.bind (Ieee.Format.sub (Go.FloatKind.format Go.FloatKind.f64) x5 x5) fun r => ifs ((Ieee.Format.order (Go.FloatKind.format Go.FloatKind.f64) r (0 : Nat) == some Ordering.eq) = true) (ifs (Option.isNone (Ieee.Format.add (Go.FloatKind.format Go.FloatKind.f64) x2 x5) = true) (l4_15v1 x0 x1 x3 x4 x6 x7) (Option.bind (Ieee.Format.add (Go.FloatKind.format Go.FloatKind.f64) x2 x5) fun r => l4_15 x0 x1 r x3 x4 x6 x7)) (l4_15 x0 x1 x2 x3 x4 x6 x7))) (l4_15 x0 x1 x2 x3 x4 x6 x7) := by kernel_rfl
theorem q4_15 (x0 : List Nat) (x1 : Nat) (x2 : Nat) (x3 : Nat) (x4 : Int) (x5 : List Int) (x6 : List Bool) : cutG W0 (callW W0) (cutW W0) n4 td4_15 { fr := [((0 : Nat), F.a (A.c (C.sl (Ty.flt Go.FloatKind.f64) x0))), ((3 : Nat), F.a (A.c (C.ow (0 : Nat) x1))), ((4 : Nat), F.a (A.c (C.sc (Go.Value.float Go.FloatKind.f64 x2)))), ((5 : Nat), F.a (A.c (C.ow (1 : Nat) x3))), ((6 : Nat), F.a (A.c (C.sc (Go.Value.int Go.IntKind.i64 x4))))], mem := [some (Row.arr (3 : Nat) (Ty.int Go.IntKind.i64) x5 false), some (Row.arr (4 : Nat) Ty.bool x6 false)], nx := (2 : Nat) } = ifs (((↑x1 : Int) != (↑(List.length x0) : Int)) = false) (ifs ((0 : Int) ≤ x4 ∧ x4 < (↑x1 : Int)) (Option.bind x5[Int.toNat x4]? fun r => ifs (decide (r < (0 : Int)) = false) (ifs ((0 : Int) ≤ x4 ∧ x4 < (↑x1 : Int)) (Option.bind x5[Int.toNat x4]? fun r => ifs (decide (r ≥ (↑(List.length x0) : Int)) = false) (ifs ((0 : Int) ≤ x4 ∧ x4 < (↑x1 : Int)) (Option.bind x5[Int.toNat x4]? fun r => ifs ((0 : Int) ≤ r ∧ r < (↑x3 : Int)) (Option.bind x6[Int.toNat r]? fun r => ifs (r = true) l4_16 (l4_17 x0 x1 x2 x3 x4 x5 x6)) none) none) l4_16) none) l4_16) none) l4_16 := by kernel_rfl
theorem q4_17 (x0 : List Nat) (x1 : Nat) (x2 : Nat) (x3 : Nat) (x4 : Int) (x5 : List Int) (x6 : List Bool) : cutG W0 (callW W0) (cutW W0) n4 td4_17 { fr := [((0 : Nat), F.a (A.c (C.sl (Ty.flt Go.FloatKind.f64) x0))), ((3 : Nat), F.a (A.c (C.ow (0 : Nat) x1))), ((4 : Nat), F.a (A.c (C.sc (Go.Value.float Go.FloatKind.f64 x2)))), ((5 : Nat), F.a (A.c (C.ow (1 : Nat) x3))), ((6 : Nat), F.a (A.c (C.sc (Go.Value.int Go.IntKind.i64 x4))))], mem := [some (Row.arr (3 : Nat) (Ty.int Go.IntKind.i64) x5 false), some (Row.arr (4 : Nat) Ty.bool x6 false)], nx := (2 : Nat) } = ifs ((0 : Int) ≤ x4 ∧ x4 < (↑x1 : Int)) (Option.bind x5[Int.toNat x4]? fun r => ifs ((0 : Int) ≤ r ∧ r < (↑x3 : Int)) (Option.bind x6[Int.toNat r]? fun r_1 => ifs ((x4 == (0 : Int)) = true) (l4_8 x0 x1 x2 x3 x4 x5 (List.set x6 (Int.toNat r) true)) (l4_19 x0 x1 x2 x3 x4 x5 (List.set x6 (Int.toNat r) true))) none) none := by kernel_rfl
theorem q4_8 (x0 : List Nat) (x1 : Nat) (x2 : Nat) (x3 : Nat) (x4 : Int) (x5 : List Int) (x6 : List Bool) : cutG W0 (callW W0) (cutW W0) n4 td4_8 { fr := [((0 : Nat), F.a (A.c (C.sl (Ty.flt Go.FloatKind.f64) x0))), ((3 : Nat), F.a (A.c (C.ow (0 : Nat) x1))), ((4 : Nat), F.a (A.c (C.sc (Go.Value.float Go.FloatKind.f64 x2)))), ((5 : Nat), F.a (A.c (C.ow (1 : Nat) x3))), ((6 : Nat), F.a (A.c (C.sc (Go.Value.int Go.IntKind.i64 x4))))], mem := [some (Row.arr (3 : Nat) (Ty.int Go.IntKind.i64) x5 false), some (Row.arr (4 : Nat) Ty.bool x6 false)], nx := (2 : Nat) } = l4_7 x0 x1 x2 x3 (Go.IntKind.wrap Go.IntKind.i64 (x4 + (1 : Int))) x5 x6 := by kernel_rfl
theorem q4_19 (x0 : List Nat) (x1 : Nat) (x2 : Nat) (x3 : Nat) (x4 : Int) (x5 : List Int) (x6 : List Bool) : cutG W0 (callW W0) (cutW W0) n4 td4_19 { fr := [((0 : Nat), F.a (A.c (C.sl (Ty.flt Go.FloatKind.f64) x0))), ((3 : Nat), F.a (A.c (C.ow (0 : Nat) x1))), ((4 : Nat), F.a (A.c (C.sc (Go.Value.float Go.FloatKind.f64 x2)))), ((5 : Nat), F.a (A.c (C.ow (1 : Nat) x3))), ((6 : Nat), F.a (A.c (C.sc (Go.Value.int Go.IntKind.i64 x4))))], mem := [some (Row.arr (3 : Nat) (Ty.int Go.IntKind.i64) x5 false), some (Row.arr (4 : Nat) Ty.bool x6 false)], nx := (2 : Nat) } = ifs ((0 : Int) ≤ Go.IntKind.wrap Go.IntKind.i64 (x4 - (1 : Int)) ∧ Go.IntKind.wrap Go.IntKind.i64 (x4 - (1 : Int)) < (↑x1 : Int)) (Option.bind x5[Int.toNat (Go.IntKind.wrap Go.IntKind.i64 (x4 - (1 : Int)))]? fun r => ifs ((0 : Int) ≤ r) (Option.bind x0[Int.toNat r]? fun r => ifs ((0 : Int) ≤ x4 ∧ x4 < (↑x1 : Int)) (Option.bind x5[Int.toNat x4]? fun r_1 => ifs ((0 : Int) ≤ r_1) (Option.bind x0[Int.toNat r_1]? fun r_2 => ifs ((Ieee.Format.order (Go.FloatKind.format Go.FloatKind.f64) r_2 r_2 == some Ordering.eq) = true) (ifs ((Ieee.Format.order (Go.FloatKind.format Go.FloatKind.f64) r r != some Ordering.eq) = false) (l4_21 x0 x1 x2 x3 x4 r r_2 (Ieee.Format.order (Go.FloatKind.format Go.FloatKind.f64) r_2 r == some Ordering.gt) x5 x6) (l4_21 x0 x1 x2 x3 x4 r r_2 true x5 x6)) (l4_21 x0 x1 x2 x3 x4 r r_2 false x5 x6)) none) none) none) none := by kernel_rfl
theorem q4_21 (x0 : List Nat) (x1 : Nat) (x2 : Nat) (x3 : Nat) (x4 : Int) (x5 : Nat) (x6 : Nat) (x7 : Bool) (x8 : List Int) (x9 : List Bool) : cutG W0 (callW W0) (cutW W0) n4 td4_21 { fr := [((0 : Nat), F.a (A.c (C.sl (Ty.flt Go.FloatKind.f64) x0))), ((3 : Nat), F.a (A.c (C.ow (0 : Nat) x1))), ((4 : Nat), F.a (A.c (C.sc (Go.Value.float Go.FloatKind.f64 x2)))), ((5 : Nat), F.a (A.c (C.ow (1 : Nat) x3))), ((6 : Nat), F.a (A.c (C.sc (Go.Value.int Go.IntKind.i64 x4)))), ((9 : Nat), F.a (A.c (C.sc (Go.Value.float Go.FloatKind.f64 x5)))), ((10 : Nat), F.a (A.c (C.sc (Go.Value.float Go.FloatKind.f64 x6)))), ((11 : Nat), F.a (A.c (C.sc (Go.Value.bool x7))))], mem := [some (Row.arr (3 : Nat) (Ty.int Go.IntKind.i64) x8 false), some (Row.arr (4 : Nat) Ty.bool x9 false)], nx := (2 : Nat) } = ifs ((Ieee.Format.order (Go.FloatKind.format Go.FloatKind.f64) x5 x5 == some Ordering.eq) = true) (ifs ((Ieee.Format.order (Go.FloatKind.format Go.FloatKind.f64) x6 x6 != some Ordering.eq) = false) (l4_22 x0 x1 x2 x3 x4 x5 x6 x7 (Ieee.Format.order (Go.FloatKind.format Go.FloatKind.f64) x5 x6 == some Ordering.gt) x8 x9) (l4_22 x0 x1 x2 x3 x4 x5 x6 x7 true x8 x9)) (l4_22 x0 x1 x2 x3 x4 x5 x6 x7 false x8 x9) := by kernel_rfl
theorem q4_22 (x0 : List Nat) (x1 : Nat) (x2 : Nat) (x3 : Nat) (x4 : Int) (x5 : Nat) (x6 : Nat) (x7 : Bool) (x8 : Bool) (x9 : List Int) (x10 : List Bool) : cutG W0 (callW W0) (cutW W0) n4 td4_22 { fr := [((0 : Nat), F.a (A.c (C.sl (Ty.flt Go.FloatKind.f64) x0))), ((3 : Nat), F.a (A.c (C.ow (0 : Nat) x1))), ((4 : Nat), F.a (A.c (C.sc (Go.Value.float Go.FloatKind.f64 x2)))), ((5 : Nat), F.a (A.c (C.ow (1 : Nat) x3))), ((6 : Nat), F.a (A.c (C.sc (Go.Value.int Go.IntKind.i64 x4)))), ((9 : Nat), F.a (A.c (C.sc (Go.Value.float Go.FloatKind.f64 x5)))), ((10 : Nat), F.a (A.c (C.sc (Go.Value.float Go.FloatKind.f64 x6)))), ((11 : Nat), F.a (A.c (C.sc (Go.Value.bool x7)))), ((12 : Nat), F.a (A.c (C.sc (Go.Value.bool x8))))], mem := [some (Row.arr (3 : Nat) (Ty.int Go.IntKind.i64) x9 false), some (Row.arr (4 : Nat) Ty.bool x10 false)], nx := (2 : Nat) } = Option.bind (cR (nat_lit 13) [RT.d Ty.bool] [inj (Ty.flt Go.FloatKind.f64) x6, inj (Ty.flt Go.FloatKind.f64) x5]) fun r => ifs ((!r == x7) = false) (ifs (x7 = false) (ifs ((!x8) = true) (ifs ((0 : Int) ≤ Go.IntKind.wrap Go.IntKind.i64 (x4 - (1 : Int)) ∧ Go.IntKind.wrap Go.IntKind.i64 (x4 - (1 : Int)) < (↑x1 : Int)) (Option.bind x9[Int.toNat (Go.IntKind.wrap Go.IntKind.i64 (x4 - (1 : Int)))]? fun r => ifs ((0 : Int) ≤ x4 ∧ x4 < (↑x1 : Int)) (Option.bind x9[Int.toNat x4]? fun r_1 => ifs (decide (r > r_1) = true) (some (injRs [RT.d Ty.bool] false)) (l4_8 x0 x1 x2 x3 x4 x9 x10)) none) none) (l4_8 x0 x1 x2 x3 x4 x9 x10)) (some (injRs [RT.d Ty.bool] false))) (some (injRs [RT.d Ty.bool] false)) := by kernel_rfl
end Go.Proofs.Ytefhcmkiachphaa.Tb
end
section
/- Floating-point numbers: what part of a small number a smaller one is, by trying all; and what two lists have alike. No condition. -/
set_option linter.unusedVariables false
set_option maxRecDepth 100000
namespace Go.Proofs.Ytefhcmkiachphaa.Sp
open Go Go.Proofs.Ytefhcmkiachphaa.Ab Go.Proofs.Ytefhcmkiachphaa.DiffSpec
abbrev fo (x y : Nat) : Option Ordering := Ieee.Format.order (FloatKind.format FloatKind.f64) x y
abbrev fd (x y : Nat) : Option Nat := Ieee.Format.div (FloatKind.format FloatKind.f64) x y
abbrev f1 : Nat := 4607182418800017408
/-! ### What lists have alike -/
end Go.Proofs.Ytefhcmkiachphaa.Sp
end
section
/- ScoreAlike answers true. Conditions: what the parameters' kinds tell. -/
set_option linter.unusedVariables false
set_option linter.unusedSimpArgs false
namespace Go.Proofs.Ytefhcmkiachphaa.Sp
open Go Go.Proofs.Ytefhcmkiachphaa.Ab Go.Proofs.Ytefhcmkiachphaa.Tb Go.Proofs.Ytefhcmkiachphaa.DiffSpec

theorem callT_ofS {f : FuncId} {args : List A} {rts : List RT} {d : dens rts} (k : Nat) (h : callN W0 k f args = some (injRs rts d)) : cR f rts args = some d := by
  show (callW W0 f args).bind (prjRs rts) = some d
  have : callW W0 f args = some (injRs rts d) := limO_of (fun k q x hkq hx => callN_le hkq hx) h
  rw [this]
  exact prj_injRs rts d
set_option maxRecDepth 100000 in
theorem awake30_ok : cR 6 [RT.d .bool] [] = some true := callT_ofS 100 (by kernel_rfl)
theorem at_ok {α β : Type} {l : List α} {i : Nat} (h : i < l.length) (f : α → Option β) : Option.bind l[i]? f = f (l[i]'h) := by rw [List.getElem?_eq_getElem h]; rfl
theorem sz8s (n : Nat) (h : n ≤ 1000000) : 0 ≤ (n : Int) ∧ (n : Int) ≤ (n : Int) ∧ (n : Int) * ((8 : Nat) : Int) ≤ 140737488355328 := by omega
/-! ### How alike lists are -/
end Go.Proofs.Ytefhcmkiachphaa.Sp
end
