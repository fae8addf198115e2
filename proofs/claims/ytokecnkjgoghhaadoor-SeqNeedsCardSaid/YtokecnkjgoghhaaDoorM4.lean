/- What each function comes to on data: printed equations. No condition. What some functions of the program and of the references come to, in plain words: which lists are light, the same. Conditions: lengths as they stand in each statement. What some functions of the program and of the references come to, in plain words: names, lines, paths, which steps may be. Conditions: lengths as they stand in each statement. What some functions of the program and of the references come to, in plain words: paths, and which steps may be. Conditions: lengths as they stand in each statement. What some functions  -/
import Derived.Test.YtokecnkjgoghhaaDoorM3
import Derived.Test.YtokecnkjgoghhaaDoorM1
import Derived.IntWalk
import Derived.Lib.ValidLaws
import Derived.Lib.RuneCountTail
import Derived.Laws.RangeAny
import Derived.Laws.RangeString
import Derived.Shelf.Strings.Split
import Derived.Shelf.Unicode.Decode
import Derived.ChangeArms
import Derived.ChangeSame
import Derived.ChangeMaps5
import Derived.Deep.Strs
section
/- What each function comes to on data: printed equations. No condition. -/
set_option linter.unusedVariables false
set_option maxRecDepth 100000
namespace Go.Proofs.YtokecnkjgoghhaaDoor.Tb
open Go Go.Proofs.YtokecnkjgoghhaaDoor.Ab
noncomputable def td33_2 : List Item := (findT (code Tryd.f33) [] 2).getD []
noncomputable def l33_2 (x0 : List ByteArray) (x1 : Int) : Option (List RV) := cutW W0 n33 td33_2 { fr := [((0 : Nat), F.a (A.c (C.sl Ty.str x0))), ((3 : Nat), F.a (A.c (C.sc (Go.Value.int Go.IntKind.i64 x1))))], mem := [], nx := (0 : Nat) }
theorem e33 (a0 : List ByteArray) : callG W0 (callW W0) (cutW W0) 33 [inj (Ty.sl Ty.str) a0] = l33_2 a0 (0 : Int) := by kernel_rfl
theorem q33_2 (x0 : List ByteArray) (x1 : Int) : cutG W0 (callW W0) (cutW W0) n33 td33_2 { fr := [((0 : Nat), F.a (A.c (C.sl Ty.str x0))), ((3 : Nat), F.a (A.c (C.sc (Go.Value.int Go.IntKind.i64 x1))))], mem := [], nx := (0 : Nat) } = ifs (decide (x1 < (↑(List.length x0) : Int)) = true) (ifs ((0 : Int) ≤ x1) (Option.bind x0[Int.toNat x1]? fun r => ifs (decide ((↑(ByteArray.size r) : Int) > (300 : Int)) = true) (some (injRs [RT.d Ty.bool] false)) (l33_2 x0 (Go.IntKind.wrap Go.IntKind.i64 (x1 + (1 : Int))))) none) (some (injRs [RT.d Ty.bool] (decide ((↑(List.length x0) : Int) ≤ (60 : Int))))) := by kernel_rfl
noncomputable def td10_2 : List Item := (findT (code Tryd.f10) [] 2).getD []
noncomputable def l10_2 (x0 : List (Int × ByteArray × ByteArray × Int × List ByteArray × List ByteArray)) (x1 : Int) : Option (List RV) := cutW W0 n10 td10_2 { fr := [((0 : Nat), F.a (A.c (C.sl ty24 x0))), ((3 : Nat), F.a (A.c (C.sc (Go.Value.int Go.IntKind.i64 x1))))], mem := [], nx := (0 : Nat) }
theorem e10 (a0 : List (Int × ByteArray × ByteArray × Int × List ByteArray × List ByteArray)) : callG W0 (callW W0) (cutW W0) 10 [inj (Ty.sl ty24) a0] = l10_2 a0 (0 : Int) := by kernel_rfl
theorem q10_2 (x0 : List (Int × ByteArray × ByteArray × Int × List ByteArray × List ByteArray)) (x1 : Int) : cutG W0 (callW W0) (cutW W0) n10 td10_2 { fr := [((0 : Nat), F.a (A.c (C.sl ty24 x0))), ((3 : Nat), F.a (A.c (C.sc (Go.Value.int Go.IntKind.i64 x1))))], mem := [], nx := (0 : Nat) } = ifs (decide (x1 < (↑(List.length x0) : Int)) = true) (ifs ((0 : Int) ≤ x1) (Option.bind x0[Int.toNat x1]? fun r => ifs (decide ((↑(ByteArray.size r.snd.fst) : Int) > (300 : Int)) = false) (ifs ((0 : Int) ≤ x1) (Option.bind x0[Int.toNat x1]? fun r => ifs (decide ((↑(ByteArray.size r.snd.snd.fst) : Int) > (300 : Int)) = false) (ifs ((0 : Int) ≤ x1) (Option.bind x0[Int.toNat x1]? fun r => Option.bind (cR (nat_lit 33) [RT.d Ty.bool] [inj (Ty.sl Ty.str) r.snd.snd.snd.snd.fst]) fun r => ifs ((!r) = false) (ifs ((0 : Int) ≤ x1) (Option.bind x0[Int.toNat x1]? fun r => Option.bind (cR (nat_lit 33) [RT.d Ty.bool] [inj (Ty.sl Ty.str) r.snd.snd.snd.snd.snd]) fun r => ifs ((!r) = true) (some (injRs [RT.d Ty.bool] false)) (l10_2 x0 (Go.IntKind.wrap Go.IntKind.i64 (x1 + (1 : Int))))) none) (some (injRs [RT.d Ty.bool] false))) none) (some (injRs [RT.d Ty.bool] false))) none) (some (injRs [RT.d Ty.bool] false))) none) (some (injRs [RT.d Ty.bool] (decide ((↑(List.length x0) : Int) ≤ (40 : Int))))) := by kernel_rfl
noncomputable def td14_2 : List Item := (findT (code Tryd.f14) [] 2).getD []
noncomputable def l14_2 (x0 : List (Int × ByteArray × ByteArray × Int × List ByteArray × List ByteArray)) (x1 : Int) : Option (List RV) := cutW W0 n14 td14_2 { fr := [((0 : Nat), F.a (A.c (C.sl ty24 x0))), ((3 : Nat), F.a (A.c (C.sc (Go.Value.int Go.IntKind.i64 x1))))], mem := [], nx := (0 : Nat) }
theorem e14 (a0 : List (Int × ByteArray × ByteArray × Int × List ByteArray × List ByteArray)) : callG W0 (callW W0) (cutW W0) 14 [inj (Ty.sl ty24) a0] = l14_2 a0 (0 : Int) := by kernel_rfl
theorem q14_2 (x0 : List (Int × ByteArray × ByteArray × Int × List ByteArray × List ByteArray)) (x1 : Int) : cutG W0 (callW W0) (cutW W0) n14 td14_2 { fr := [((0 : Nat), F.a (A.c (C.sl ty24 x0))), ((3 : Nat), F.a (A.c (C.sc (Go.Value.int Go.IntKind.i64 x1))))], mem := [], nx := (0 : Nat) } = ifs (decide (x1 < (↑(List.length x0) : Int)) = true) (ifs ((0 : Int) ≤ x1) (Option.bind x0[Int.toNat x1]? fun r => ifs (decide (r.snd.snd.snd.fst > (1099511627776 : Int)) = true) (some (injRs [RT.d Ty.bool] false)) (l14_2 x0 (Go.IntKind.wrap Go.IntKind.i64 (x1 + (1 : Int))))) none) (Option.bind (cR (nat_lit 10) [RT.d Ty.bool] [inj (Ty.sl ty24) x0]) fun r => some (injRs [RT.d Ty.bool] r)) := by kernel_rfl
noncomputable def td42_4 : List Item := (findT (code Tryd.f42) [] 4).getD []
noncomputable def l42_4 (x0 : List ByteArray) (x1 : List ByteArray) (x2 : Int) : Option (List RV) := cutW W0 n42 td42_4 { fr := [((0 : Nat), F.a (A.c (C.sl Ty.str x0))), ((1 : Nat), F.a (A.c (C.sl Ty.str x1))), ((5 : Nat), F.a (A.c (C.sc (Go.Value.int Go.IntKind.i64 x2))))], mem := [], nx := (0 : Nat) }
theorem e42 (a0 : List ByteArray) (a1 : List ByteArray) : callG W0 (callW W0) (cutW W0) 42 [inj (Ty.sl Ty.str) a0, inj (Ty.sl Ty.str) a1] = ifs (((↑(List.length a0) : Int) != (↑(List.length a1) : Int)) = true) (some (injRs [RT.d Ty.bool] false)) (l42_4 a0 a1 (0 : Int)) := by kernel_rfl
theorem q42_4 (x0 : List ByteArray) (x1 : List ByteArray) (x2 : Int) : cutG W0 (callW W0) (cutW W0) n42 td42_4 { fr := [((0 : Nat), F.a (A.c (C.sl Ty.str x0))), ((1 : Nat), F.a (A.c (C.sl Ty.str x1))), ((5 : Nat), F.a (A.c (C.sc (Go.Value.int Go.IntKind.i64 x2))))], mem := [], nx := (0 : Nat) } = ifs (decide (x2 < (↑(List.length x0) : Int)) = true) (ifs ((0 : Int) ≤ x2) (Option.bind x0[Int.toNat x2]? fun r => ifs ((0 : Int) ≤ x2) (Option.bind x1[Int.toNat x2]? fun r_1 => ifs ((!ByteArray.toList r == ByteArray.toList r_1) = true) (some (injRs [RT.d Ty.bool] false)) (l42_4 x0 x1 (Go.IntKind.wrap Go.IntKind.i64 (x2 + (1 : Int))))) none) none) (some (injRs [RT.d Ty.bool] true)) := by kernel_rfl
noncomputable def td13_4 : List Item := (findT (code Tryd.f13) [] 4).getD []
noncomputable def l13_4 (x0 : List (Int × ByteArray × ByteArray × Int × List ByteArray × List ByteArray)) (x1 : List (Int × ByteArray × ByteArray × Int × List ByteArray × List ByteArray)) (x2 : Int) : Option (List RV) := cutW W0 n13 td13_4 { fr := [((0 : Nat), F.a (A.c (C.sl ty24 x0))), ((1 : Nat), F.a (A.c (C.sl ty24 x1))), ((5 : Nat), F.a (A.c (C.sc (Go.Value.int Go.IntKind.i64 x2))))], mem := [], nx := (0 : Nat) }
theorem e13 (a0 : List (Int × ByteArray × ByteArray × Int × List ByteArray × List ByteArray)) (a1 : List (Int × ByteArray × ByteArray × Int × List ByteArray × List ByteArray)) : callG W0 (callW W0) (cutW W0) 13 [inj (Ty.sl ty24) a0, inj (Ty.sl ty24) a1] = ifs (((↑(List.length a0) : Int) != (↑(List.length a1) : Int)) = true) (some (injRs [RT.d Ty.bool] false)) (l13_4 a0 a1 (0 : Int)) := by kernel_rfl
theorem q13_4 (x0 : List (Int × ByteArray × ByteArray × Int × List ByteArray × List ByteArray)) (x1 : List (Int × ByteArray × ByteArray × Int × List ByteArray × List ByteArray)) (x2 : Int) : cutG W0 (callW W0) (cutW W0) n13 td13_4 { fr := [((0 : Nat), F.a (A.c (C.sl ty24 x0))), ((1 : Nat), F.a (A.c (C.sl ty24 x1))), ((5 : Nat), F.a (A.c (C.sc (Go.Value.int Go.IntKind.i64 x2))))], mem := [], nx := (0 : Nat) } = ifs (decide (x2 < (↑(List.length x0) : Int)) = true) (ifs ((0 : Int) ≤ x2) (Option.bind x0[Int.toNat x2]? fun r => ifs ((0 : Int) ≤ x2) (Option.bind x1[Int.toNat x2]? fun r_1 => ifs ((r.fst != r_1.fst) = false) (ifs ((0 : Int) ≤ x2) (Option.bind x0[Int.toNat x2]? fun r => ifs ((0 : Int) ≤ x2) (Option.bind x1[Int.toNat x2]? fun r_2 => ifs ((!ByteArray.toList r.snd.fst == ByteArray.toList r_2.snd.fst) = false) (ifs ((0 : Int) ≤ x2) (Option.bind x0[Int.toNat x2]? fun r => ifs ((0 : Int) ≤ x2) (Option.bind x1[Int.toNat x2]? fun r_3 => ifs ((!ByteArray.toList r.snd.snd.fst == ByteArray.toList r_3.snd.snd.fst) = false) (ifs ((0 : Int) ≤ x2) (Option.bind x0[Int.toNat x2]? fun r => ifs ((0 : Int) ≤ x2) (Option.bind x1[Int.toNat x2]? fun r_4 => ifs ((r.snd.snd.snd.fst != r_4.snd.snd.snd.fst) = false) (ifs ((0 : Int) ≤ x2) (Option.bind x0[Int.toNat x2]? fun r => ifs ((0 : Int) ≤ x2) (Option.bind x1[Int.toNat x2]? fun r_5 => Option.bind (cR (nat_lit 42) [RT.d Ty.bool] [inj (Ty.sl Ty.str) r.snd.snd.snd.snd.fst, inj (Ty.sl Ty.str) r_5.snd.snd.snd.snd.fst]) fun r => ifs ((!r) = false) (ifs ((0 : Int) ≤ x2) (Option.bind x0[Int.toNat x2]? fun r => ifs ((0 : Int) ≤ x2) (Option.bind x1[Int.toNat x2]? fun r_6 => Option.bind (cR (nat_lit 42) [RT.d Ty.bool] [inj (Ty.sl Ty.str) r.snd.snd.snd.snd.snd, inj (Ty.sl Ty.str) r_6.snd.snd.snd.snd.snd]) fun r => ifs ((!r) = true) (some (injRs [RT.d Ty.bool] false)) (l13_4 x0 x1 (Go.IntKind.wrap Go.IntKind.i64 (x2 + (1 : Int))))) none) none) (some (injRs [RT.d Ty.bool] false))) none) none) (some (injRs [RT.d Ty.bool] false))) none) none) (some (injRs [RT.d Ty.bool] false))) none) none) (some (injRs [RT.d Ty.bool] false))) none) none) (some (injRs [RT.d Ty.bool] false))) none) none) (some (injRs [RT.d Ty.bool] true)) := by kernel_rfl
noncomputable def td115_4 : List Item := (findT (code Tryd.f115) [] 4).getD []
noncomputable def l115_4 (x0 : List ByteArray) (x1 : List ByteArray) (x2 : Int) (x3 : Int) : Option (List RV) := cutW W0 n115 td115_4 { fr := [((0 : Nat), F.a (A.c (C.sl Ty.str x0))), ((1 : Nat), F.a (A.c (C.sl Ty.str x1))), ((12 : Nat), F.a (A.c (C.sc (Go.Value.int Go.IntKind.i64 x2)))), ((13 : Nat), F.a (A.c (C.sc (Go.Value.int Go.IntKind.i64 x3))))], mem := [], nx := (0 : Nat) }
theorem e115 (a0 : List ByteArray) (a1 : List ByteArray) : callG W0 (callW W0) (cutW W0) 115 [inj (Ty.sl Ty.str) a0, inj (Ty.sl Ty.str) a1] = ifs (((↑(List.length a0) : Int) != (↑(List.length a1) : Int)) = true) (some (injRs [RT.d Ty.bool] false)) (l115_4 a0 a1 (↑(List.length a0) : Int) (0 : Int)) := by kernel_rfl
theorem q115_4 (x0 : List ByteArray) (x1 : List ByteArray) (x2 : Int) (x3 : Int) : cutG W0 (callW W0) (cutW W0) n115 td115_4 { fr := [((0 : Nat), F.a (A.c (C.sl Ty.str x0))), ((1 : Nat), F.a (A.c (C.sl Ty.str x1))), ((12 : Nat), F.a (A.c (C.sc (Go.Value.int Go.IntKind.i64 x2)))), ((13 : Nat), F.a (A.c (C.sc (Go.Value.int Go.IntKind.i64 x3))))], mem := [], nx := (0 : Nat) } = ifs (decide (x3 < x2) = true) (ifs ((0 : Int) ≤ x3) (Option.bind x0[Int.toNat x3]? fun r => ifs ((0 : Int) ≤ x3) (Option.bind x1[Int.toNat x3]? fun r_1 => ifs ((!ByteArray.toList r == ByteArray.toList r_1) = true) (some (injRs [RT.d Ty.bool] false)) (l115_4 x0 x1 x2 (Go.IntKind.wrap Go.IntKind.i64 (x3 + (1 : Int))))) none) none) (some (injRs [RT.d Ty.bool] true)) := by kernel_rfl
theorem e66 (a0 : List ByteArray) (a1 : List ByteArray) : callG W0 (callW W0) (cutW W0) 66 [inj (Ty.sl Ty.str) a0, inj (Ty.sl Ty.str) a1] = Option.bind (cR (nat_lit 115) [RT.d Ty.bool] [inj (Ty.sl Ty.str) a0, inj (Ty.sl Ty.str) a1]) fun r => some (injRs [RT.d Ty.bool] r) := by kernel_rfl
theorem e156 (a0 : ByteArray) : callG W0 (callW W0) (cutW W0) 156 [inj Ty.str a0] = Option.bind (cR (nat_lit 157) [RT.d Ty.bool] [inj Ty.str a0]) fun r => some (injRs [RT.d Ty.bool] !r) := by kernel_rfl
theorem e130 (a0 : ByteArray) : callG W0 (callW W0) (cutW W0) 130 [inj Ty.str a0] = Option.bind (cR (nat_lit 131) [RT.d Ty.bool] [inj Ty.str a0]) fun r => some (injRs [RT.d Ty.bool] !r) := by kernel_rfl
noncomputable def td155a_2 : List Item := (findT (code Tryd.f155) [] 2).getD []
noncomputable def l155a_2 (x0 : List ByteArray) (x1 : Int) (x2 : Int) : Option (List RV) := cutW W0 n155 td155a_2 { fr := [((0 : Nat), F.a (A.c (C.sl Ty.str x0))), ((1 : Nat), F.a (A.c (C.cl (156 : Nat) []))), ((7 : Nat), F.a (A.c (C.sc (Go.Value.int Go.IntKind.i64 x1)))), ((8 : Nat), F.a (A.c (C.sc (Go.Value.int Go.IntKind.i64 x2))))], mem := [], nx := (0 : Nat) }
theorem e155a (a0 : List ByteArray) : callG W0 (callW W0) (cutW W0) 155 [inj (Ty.sl Ty.str) a0, A.c (C.cl (156 : Nat) [])] = l155a_2 a0 (↑(List.length a0) : Int) (0 : Int) := by kernel_rfl
theorem q155a_2 (x0 : List ByteArray) (x1 : Int) (x2 : Int) : cutG W0 (callW W0) (cutW W0) n155 td155a_2 { fr := [((0 : Nat), F.a (A.c (C.sl Ty.str x0))), ((1 : Nat), F.a (A.c (C.cl (156 : Nat) []))), ((7 : Nat), F.a (A.c (C.sc (Go.Value.int Go.IntKind.i64 x1)))), ((8 : Nat), F.a (A.c (C.sc (Go.Value.int Go.IntKind.i64 x2))))], mem := [], nx := (0 : Nat) } = ifs (decide (x2 < x1) = true) (ifs ((0 : Int) ≤ x2) (Option.bind x0[Int.toNat x2]? fun r => Option.bind (cR (nat_lit 156) [RT.d Ty.bool] [inj Ty.str r]) fun r => ifs (r = true) (some (injRs [RT.d (Ty.int Go.IntKind.i64)] x2)) (l155a_2 x0 x1 (Go.IntKind.wrap Go.IntKind.i64 (x2 + (1 : Int))))) none) (some (injRs [RT.d (Ty.int Go.IntKind.i64)] (-1 : Int))) := by kernel_rfl
theorem e109a (a0 : List ByteArray) : callG W0 (callW W0) (cutW W0) 109 [inj (Ty.sl Ty.str) a0, A.c (C.cl (156 : Nat) [])] = Option.bind (cR (nat_lit 155) [RT.d (Ty.int Go.IntKind.i64)] [inj (Ty.sl Ty.str) a0, A.c (C.cl (156 : Nat) [])]) fun r => some (injRs [RT.d Ty.bool] (decide (r ≥ (0 : Int)))) := by kernel_rfl
noncomputable def td155b_2 : List Item := (findT (code Tryd.f155) [] 2).getD []
noncomputable def l155b_2 (x0 : List ByteArray) (x1 : Int) (x2 : Int) : Option (List RV) := cutW W0 n155 td155b_2 { fr := [((0 : Nat), F.a (A.c (C.sl Ty.str x0))), ((1 : Nat), F.a (A.c (C.cl (130 : Nat) []))), ((7 : Nat), F.a (A.c (C.sc (Go.Value.int Go.IntKind.i64 x1)))), ((8 : Nat), F.a (A.c (C.sc (Go.Value.int Go.IntKind.i64 x2))))], mem := [], nx := (0 : Nat) }
theorem e155b (a0 : List ByteArray) : callG W0 (callW W0) (cutW W0) 155 [inj (Ty.sl Ty.str) a0, A.c (C.cl (130 : Nat) [])] = l155b_2 a0 (↑(List.length a0) : Int) (0 : Int) := by kernel_rfl
theorem q155b_2 (x0 : List ByteArray) (x1 : Int) (x2 : Int) : cutG W0 (callW W0) (cutW W0) n155 td155b_2 { fr := [((0 : Nat), F.a (A.c (C.sl Ty.str x0))), ((1 : Nat), F.a (A.c (C.cl (130 : Nat) []))), ((7 : Nat), F.a (A.c (C.sc (Go.Value.int Go.IntKind.i64 x1)))), ((8 : Nat), F.a (A.c (C.sc (Go.Value.int Go.IntKind.i64 x2))))], mem := [], nx := (0 : Nat) } = ifs (decide (x2 < x1) = true) (ifs ((0 : Int) ≤ x2) (Option.bind x0[Int.toNat x2]? fun r => Option.bind (cR (nat_lit 130) [RT.d Ty.bool] [inj Ty.str r]) fun r => ifs (r = true) (some (injRs [RT.d (Ty.int Go.IntKind.i64)] x2)) (l155b_2 x0 x1 (Go.IntKind.wrap Go.IntKind.i64 (x2 + (1 : Int))))) none) (some (injRs [RT.d (Ty.int Go.IntKind.i64)] (-1 : Int))) := by kernel_rfl
theorem e109b (a0 : List ByteArray) : callG W0 (callW W0) (cutW W0) 109 [inj (Ty.sl Ty.str) a0, A.c (C.cl (130 : Nat) [])] = Option.bind (cR (nat_lit 155) [RT.d (Ty.int Go.IntKind.i64)] [inj (Ty.sl Ty.str) a0, A.c (C.cl (130 : Nat) [])]) fun r => some (injRs [RT.d Ty.bool] (decide (r ≥ (0 : Int)))) := by kernel_rfl
theorem e82 (a0 : ByteArray) : callG W0 (callW W0) (cutW W0) 82 [inj Ty.str a0] = Option.bind (cR (nat_lit 129) [RT.own (9 : Go.TypeId) Ty.str] [inj Ty.str a0, inj Ty.str { data := #[(47 : UInt8)] }]) fun r => ifs (decide ((↑(ByteArray.size a0) : Int) ≤ (200 : Int)) = true) (ifs (decide ((↑(List.length r) : Int) ≤ (16 : Int)) = true) (Option.bind (cR (nat_lit 109) [RT.d Ty.bool] [inj (Ty.sl Ty.str) (List.take (List.length r) r), A.c (C.cl (130 : Nat) [])]) fun r => some (injRs [RT.d Ty.bool] !r)) (some (injRs [RT.d Ty.bool] false))) (some (injRs [RT.d Ty.bool] false)) := by kernel_rfl
theorem e111 (a0 : List ByteArray) : callG W0 (callW W0) (cutW W0) 111 [inj (Ty.sl Ty.str) a0] = ifs (decide ((↑(List.length a0) : Int) > (2000 : Int)) = true) (some (injRs [RT.d (Ty.int Go.IntKind.i64)] (4 : Int))) (Option.bind (cR (nat_lit 109) [RT.d Ty.bool] [inj (Ty.sl Ty.str) a0, A.c (C.cl (156 : Nat) [])]) fun r => ifs (r = true) (some (injRs [RT.d (Ty.int Go.IntKind.i64)] (6 : Int))) (some (injRs [RT.d (Ty.int Go.IntKind.i64)] (0 : Int)))) := by kernel_rfl
theorem e61 (a0 : Int × ByteArray × ByteArray × Int × List ByteArray × List ByteArray) : callG W0 (callW W0) (cutW W0) 61 [inj ty24 a0] = ifs ((a0.snd.snd.snd.fst == (0 : Int)) = true) (ifs (decide (a0.fst < (1 : Int)) = false) (ifs (decide (a0.fst > (6 : Int)) = false) (ifs ((a0.fst != (5 : Int)) = true) (ifs ((!ByteArray.toList a0.snd.snd.fst == ByteArray.toList { data := #[] }) = false) (ifs ((a0.fst != (6 : Int)) = true) (ifs ((!Go.IntKind.wrap Go.IntKind.i64 ((↑(List.length a0.snd.snd.snd.snd.fst) : Int) + (↑(List.length a0.snd.snd.snd.snd.snd) : Int)) == (0 : Int)) = true) (some (injRs [RT.d (Ty.int Go.IntKind.i64)] (2 : Int))) (Option.bind (cR (nat_lit 82) [RT.d Ty.bool] [inj Ty.str a0.snd.fst]) fun r => ifs ((!r) = false) (ifs ((a0.fst == (5 : Int)) = true) (Option.bind (cR (nat_lit 82) [RT.d Ty.bool] [inj Ty.str a0.snd.snd.fst]) fun r => ifs ((!r) = false) (ifs ((ByteArray.toList a0.snd.snd.fst == ByteArray.toList a0.snd.fst) = true) (some (injRs [RT.d (Ty.int Go.IntKind.i64)] (8 : Int))) (ifs ((a0.fst == (6 : Int)) = true) (ifs (decide (a0.snd.snd.snd.fst < (0 : Int)) = false) (ifs ((Go.IntKind.wrap Go.IntKind.i64 ((↑(List.length a0.snd.snd.snd.snd.fst) : Int) + (↑(List.length a0.snd.snd.snd.snd.snd) : Int)) == (0 : Int)) = false) (Option.bind (cR (nat_lit 111) [RT.d (Ty.int Go.IntKind.i64)] [inj (Ty.sl Ty.str) a0.snd.snd.snd.snd.fst]) fun r => ifs ((r != (0 : Int)) = false) (Option.bind (cR (nat_lit 111) [RT.d (Ty.int Go.IntKind.i64)] [inj (Ty.sl Ty.str) a0.snd.snd.snd.snd.snd]) fun r => ifs ((r != (0 : Int)) = true) (some (injRs [RT.d (Ty.int Go.IntKind.i64)] (6 : Int))) (some (injRs [RT.d (Ty.int Go.IntKind.i64)] (0 : Int)))) (some (injRs [RT.d (Ty.int Go.IntKind.i64)] (6 : Int)))) (some (injRs [RT.d (Ty.int Go.IntKind.i64)] (6 : Int)))) (some (injRs [RT.d (Ty.int Go.IntKind.i64)] (6 : Int)))) (some (injRs [RT.d (Ty.int Go.IntKind.i64)] (0 : Int))))) (some (injRs [RT.d (Ty.int Go.IntKind.i64)] (8 : Int)))) (ifs ((a0.fst == (6 : Int)) = true) (ifs (decide (a0.snd.snd.snd.fst < (0 : Int)) = false) (ifs ((Go.IntKind.wrap Go.IntKind.i64 ((↑(List.length a0.snd.snd.snd.snd.fst) : Int) + (↑(List.length a0.snd.snd.snd.snd.snd) : Int)) == (0 : Int)) = false) (Option.bind (cR (nat_lit 111) [RT.d (Ty.int Go.IntKind.i64)] [inj (Ty.sl Ty.str) a0.snd.snd.snd.snd.fst]) fun r => ifs ((r != (0 : Int)) = false) (Option.bind (cR (nat_lit 111) [RT.d (Ty.int Go.IntKind.i64)] [inj (Ty.sl Ty.str) a0.snd.snd.snd.snd.snd]) fun r => ifs ((r != (0 : Int)) = true) (some (injRs [RT.d (Ty.int Go.IntKind.i64)] (6 : Int))) (some (injRs [RT.d (Ty.int Go.IntKind.i64)] (0 : Int)))) (some (injRs [RT.d (Ty.int Go.IntKind.i64)] (6 : Int)))) (some (injRs [RT.d (Ty.int Go.IntKind.i64)] (6 : Int)))) (some (injRs [RT.d (Ty.int Go.IntKind.i64)] (6 : Int)))) (some (injRs [RT.d (Ty.int Go.IntKind.i64)] (0 : Int))))) (some (injRs [RT.d (Ty.int Go.IntKind.i64)] (8 : Int))))) (Option.bind (cR (nat_lit 82) [RT.d Ty.bool] [inj Ty.str a0.snd.fst]) fun r => ifs ((!r) = false) (ifs ((a0.fst == (5 : Int)) = true) (Option.bind (cR (nat_lit 82) [RT.d Ty.bool] [inj Ty.str a0.snd.snd.fst]) fun r => ifs ((!r) = false) (ifs ((ByteArray.toList a0.snd.snd.fst == ByteArray.toList a0.snd.fst) = true) (some (injRs [RT.d (Ty.int Go.IntKind.i64)] (8 : Int))) (ifs ((a0.fst == (6 : Int)) = true) (ifs (decide (a0.snd.snd.snd.fst < (0 : Int)) = false) (ifs ((Go.IntKind.wrap Go.IntKind.i64 ((↑(List.length a0.snd.snd.snd.snd.fst) : Int) + (↑(List.length a0.snd.snd.snd.snd.snd) : Int)) == (0 : Int)) = false) (Option.bind (cR (nat_lit 111) [RT.d (Ty.int Go.IntKind.i64)] [inj (Ty.sl Ty.str) a0.snd.snd.snd.snd.fst]) fun r => ifs ((r != (0 : Int)) = false) (Option.bind (cR (nat_lit 111) [RT.d (Ty.int Go.IntKind.i64)] [inj (Ty.sl Ty.str) a0.snd.snd.snd.snd.snd]) fun r => ifs ((r != (0 : Int)) = true) (some (injRs [RT.d (Ty.int Go.IntKind.i64)] (6 : Int))) (some (injRs [RT.d (Ty.int Go.IntKind.i64)] (0 : Int)))) (some (injRs [RT.d (Ty.int Go.IntKind.i64)] (6 : Int)))) (some (injRs [RT.d (Ty.int Go.IntKind.i64)] (6 : Int)))) (some (injRs [RT.d (Ty.int Go.IntKind.i64)] (6 : Int)))) (some (injRs [RT.d (Ty.int Go.IntKind.i64)] (0 : Int))))) (some (injRs [RT.d (Ty.int Go.IntKind.i64)] (8 : Int)))) (ifs ((a0.fst == (6 : Int)) = true) (ifs (decide (a0.snd.snd.snd.fst < (0 : Int)) = false) (ifs ((Go.IntKind.wrap Go.IntKind.i64 ((↑(List.length a0.snd.snd.snd.snd.fst) : Int) + (↑(List.length a0.snd.snd.snd.snd.snd) : Int)) == (0 : Int)) = false) (Option.bind (cR (nat_lit 111) [RT.d (Ty.int Go.IntKind.i64)] [inj (Ty.sl Ty.str) a0.snd.snd.snd.snd.fst]) fun r => ifs ((r != (0 : Int)) = false) (Option.bind (cR (nat_lit 111) [RT.d (Ty.int Go.IntKind.i64)] [inj (Ty.sl Ty.str) a0.snd.snd.snd.snd.snd]) fun r => ifs ((r != (0 : Int)) = true) (some (injRs [RT.d (Ty.int Go.IntKind.i64)] (6 : Int))) (some (injRs [RT.d (Ty.int Go.IntKind.i64)] (0 : Int)))) (some (injRs [RT.d (Ty.int Go.IntKind.i64)] (6 : Int)))) (some (injRs [RT.d (Ty.int Go.IntKind.i64)] (6 : Int)))) (some (injRs [RT.d (Ty.int Go.IntKind.i64)] (6 : Int)))) (some (injRs [RT.d (Ty.int Go.IntKind.i64)] (0 : Int))))) (some (injRs [RT.d (Ty.int Go.IntKind.i64)] (8 : Int))))) (some (injRs [RT.d (Ty.int Go.IntKind.i64)] (2 : Int)))) (ifs ((a0.fst != (6 : Int)) = true) (ifs ((!Go.IntKind.wrap Go.IntKind.i64 ((↑(List.length a0.snd.snd.snd.snd.fst) : Int) + (↑(List.length a0.snd.snd.snd.snd.snd) : Int)) == (0 : Int)) = true) (some (injRs [RT.d (Ty.int Go.IntKind.i64)] (2 : Int))) (Option.bind (cR (nat_lit 82) [RT.d Ty.bool] [inj Ty.str a0.snd.fst]) fun r => ifs ((!r) = false) (ifs ((a0.fst == (5 : Int)) = true) (Option.bind (cR (nat_lit 82) [RT.d Ty.bool] [inj Ty.str a0.snd.snd.fst]) fun r => ifs ((!r) = false) (ifs ((ByteArray.toList a0.snd.snd.fst == ByteArray.toList a0.snd.fst) = true) (some (injRs [RT.d (Ty.int Go.IntKind.i64)] (8 : Int))) (ifs ((a0.fst == (6 : Int)) = true) (ifs (decide (a0.snd.snd.snd.fst < (0 : Int)) = false) (ifs ((Go.IntKind.wrap Go.IntKind.i64 ((↑(List.length a0.snd.snd.snd.snd.fst) : Int) + (↑(List.length a0.snd.snd.snd.snd.snd) : Int)) == (0 : Int)) = false) (Option.bind (cR (nat_lit 111) [RT.d (Ty.int Go.IntKind.i64)] [inj (Ty.sl Ty.str) a0.snd.snd.snd.snd.fst]) fun r => ifs ((r != (0 : Int)) = false) (Option.bind (cR (nat_lit 111) [RT.d (Ty.int Go.IntKind.i64)] [inj (Ty.sl Ty.str) a0.snd.snd.snd.snd.snd]) fun r => ifs ((r != (0 : Int)) = true) (some (injRs [RT.d (Ty.int Go.IntKind.i64)] (6 : Int))) (some (injRs [RT.d (Ty.int Go.IntKind.i64)] (0 : Int)))) (some (injRs [RT.d (Ty.int Go.IntKind.i64)] (6 : Int)))) (some (injRs [RT.d (Ty.int Go.IntKind.i64)] (6 : Int)))) (some (injRs [RT.d (Ty.int Go.IntKind.i64)] (6 : Int)))) (some (injRs [RT.d (Ty.int Go.IntKind.i64)] (0 : Int))))) (some (injRs [RT.d (Ty.int Go.IntKind.i64)] (8 : Int)))) (ifs ((a0.fst == (6 : Int)) = true) (ifs (decide (a0.snd.snd.snd.fst < (0 : Int)) = false) (ifs ((Go.IntKind.wrap Go.IntKind.i64 ((↑(List.length a0.snd.snd.snd.snd.fst) : Int) + (↑(List.length a0.snd.snd.snd.snd.snd) : Int)) == (0 : Int)) = false) (Option.bind (cR (nat_lit 111) [RT.d (Ty.int Go.IntKind.i64)] [inj (Ty.sl Ty.str) a0.snd.snd.snd.snd.fst]) fun r => ifs ((r != (0 : Int)) = false) (Option.bind (cR (nat_lit 111) [RT.d (Ty.int Go.IntKind.i64)] [inj (Ty.sl Ty.str) a0.snd.snd.snd.snd.snd]) fun r => ifs ((r != (0 : Int)) = true) (some (injRs [RT.d (Ty.int Go.IntKind.i64)] (6 : Int))) (some (injRs [RT.d (Ty.int Go.IntKind.i64)] (0 : Int)))) (some (injRs [RT.d (Ty.int Go.IntKind.i64)] (6 : Int)))) (some (injRs [RT.d (Ty.int Go.IntKind.i64)] (6 : Int)))) (some (injRs [RT.d (Ty.int Go.IntKind.i64)] (6 : Int)))) (some (injRs [RT.d (Ty.int Go.IntKind.i64)] (0 : Int))))) (some (injRs [RT.d (Ty.int Go.IntKind.i64)] (8 : Int))))) (Option.bind (cR (nat_lit 82) [RT.d Ty.bool] [inj Ty.str a0.snd.fst]) fun r => ifs ((!r) = false) (ifs ((a0.fst == (5 : Int)) = true) (Option.bind (cR (nat_lit 82) [RT.d Ty.bool] [inj Ty.str a0.snd.snd.fst]) fun r => ifs ((!r) = false) (ifs ((ByteArray.toList a0.snd.snd.fst == ByteArray.toList a0.snd.fst) = true) (some (injRs [RT.d (Ty.int Go.IntKind.i64)] (8 : Int))) (ifs ((a0.fst == (6 : Int)) = true) (ifs (decide (a0.snd.snd.snd.fst < (0 : Int)) = false) (ifs ((Go.IntKind.wrap Go.IntKind.i64 ((↑(List.length a0.snd.snd.snd.snd.fst) : Int) + (↑(List.length a0.snd.snd.snd.snd.snd) : Int)) == (0 : Int)) = false) (Option.bind (cR (nat_lit 111) [RT.d (Ty.int Go.IntKind.i64)] [inj (Ty.sl Ty.str) a0.snd.snd.snd.snd.fst]) fun r => ifs ((r != (0 : Int)) = false) (Option.bind (cR (nat_lit 111) [RT.d (Ty.int Go.IntKind.i64)] [inj (Ty.sl Ty.str) a0.snd.snd.snd.snd.snd]) fun r => ifs ((r != (0 : Int)) = true) (some (injRs [RT.d (Ty.int Go.IntKind.i64)] (6 : Int))) (some (injRs [RT.d (Ty.int Go.IntKind.i64)] (0 : Int)))) (some (injRs [RT.d (Ty.int Go.IntKind.i64)] (6 : Int)))) (some (injRs [RT.d (Ty.int Go.IntKind.i64)] (6 : Int)))) (some (injRs [RT.d (Ty.int Go.IntKind.i64)] (6 : Int)))) (some (injRs [RT.d (Ty.int Go.IntKind.i64)] (0 : Int))))) (some (injRs [RT.d (Ty.int Go.IntKind.i64)] (8 : Int)))) (ifs ((a0.fst == (6 : Int)) = true) (ifs (decide (a0.snd.snd.snd.fst < (0 : Int)) = false) (ifs ((Go.IntKind.wrap Go.IntKind.i64 ((↑(List.length a0.snd.snd.snd.snd.fst) : Int) + (↑(List.length a0.snd.snd.snd.snd.snd) : Int)) == (0 : Int)) = false) (Option.bind (cR (nat_lit 111) [RT.d (Ty.int Go.IntKind.i64)] [inj (Ty.sl Ty.str) a0.snd.snd.snd.snd.fst]) fun r => ifs ((r != (0 : Int)) = false) (Option.bind (cR (nat_lit 111) [RT.d (Ty.int Go.IntKind.i64)] [inj (Ty.sl Ty.str) a0.snd.snd.snd.snd.snd]) fun r => ifs ((r != (0 : Int)) = true) (some (injRs [RT.d (Ty.int Go.IntKind.i64)] (6 : Int))) (some (injRs [RT.d (Ty.int Go.IntKind.i64)] (0 : Int)))) (some (injRs [RT.d (Ty.int Go.IntKind.i64)] (6 : Int)))) (some (injRs [RT.d (Ty.int Go.IntKind.i64)] (6 : Int)))) (some (injRs [RT.d (Ty.int Go.IntKind.i64)] (6 : Int)))) (some (injRs [RT.d (Ty.int Go.IntKind.i64)] (0 : Int))))) (some (injRs [RT.d (Ty.int Go.IntKind.i64)] (8 : Int)))))) (some (injRs [RT.d (Ty.int Go.IntKind.i64)] (2 : Int)))) (some (injRs [RT.d (Ty.int Go.IntKind.i64)] (2 : Int)))) (ifs (decide (a0.fst < (1 : Int)) = false) (ifs (decide (a0.fst > (6 : Int)) = false) (ifs ((a0.fst != (5 : Int)) = true) (ifs ((!ByteArray.toList a0.snd.snd.fst == ByteArray.toList { data := #[] }) = false) (ifs ((a0.fst != (6 : Int)) = true) (some (injRs [RT.d (Ty.int Go.IntKind.i64)] (2 : Int))) (Option.bind (cR (nat_lit 82) [RT.d Ty.bool] [inj Ty.str a0.snd.fst]) fun r => ifs ((!r) = false) (ifs ((a0.fst == (5 : Int)) = true) (Option.bind (cR (nat_lit 82) [RT.d Ty.bool] [inj Ty.str a0.snd.snd.fst]) fun r => ifs ((!r) = false) (ifs ((ByteArray.toList a0.snd.snd.fst == ByteArray.toList a0.snd.fst) = true) (some (injRs [RT.d (Ty.int Go.IntKind.i64)] (8 : Int))) (ifs ((a0.fst == (6 : Int)) = true) (ifs (decide (a0.snd.snd.snd.fst < (0 : Int)) = false) (ifs ((Go.IntKind.wrap Go.IntKind.i64 ((↑(List.length a0.snd.snd.snd.snd.fst) : Int) + (↑(List.length a0.snd.snd.snd.snd.snd) : Int)) == (0 : Int)) = false) (Option.bind (cR (nat_lit 111) [RT.d (Ty.int Go.IntKind.i64)] [inj (Ty.sl Ty.str) a0.snd.snd.snd.snd.fst]) fun r => ifs ((r != (0 : Int)) = false) (Option.bind (cR (nat_lit 111) [RT.d (Ty.int Go.IntKind.i64)] [inj (Ty.sl Ty.str) a0.snd.snd.snd.snd.snd]) fun r => ifs ((r != (0 : Int)) = true) (some (injRs [RT.d (Ty.int Go.IntKind.i64)] (6 : Int))) (some (injRs [RT.d (Ty.int Go.IntKind.i64)] (0 : Int)))) (some (injRs [RT.d (Ty.int Go.IntKind.i64)] (6 : Int)))) (some (injRs [RT.d (Ty.int Go.IntKind.i64)] (6 : Int)))) (some (injRs [RT.d (Ty.int Go.IntKind.i64)] (6 : Int)))) (some (injRs [RT.d (Ty.int Go.IntKind.i64)] (0 : Int))))) (some (injRs [RT.d (Ty.int Go.IntKind.i64)] (8 : Int)))) (ifs ((a0.fst == (6 : Int)) = true) (ifs (decide (a0.snd.snd.snd.fst < (0 : Int)) = false) (ifs ((Go.IntKind.wrap Go.IntKind.i64 ((↑(List.length a0.snd.snd.snd.snd.fst) : Int) + (↑(List.length a0.snd.snd.snd.snd.snd) : Int)) == (0 : Int)) = false) (Option.bind (cR (nat_lit 111) [RT.d (Ty.int Go.IntKind.i64)] [inj (Ty.sl Ty.str) a0.snd.snd.snd.snd.fst]) fun r => ifs ((r != (0 : Int)) = false) (Option.bind (cR (nat_lit 111) [RT.d (Ty.int Go.IntKind.i64)] [inj (Ty.sl Ty.str) a0.snd.snd.snd.snd.snd]) fun r => ifs ((r != (0 : Int)) = true) (some (injRs [RT.d (Ty.int Go.IntKind.i64)] (6 : Int))) (some (injRs [RT.d (Ty.int Go.IntKind.i64)] (0 : Int)))) (some (injRs [RT.d (Ty.int Go.IntKind.i64)] (6 : Int)))) (some (injRs [RT.d (Ty.int Go.IntKind.i64)] (6 : Int)))) (some (injRs [RT.d (Ty.int Go.IntKind.i64)] (6 : Int)))) (some (injRs [RT.d (Ty.int Go.IntKind.i64)] (0 : Int))))) (some (injRs [RT.d (Ty.int Go.IntKind.i64)] (8 : Int))))) (some (injRs [RT.d (Ty.int Go.IntKind.i64)] (2 : Int)))) (ifs ((a0.fst != (6 : Int)) = true) (some (injRs [RT.d (Ty.int Go.IntKind.i64)] (2 : Int))) (Option.bind (cR (nat_lit 82) [RT.d Ty.bool] [inj Ty.str a0.snd.fst]) fun r => ifs ((!r) = false) (ifs ((a0.fst == (5 : Int)) = true) (Option.bind (cR (nat_lit 82) [RT.d Ty.bool] [inj Ty.str a0.snd.snd.fst]) fun r => ifs ((!r) = false) (ifs ((ByteArray.toList a0.snd.snd.fst == ByteArray.toList a0.snd.fst) = true) (some (injRs [RT.d (Ty.int Go.IntKind.i64)] (8 : Int))) (ifs ((a0.fst == (6 : Int)) = true) (ifs (decide (a0.snd.snd.snd.fst < (0 : Int)) = false) (ifs ((Go.IntKind.wrap Go.IntKind.i64 ((↑(List.length a0.snd.snd.snd.snd.fst) : Int) + (↑(List.length a0.snd.snd.snd.snd.snd) : Int)) == (0 : Int)) = false) (Option.bind (cR (nat_lit 111) [RT.d (Ty.int Go.IntKind.i64)] [inj (Ty.sl Ty.str) a0.snd.snd.snd.snd.fst]) fun r => ifs ((r != (0 : Int)) = false) (Option.bind (cR (nat_lit 111) [RT.d (Ty.int Go.IntKind.i64)] [inj (Ty.sl Ty.str) a0.snd.snd.snd.snd.snd]) fun r => ifs ((r != (0 : Int)) = true) (some (injRs [RT.d (Ty.int Go.IntKind.i64)] (6 : Int))) (some (injRs [RT.d (Ty.int Go.IntKind.i64)] (0 : Int)))) (some (injRs [RT.d (Ty.int Go.IntKind.i64)] (6 : Int)))) (some (injRs [RT.d (Ty.int Go.IntKind.i64)] (6 : Int)))) (some (injRs [RT.d (Ty.int Go.IntKind.i64)] (6 : Int)))) (some (injRs [RT.d (Ty.int Go.IntKind.i64)] (0 : Int))))) (some (injRs [RT.d (Ty.int Go.IntKind.i64)] (8 : Int)))) (ifs ((a0.fst == (6 : Int)) = true) (ifs (decide (a0.snd.snd.snd.fst < (0 : Int)) = false) (ifs ((Go.IntKind.wrap Go.IntKind.i64 ((↑(List.length a0.snd.snd.snd.snd.fst) : Int) + (↑(List.length a0.snd.snd.snd.snd.snd) : Int)) == (0 : Int)) = false) (Option.bind (cR (nat_lit 111) [RT.d (Ty.int Go.IntKind.i64)] [inj (Ty.sl Ty.str) a0.snd.snd.snd.snd.fst]) fun r => ifs ((r != (0 : Int)) = false) (Option.bind (cR (nat_lit 111) [RT.d (Ty.int Go.IntKind.i64)] [inj (Ty.sl Ty.str) a0.snd.snd.snd.snd.snd]) fun r => ifs ((r != (0 : Int)) = true) (some (injRs [RT.d (Ty.int Go.IntKind.i64)] (6 : Int))) (some (injRs [RT.d (Ty.int Go.IntKind.i64)] (0 : Int)))) (some (injRs [RT.d (Ty.int Go.IntKind.i64)] (6 : Int)))) (some (injRs [RT.d (Ty.int Go.IntKind.i64)] (6 : Int)))) (some (injRs [RT.d (Ty.int Go.IntKind.i64)] (6 : Int)))) (some (injRs [RT.d (Ty.int Go.IntKind.i64)] (0 : Int))))) (some (injRs [RT.d (Ty.int Go.IntKind.i64)] (8 : Int)))))) (some (injRs [RT.d (Ty.int Go.IntKind.i64)] (2 : Int)))) (some (injRs [RT.d (Ty.int Go.IntKind.i64)] (2 : Int)))) := by kernel_rfl
theorem e20 (a0 : Int × ByteArray × ByteArray × Int × List ByteArray × List ByteArray) (a1 : Int × ByteArray × ByteArray × Int × List ByteArray × List ByteArray) : callG W0 (callW W0) (cutW W0) 20 [inj ty24 a0, inj ty24 a1] = ifs ((a0.fst == (6 : Int)) = true) (ifs ((a1.fst == (6 : Int)) = true) (ifs ((!ByteArray.toList a0.snd.fst == ByteArray.toList a1.snd.fst) = false) (Option.bind (cR (nat_lit 61) [RT.d (Ty.int Go.IntKind.i64)] [inj ty24 a0]) fun r => ifs ((r != (0 : Int)) = false) (Option.bind (cR (nat_lit 61) [RT.d (Ty.int Go.IntKind.i64)] [inj ty24 a1]) fun r => ifs ((r != (0 : Int)) = true) (some (injRs [RT.d Ty.bool] false)) (ifs (decide (Go.IntKind.wrap Go.IntKind.i64 (a1.snd.snd.snd.fst - (↑(List.length a0.snd.snd.snd.snd.snd) : Int)) ≤ a0.snd.snd.snd.fst) = true) (some (injRs [RT.d Ty.bool] (decide (Go.IntKind.wrap Go.IntKind.i64 (a0.snd.snd.snd.fst - (↑(List.length a1.snd.snd.snd.snd.fst) : Int)) ≤ a1.snd.snd.snd.fst)))) (some (injRs [RT.d Ty.bool] false)))) (some (injRs [RT.d Ty.bool] false))) (some (injRs [RT.d Ty.bool] false))) (some (injRs [RT.d Ty.bool] false))) (some (injRs [RT.d Ty.bool] false)) := by kernel_rfl
theorem e69 (a0 : Int) (a1 : Int) (a2 : Int × ByteArray × ByteArray × Int × List ByteArray × List ByteArray) : callG W0 (callW W0) (cutW W0) 69 [inj (Ty.int Go.IntKind.i64) a0, inj (Ty.int Go.IntKind.i64) a1, A.c (C.pt (Pt.sh ty24 a2 (0 : Nat)))] = ifs ((0 : Int) ≤ imin (imax a1 (imin (imax a0 (0 : Int)) (↑(List.length a2.snd.snd.snd.snd.snd) : Int))) (↑(List.length a2.snd.snd.snd.snd.snd) : Int) ∧ imin (imax a1 (imin (imax a0 (0 : Int)) (↑(List.length a2.snd.snd.snd.snd.snd) : Int))) (↑(List.length a2.snd.snd.snd.snd.snd) : Int) ≤ (↑(List.length a2.snd.snd.snd.snd.snd) : Int)) (ifs ((0 : Int) ≤ imin (imax a0 (0 : Int)) (↑(List.length a2.snd.snd.snd.snd.snd) : Int) ∧ imin (imax a0 (0 : Int)) (↑(List.length a2.snd.snd.snd.snd.snd) : Int) ≤ imin (imax a1 (imin (imax a0 (0 : Int)) (↑(List.length a2.snd.snd.snd.snd.snd) : Int))) (↑(List.length a2.snd.snd.snd.snd.snd) : Int)) (some (injRs [RT.d (Ty.sl Ty.str)] (List.drop (Int.toNat (imin (imax a0 (0 : Int)) (↑(List.length a2.snd.snd.snd.snd.snd) : Int))) (List.take (Int.toNat (imin (imax a1 (imin (imax a0 (0 : Int)) (↑(List.length a2.snd.snd.snd.snd.snd) : Int))) (↑(List.length a2.snd.snd.snd.snd.snd) : Int))) a2.snd.snd.snd.snd.snd)))) none) none := by kernel_rfl
noncomputable def td70_3 : List Item := (findT (code Tryd.f70) [] 3).getD []
noncomputable def l70_3 (x0 : List (List ByteArray)) (x1 : Int) (x2 : List (List ByteArray)) (x3 : Int) (x4 : Int) : Option (List RV) := cutW W0 n70 td70_3 { fr := [((0 : Nat), F.a (A.c (C.sl (Ty.sl Ty.str) x0))), ((3 : Nat), F.a (A.c (C.sc (Go.Value.int Go.IntKind.i64 x1)))), ((9 : Nat), F.a (A.c (C.sl (Ty.sl Ty.str) x2))), ((10 : Nat), F.a (A.c (C.sc (Go.Value.int Go.IntKind.i64 x3)))), ((11 : Nat), F.a (A.c (C.sc (Go.Value.int Go.IntKind.i64 x4))))], mem := [], nx := (0 : Nat) }
noncomputable def td70_11 : List Item := (findT (code Tryd.f70) [] 11).getD []
noncomputable def l70_11 (x0 : List (List ByteArray)) (x1 : Int) (x2 : Int) (x3 : List ByteArray) : Option (List RV) := cutW W0 n70 td70_11 { fr := [((6 : Nat), F.a (A.c (C.ow (0 : Nat) (List.length x3)))), ((25 : Nat), F.a (A.c (C.sl (Ty.sl Ty.str) x0))), ((26 : Nat), F.a (A.c (C.sc (Go.Value.int Go.IntKind.i64 x1)))), ((27 : Nat), F.a (A.c (C.sc (Go.Value.int Go.IntKind.i64 x2))))], mem := [some (Row.arr (9 : Nat) Ty.str x3 false)], nx := (1 : Nat) }
theorem e70 (a0 : List (List ByteArray)) : callG W0 (callW W0) (cutW W0) 70 [inj (Ty.sl (Ty.sl Ty.str)) a0] = l70_3 a0 (0 : Int) a0 (↑(List.length a0) : Int) (0 : Int) := by kernel_rfl
theorem q70_3 (x0 : List (List ByteArray)) (x1 : Int) (x2 : List (List ByteArray)) (x3 : Int) (x4 : Int) : cutG W0 (callW W0) (cutW W0) n70 td70_3 { fr := [((0 : Nat), F.a (A.c (C.sl (Ty.sl Ty.str) x0))), ((3 : Nat), F.a (A.c (C.sc (Go.Value.int Go.IntKind.i64 x1)))), ((9 : Nat), F.a (A.c (C.sl (Ty.sl Ty.str) x2))), ((10 : Nat), F.a (A.c (C.sc (Go.Value.int Go.IntKind.i64 x3)))), ((11 : Nat), F.a (A.c (C.sc (Go.Value.int Go.IntKind.i64 x4))))], mem := [], nx := (0 : Nat) } = ifs (decide (x4 < x3) = true) (ifs ((0 : Int) ≤ x4) (Option.bind x2[Int.toNat x4]? fun r => ifs (decide (Go.IntKind.wrap Go.IntKind.i64 (x1 + (↑(List.length r) : Int)) < (0 : Int)) = true) none (l70_3 x0 (Go.IntKind.wrap Go.IntKind.i64 (x1 + (↑(List.length r) : Int))) x2 x3 (Go.IntKind.wrap Go.IntKind.i64 (x4 + (1 : Int))))) none) (Option.bind (cR (nat_lit 116) [RT.own (9 : Go.TypeId) Ty.str] [A.c C.nl, inj (Ty.int Go.IntKind.i64) x1]) fun r => l70_11 x0 (↑(List.length x0) : Int) (0 : Int) r) := by kernel_rfl
theorem q70_11 (x0 : List (List ByteArray)) (x1 : Int) (x2 : Int) (x3 : List ByteArray) : cutG W0 (callW W0) (cutW W0) n70 td70_11 { fr := [((6 : Nat), F.a (A.c (C.ow (0 : Nat) (List.length x3)))), ((25 : Nat), F.a (A.c (C.sl (Ty.sl Ty.str) x0))), ((26 : Nat), F.a (A.c (C.sc (Go.Value.int Go.IntKind.i64 x1)))), ((27 : Nat), F.a (A.c (C.sc (Go.Value.int Go.IntKind.i64 x2))))], mem := [some (Row.arr (9 : Nat) Ty.str x3 false)], nx := (1 : Nat) } = ifs (decide (x2 < x1) = true) (ifs ((0 : Int) ≤ x2) (Option.bind x0[Int.toNat x2]? fun r => ifs ((List.length x3 + List.length r) * nat_lit 16 ≤ (140737488355328 : Nat)) (l70_11 x0 x1 (Go.IntKind.wrap Go.IntKind.i64 (x2 + (1 : Int))) (List.take (List.length x3) x3 ++ r)) none) none) (some (injRs [RT.own (9 : Go.TypeId) Ty.str] (List.take (List.length x3) x3))) := by kernel_rfl
theorem e18 (a0 : Int × ByteArray × ByteArray × Int × List ByteArray × List ByteArray) (a1 : Int × ByteArray × ByteArray × Int × List ByteArray × List ByteArray) : callG W0 (callW W0) (cutW W0) 18 [inj ty24 a0, inj ty24 a1] = Option.bind (cR (nat_lit 20) [RT.d Ty.bool] [inj ty24 a0, inj ty24 a1]) fun r => ifs ((!r) = true) (some (injRs [RT.d ty24, RT.d Ty.bool] (((0 : Int), { data := #[] }, { data := #[] }, (0 : Int), [], []), false))) (ifs ((0 : Int) ≤ Go.IntKind.wrap Go.IntKind.i64 ((↑(List.length a1.snd.snd.snd.snd.fst) : Int) - imin (imax (Go.IntKind.wrap Go.IntKind.i64 (Go.IntKind.wrap Go.IntKind.i64 (Go.IntKind.wrap Go.IntKind.i64 (a1.snd.snd.snd.fst - a0.snd.snd.snd.fst) + (↑(List.length a1.snd.snd.snd.snd.fst) : Int)) - (↑(List.length a0.snd.snd.snd.snd.snd) : Int))) (0 : Int)) (↑(List.length a1.snd.snd.snd.snd.fst) : Int)) ∧ Go.IntKind.wrap Go.IntKind.i64 ((↑(List.length a1.snd.snd.snd.snd.fst) : Int) - imin (imax (Go.IntKind.wrap Go.IntKind.i64 (Go.IntKind.wrap Go.IntKind.i64 (Go.IntKind.wrap Go.IntKind.i64 (a1.snd.snd.snd.fst - a0.snd.snd.snd.fst) + (↑(List.length a1.snd.snd.snd.snd.fst) : Int)) - (↑(List.length a0.snd.snd.snd.snd.snd) : Int))) (0 : Int)) (↑(List.length a1.snd.snd.snd.snd.fst) : Int)) ≤ (↑(List.length a1.snd.snd.snd.snd.fst) : Int)) (ifs ((0 : Int) ≤ imin (imax (Go.IntKind.wrap Go.IntKind.i64 ((0 : Int) - Go.IntKind.wrap Go.IntKind.i64 (a1.snd.snd.snd.fst - a0.snd.snd.snd.fst))) (0 : Int)) (↑(List.length a1.snd.snd.snd.snd.fst) : Int) ∧ imin (imax (Go.IntKind.wrap Go.IntKind.i64 ((0 : Int) - Go.IntKind.wrap Go.IntKind.i64 (a1.snd.snd.snd.fst - a0.snd.snd.snd.fst))) (0 : Int)) (↑(List.length a1.snd.snd.snd.snd.fst) : Int) ≤ Go.IntKind.wrap Go.IntKind.i64 ((↑(List.length a1.snd.snd.snd.snd.fst) : Int) - imin (imax (Go.IntKind.wrap Go.IntKind.i64 (Go.IntKind.wrap Go.IntKind.i64 (Go.IntKind.wrap Go.IntKind.i64 (a1.snd.snd.snd.fst - a0.snd.snd.snd.fst) + (↑(List.length a1.snd.snd.snd.snd.fst) : Int)) - (↑(List.length a0.snd.snd.snd.snd.snd) : Int))) (0 : Int)) (↑(List.length a1.snd.snd.snd.snd.fst) : Int))) (Option.bind (cR (nat_lit 69) [RT.d (Ty.sl Ty.str)] [inj (Ty.int Go.IntKind.i64) (Go.IntKind.wrap Go.IntKind.i64 (a1.snd.snd.snd.fst - a0.snd.snd.snd.fst)), inj (Ty.int Go.IntKind.i64) (Go.IntKind.wrap Go.IntKind.i64 (Go.IntKind.wrap Go.IntKind.i64 (a1.snd.snd.snd.fst - a0.snd.snd.snd.fst) + (↑(List.length a1.snd.snd.snd.snd.fst) : Int))), A.c (C.pt (Pt.sh ty24 a0 (0 : Nat)))]) fun r => Option.bind (cR (nat_lit 66) [RT.d Ty.bool] [inj (Ty.sl Ty.str) (List.drop (Int.toNat (imin (imax (Go.IntKind.wrap Go.IntKind.i64 ((0 : Int) - Go.IntKind.wrap Go.IntKind.i64 (a1.snd.snd.snd.fst - a0.snd.snd.snd.fst))) (0 : Int)) (↑(List.length a1.snd.snd.snd.snd.fst) : Int))) (List.take (Int.toNat (Go.IntKind.wrap Go.IntKind.i64 ((↑(List.length a1.snd.snd.snd.snd.fst) : Int) - imin (imax (Go.IntKind.wrap Go.IntKind.i64 (Go.IntKind.wrap Go.IntKind.i64 (Go.IntKind.wrap Go.IntKind.i64 (a1.snd.snd.snd.fst - a0.snd.snd.snd.fst) + (↑(List.length a1.snd.snd.snd.snd.fst) : Int)) - (↑(List.length a0.snd.snd.snd.snd.snd) : Int))) (0 : Int)) (↑(List.length a1.snd.snd.snd.snd.fst) : Int)))) a1.snd.snd.snd.snd.fst)), inj (Ty.sl Ty.str) r]) fun r => ifs ((!r) = true) (some (injRs [RT.d ty24, RT.d Ty.bool] (((0 : Int), { data := #[] }, { data := #[] }, (0 : Int), [], []), false))) (ifs ((0 : Int) ≤ imax (Go.IntKind.wrap Go.IntKind.i64 ((0 : Int) - Go.IntKind.wrap Go.IntKind.i64 (a1.snd.snd.snd.fst - a0.snd.snd.snd.fst))) (0 : Int) ∧ imax (Go.IntKind.wrap Go.IntKind.i64 ((0 : Int) - Go.IntKind.wrap Go.IntKind.i64 (a1.snd.snd.snd.fst - a0.snd.snd.snd.fst))) (0 : Int) ≤ (↑(List.length a1.snd.snd.snd.snd.fst) : Int)) (ifs ((0 : Int) ≤ (0 : Int) ∧ (0 : Int) ≤ imax (Go.IntKind.wrap Go.IntKind.i64 ((0 : Int) - Go.IntKind.wrap Go.IntKind.i64 (a1.snd.snd.snd.fst - a0.snd.snd.snd.fst))) (0 : Int)) (ifs ((0 : Int) ≤ (↑(List.length a1.snd.snd.snd.snd.fst) : Int) ∧ (↑(List.length a1.snd.snd.snd.snd.fst) : Int) ≤ (↑(List.length a1.snd.snd.snd.snd.fst) : Int)) (ifs ((0 : Int) ≤ Go.IntKind.wrap Go.IntKind.i64 ((↑(List.length a1.snd.snd.snd.snd.fst) : Int) - imax (Go.IntKind.wrap Go.IntKind.i64 (Go.IntKind.wrap Go.IntKind.i64 (Go.IntKind.wrap Go.IntKind.i64 (a1.snd.snd.snd.fst - a0.snd.snd.snd.fst) + (↑(List.length a1.snd.snd.snd.snd.fst) : Int)) - (↑(List.length a0.snd.snd.snd.snd.snd) : Int))) (0 : Int)) ∧ Go.IntKind.wrap Go.IntKind.i64 ((↑(List.length a1.snd.snd.snd.snd.fst) : Int) - imax (Go.IntKind.wrap Go.IntKind.i64 (Go.IntKind.wrap Go.IntKind.i64 (Go.IntKind.wrap Go.IntKind.i64 (a1.snd.snd.snd.fst - a0.snd.snd.snd.fst) + (↑(List.length a1.snd.snd.snd.snd.fst) : Int)) - (↑(List.length a0.snd.snd.snd.snd.snd) : Int))) (0 : Int)) ≤ (↑(List.length a1.snd.snd.snd.snd.fst) : Int)) (Option.bind (cR (nat_lit 70) [RT.own (9 : Go.TypeId) Ty.str] [inj (Ty.sl (Ty.sl Ty.str)) [List.take (Int.toNat (imax (Go.IntKind.wrap Go.IntKind.i64 ((0 : Int) - Go.IntKind.wrap Go.IntKind.i64 (a1.snd.snd.snd.fst - a0.snd.snd.snd.fst))) (0 : Int))) a1.snd.snd.snd.snd.fst, a0.snd.snd.snd.snd.fst, List.drop (Int.toNat (Go.IntKind.wrap Go.IntKind.i64 ((↑(List.length a1.snd.snd.snd.snd.fst) : Int) - imax (Go.IntKind.wrap Go.IntKind.i64 (Go.IntKind.wrap Go.IntKind.i64 (Go.IntKind.wrap Go.IntKind.i64 (a1.snd.snd.snd.fst - a0.snd.snd.snd.fst) + (↑(List.length a1.snd.snd.snd.snd.fst) : Int)) - (↑(List.length a0.snd.snd.snd.snd.snd) : Int))) (0 : Int)))) (List.take (Int.toNat (↑(List.length a1.snd.snd.snd.snd.fst) : Int)) a1.snd.snd.snd.snd.fst)]]) fun r => Option.bind (cR (nat_lit 69) [RT.d (Ty.sl Ty.str)] [inj (Ty.int Go.IntKind.i64) (0 : Int), inj (Ty.int Go.IntKind.i64) (Go.IntKind.wrap Go.IntKind.i64 (a1.snd.snd.snd.fst - a0.snd.snd.snd.fst)), A.c (C.pt (Pt.sh (Ty.pair (Ty.int Go.IntKind.i64) (Ty.pair Ty.str (Ty.pair Ty.str (Ty.pair (Ty.int Go.IntKind.i64) (Ty.pair (Ty.sl Ty.str) (Ty.sl Ty.str)))))) a0 (0 : Nat)))]) fun r_1 => Option.bind (cR (nat_lit 69) [RT.d (Ty.sl Ty.str)] [inj (Ty.int Go.IntKind.i64) (Go.IntKind.wrap Go.IntKind.i64 (Go.IntKind.wrap Go.IntKind.i64 (a1.snd.snd.snd.fst - a0.snd.snd.snd.fst) + (↑(List.length a1.snd.snd.snd.snd.fst) : Int))), inj (Ty.int Go.IntKind.i64) (↑(List.length a0.snd.snd.snd.snd.snd) : Int), A.c (C.pt (Pt.sh (Ty.pair (Ty.int Go.IntKind.i64) (Ty.pair Ty.str (Ty.pair Ty.str (Ty.pair (Ty.int Go.IntKind.i64) (Ty.pair (Ty.sl Ty.str) (Ty.sl Ty.str)))))) a0 (0 : Nat)))]) fun r_2 => Option.bind (cR (nat_lit 70) [RT.own (9 : Go.TypeId) Ty.str] [inj (Ty.sl (Ty.sl Ty.str)) [r_1, a1.snd.snd.snd.snd.snd, r_2]]) fun r_3 => some (injRs [RT.d ty24, RT.d Ty.bool] (((6 : Int), a0.snd.fst, { data := #[] }, imin a0.snd.snd.snd.fst a1.snd.snd.snd.fst, List.take (List.length r) r, List.take (List.length r_3) r_3), true))) none) none) none) none)) none) none) := by kernel_rfl
theorem e158 (a0 : Int) (a1 : Int) (a2 : Int) : callG W0 (callW W0) (cutW W0) 158 [inj (Ty.int Go.IntKind.i64) a0, inj (Ty.int Go.IntKind.i64) a1, A.c (C.pt (Pt.sh (Ty.int Go.IntKind.i64) a2 (0 : Nat)))] = ifs ((a2 == a0) = true) (some (injRs [RT.d (Ty.int Go.IntKind.i64)] a1)) (some (injRs [RT.d (Ty.int Go.IntKind.i64)] a0)) := by kernel_rfl
theorem e112 (a0 : Int) : callG W0 (callW W0) (cutW W0) 112 [inj (Ty.int Go.IntKind.i64) a0] = ifs ((a0 == (1 : Int)) = true) (Option.bind (cR (nat_lit 158) [RT.d (Ty.int Go.IntKind.i64)] [inj (Ty.int Go.IntKind.i64) (1 : Int), inj (Ty.int Go.IntKind.i64) (2 : Int), A.c (C.pt (Pt.sh (Ty.int Go.IntKind.i64) a0 (0 : Nat)))]) fun r => some (injRs [RT.d (Ty.int Go.IntKind.i64)] r)) (ifs ((a0 == (2 : Int)) = true) (Option.bind (cR (nat_lit 158) [RT.d (Ty.int Go.IntKind.i64)] [inj (Ty.int Go.IntKind.i64) (1 : Int), inj (Ty.int Go.IntKind.i64) (2 : Int), A.c (C.pt (Pt.sh (Ty.int Go.IntKind.i64) a0 (0 : Nat)))]) fun r => some (injRs [RT.d (Ty.int Go.IntKind.i64)] r)) (ifs ((a0 == (3 : Int)) = true) (Option.bind (cR (nat_lit 158) [RT.d (Ty.int Go.IntKind.i64)] [inj (Ty.int Go.IntKind.i64) (3 : Int), inj (Ty.int Go.IntKind.i64) (4 : Int), A.c (C.pt (Pt.sh (Ty.int Go.IntKind.i64) a0 (0 : Nat)))]) fun r => some (injRs [RT.d (Ty.int Go.IntKind.i64)] r)) (ifs ((a0 == (4 : Int)) = true) (Option.bind (cR (nat_lit 158) [RT.d (Ty.int Go.IntKind.i64)] [inj (Ty.int Go.IntKind.i64) (3 : Int), inj (Ty.int Go.IntKind.i64) (4 : Int), A.c (C.pt (Pt.sh (Ty.int Go.IntKind.i64) a0 (0 : Nat)))]) fun r => some (injRs [RT.d (Ty.int Go.IntKind.i64)] r)) (some (injRs [RT.d (Ty.int Go.IntKind.i64)] a0))))) := by kernel_rfl
theorem e64 (a0 : Int × ByteArray × ByteArray × Int × List ByteArray × List ByteArray) : callG W0 (callW W0) (cutW W0) 64 [inj ty24 a0] = Option.bind (cR (nat_lit 112) [RT.d (Ty.int Go.IntKind.i64)] [inj (Ty.int Go.IntKind.i64) a0.fst]) fun r => Option.bind (cR (nat_lit 113) [RT.own (9 : Go.TypeId) Ty.str] [inj (Ty.sl Ty.str) a0.snd.snd.snd.snd.snd]) fun r_1 => Option.bind (cR (nat_lit 113) [RT.own (9 : Go.TypeId) Ty.str] [inj (Ty.sl Ty.str) a0.snd.snd.snd.snd.fst]) fun r_2 => ifs ((a0.fst == (5 : Int)) = true) (some (injRs [RT.d ty24] (r, a0.snd.snd.fst, a0.snd.fst, a0.snd.snd.snd.fst, List.take (List.length r_1) r_1, List.take (List.length r_2) r_2))) (some (injRs [RT.d ty24] (r, a0.snd.fst, a0.snd.snd.fst, a0.snd.snd.snd.fst, List.take (List.length r_1) r_1, List.take (List.length r_2) r_2))) := by kernel_rfl
theorem e114 (a0 : Int × ByteArray × ByteArray × Int × List ByteArray × List ByteArray) (a1 : Int × ByteArray × ByteArray × Int × List ByteArray × List ByteArray) : callG W0 (callW W0) (cutW W0) 114 [inj ty24 a0, inj ty24 a1] = ifs ((a0.fst == a1.fst) = true) (ifs ((ByteArray.toList a0.snd.fst == ByteArray.toList a1.snd.fst) = true) (ifs ((ByteArray.toList a0.snd.snd.fst == ByteArray.toList a1.snd.snd.fst) = true) (ifs ((a0.snd.snd.snd.fst == a1.snd.snd.snd.fst) = true) (Option.bind (cR (nat_lit 66) [RT.d Ty.bool] [inj (Ty.sl Ty.str) a0.snd.snd.snd.snd.fst, inj (Ty.sl Ty.str) a1.snd.snd.snd.snd.fst]) fun r => ifs (r = true) (Option.bind (cR (nat_lit 66) [RT.d Ty.bool] [inj (Ty.sl Ty.str) a0.snd.snd.snd.snd.snd, inj (Ty.sl Ty.str) a1.snd.snd.snd.snd.snd]) fun r => some (injRs [RT.d Ty.bool] r)) (some (injRs [RT.d Ty.bool] false))) (some (injRs [RT.d Ty.bool] false))) (some (injRs [RT.d Ty.bool] false))) (some (injRs [RT.d Ty.bool] false))) (some (injRs [RT.d Ty.bool] false)) := by kernel_rfl
theorem e65 (a0 : Int × ByteArray × ByteArray × Int × List ByteArray × List ByteArray) (a1 : Int × ByteArray × ByteArray × Int × List ByteArray × List ByteArray) : callG W0 (callW W0) (cutW W0) 65 [inj ty24 a0, inj ty24 a1] = ifs ((a0.fst == (1 : Int)) = false) (ifs ((a0.fst == (3 : Int)) = false) (ifs ((a0.fst == (5 : Int)) = true) (Option.bind (cR (nat_lit 64) [RT.d ty24] [inj ty24 a0]) fun r => Option.bind (cR (nat_lit 114) [RT.d Ty.bool] [inj ty24 r, inj ty24 a1]) fun r => some (injRs [RT.d Ty.bool] r)) (some (injRs [RT.d Ty.bool] false))) (Option.bind (cR (nat_lit 64) [RT.d ty24] [inj ty24 a0]) fun r => Option.bind (cR (nat_lit 114) [RT.d Ty.bool] [inj ty24 r, inj ty24 a1]) fun r => some (injRs [RT.d Ty.bool] r))) (Option.bind (cR (nat_lit 64) [RT.d ty24] [inj ty24 a0]) fun r => Option.bind (cR (nat_lit 114) [RT.d Ty.bool] [inj ty24 r, inj ty24 a1]) fun r => some (injRs [RT.d Ty.bool] r)) := by kernel_rfl
theorem e16 (a0 : Int × ByteArray × ByteArray × Int × List ByteArray × List ByteArray) (a1 : Int × ByteArray × ByteArray × Int × List ByteArray × List ByteArray) : callG W0 (callW W0) (cutW W0) 16 [inj ty24 a0, inj ty24 a1] = Option.bind (cR (nat_lit 61) [RT.d (Ty.int Go.IntKind.i64)] [inj ty24 a0]) fun r => ifs ((r != (0 : Int)) = false) (Option.bind (cR (nat_lit 61) [RT.d (Ty.int Go.IntKind.i64)] [inj ty24 a1]) fun r => ifs ((r != (0 : Int)) = true) (some (injRs [RT.own (24 : Go.TypeId) ty24, RT.d Ty.bool] ([], false))) (Option.bind (cR (nat_lit 65) [RT.d Ty.bool] [inj ty24 a0, inj ty24 a1]) fun r => ifs (r = true) (some (injRs [RT.own (24 : Go.TypeId) ty24, RT.d Ty.bool] ([], true))) (ifs ((a0.fst == (5 : Int)) = true) (ifs ((a1.fst == (5 : Int)) = true) (ifs ((ByteArray.toList a1.snd.fst == ByteArray.toList a0.snd.snd.fst) = true) (some (injRs [RT.own (24 : Go.TypeId) ty24, RT.d Ty.bool] ([((5 : Int), a0.snd.fst, a1.snd.snd.fst, (0 : Int), [], [])], true))) (Option.bind (cR (nat_lit 18) [RT.d ty24, RT.d Ty.bool] [inj ty24 a0, inj ty24 a1]) fun r => ifs ((!r.snd) = true) (some (injRs [RT.own (24 : Go.TypeId) ty24, RT.d Ty.bool] ([], false))) (Option.bind (cR (nat_lit 66) [RT.d Ty.bool] [inj (Ty.sl Ty.str) r.fst.snd.snd.snd.snd.fst, inj (Ty.sl Ty.str) r.fst.snd.snd.snd.snd.snd]) fun r_1 => ifs (r_1 = true) (some (injRs [RT.own (24 : Go.TypeId) ty24, RT.d Ty.bool] ([], true))) (some (injRs [RT.own (24 : Go.TypeId) ty24, RT.d Ty.bool] ([r.fst], true)))))) (Option.bind (cR (nat_lit 18) [RT.d ty24, RT.d Ty.bool] [inj ty24 a0, inj ty24 a1]) fun r => ifs ((!r.snd) = true) (some (injRs [RT.own (24 : Go.TypeId) ty24, RT.d Ty.bool] ([], false))) (Option.bind (cR (nat_lit 66) [RT.d Ty.bool] [inj (Ty.sl Ty.str) r.fst.snd.snd.snd.snd.fst, inj (Ty.sl Ty.str) r.fst.snd.snd.snd.snd.snd]) fun r_1 => ifs (r_1 = true) (some (injRs [RT.own (24 : Go.TypeId) ty24, RT.d Ty.bool] ([], true))) (some (injRs [RT.own (24 : Go.TypeId) ty24, RT.d Ty.bool] ([r.fst], true)))))) (Option.bind (cR (nat_lit 18) [RT.d ty24, RT.d Ty.bool] [inj ty24 a0, inj ty24 a1]) fun r => ifs ((!r.snd) = true) (some (injRs [RT.own (24 : Go.TypeId) ty24, RT.d Ty.bool] ([], false))) (Option.bind (cR (nat_lit 66) [RT.d Ty.bool] [inj (Ty.sl Ty.str) r.fst.snd.snd.snd.snd.fst, inj (Ty.sl Ty.str) r.fst.snd.snd.snd.snd.snd]) fun r_1 => ifs (r_1 = true) (some (injRs [RT.own (24 : Go.TypeId) ty24, RT.d Ty.bool] ([], true))) (some (injRs [RT.own (24 : Go.TypeId) ty24, RT.d Ty.bool] ([r.fst], true)))))))) (some (injRs [RT.own (24 : Go.TypeId) ty24, RT.d Ty.bool] ([], false))) := by kernel_rfl
noncomputable def td22_3 : List Item := (findT (code Tryd.f22) [] 3).getD []
noncomputable def l22_3 (x0 : List (Int × ByteArray × ByteArray × Int × List ByteArray × List ByteArray)) (x1 : Int) (x2 : Int) (x3 : List (Int × ByteArray × ByteArray × Int × List ByteArray × List ByteArray)) : Option (List RV) := cutW W0 n22 td22_3 { fr := [((3 : Nat), F.a (A.c (C.ow (0 : Nat) (List.length x3)))), ((9 : Nat), F.a (A.c (C.sl ty24 x0))), ((10 : Nat), F.a (A.c (C.sc (Go.Value.int Go.IntKind.i64 x1)))), ((11 : Nat), F.a (A.c (C.sc (Go.Value.int Go.IntKind.i64 x2))))], mem := [some (Row.arr (24 : Nat) ty24 x3 false)], nx := (1 : Nat) }
noncomputable def td22_6 : List Item := (findT (code Tryd.f22) [] 6).getD []
noncomputable def l22_6 (x0 : Nat) (x1 : Nat) (x2 : List (Int × ByteArray × ByteArray × Int × List ByteArray × List ByteArray)) (x3 : Int) (x4 : Int) (x5 : List (Int × ByteArray × ByteArray × Int × List ByteArray × List ByteArray)) (x6 : List (Int × ByteArray × ByteArray × Int × List ByteArray × List ByteArray)) : Option (List RV) := cutW W0 n22 td22_6 { fr := [((3 : Nat), F.a (A.c (C.ow (0 : Nat) x0))), ((6 : Nat), F.a (A.c (C.ow (1 : Nat) x1))), ((9 : Nat), F.a (A.c (C.sl ty24 x2))), ((10 : Nat), F.a (A.c (C.sc (Go.Value.int Go.IntKind.i64 x3)))), ((11 : Nat), F.a (A.c (C.sc (Go.Value.int Go.IntKind.i64 x4))))], mem := [some (Row.arr (24 : Nat) ty24 x5 false), some (Row.arr (24 : Nat) ty24 x6 false)], nx := (2 : Nat) }
theorem e22 (a0 : List (Int × ByteArray × ByteArray × Int × List ByteArray × List ByteArray)) : callG W0 (callW W0) (cutW W0) 22 [inj (Ty.sl ty24) a0] = l22_3 a0 (↑(List.length a0) : Int) (0 : Int) [] := by kernel_rfl
theorem q22_3 (x0 : List (Int × ByteArray × ByteArray × Int × List ByteArray × List ByteArray)) (x1 : Int) (x2 : Int) (x3 : List (Int × ByteArray × ByteArray × Int × List ByteArray × List ByteArray)) : cutG W0 (callW W0) (cutW W0) n22 td22_3 { fr := [((3 : Nat), F.a (A.c (C.ow (0 : Nat) (List.length x3)))), ((9 : Nat), F.a (A.c (C.sl ty24 x0))), ((10 : Nat), F.a (A.c (C.sc (Go.Value.int Go.IntKind.i64 x1)))), ((11 : Nat), F.a (A.c (C.sc (Go.Value.int Go.IntKind.i64 x2))))], mem := [some (Row.arr (24 : Nat) ty24 x3 false)], nx := (1 : Nat) } = ifs (decide (x2 < x1) = true) (ifs ((0 : Int) ≤ x2) (Option.bind x0[Int.toNat x2]? fun r => Option.bind (cR (nat_lit 64) [RT.d ty24] [inj ty24 r]) fun r => Option.bind (cR (nat_lit 64) [RT.d ty24] [inj ty24 r]) fun r => l22_6 (List.length x3) (1 : Nat) x0 x1 x2 x3 [r]) none) (some (injRs [RT.own (24 : Go.TypeId) ty24] (List.take (List.length x3) x3))) := by kernel_rfl
theorem q22_6 (x0 : Nat) (x1 : Nat) (x2 : List (Int × ByteArray × ByteArray × Int × List ByteArray × List ByteArray)) (x3 : Int) (x4 : Int) (x5 : List (Int × ByteArray × ByteArray × Int × List ByteArray × List ByteArray)) (x6 : List (Int × ByteArray × ByteArray × Int × List ByteArray × List ByteArray)) : cutG W0 (callW W0) (cutW W0) n22 td22_6 { fr := [((3 : Nat), F.a (A.c (C.ow (0 : Nat) x0))), ((6 : Nat), F.a (A.c (C.ow (1 : Nat) x1))), ((9 : Nat), F.a (A.c (C.sl ty24 x2))), ((10 : Nat), F.a (A.c (C.sc (Go.Value.int Go.IntKind.i64 x3)))), ((11 : Nat), F.a (A.c (C.sc (Go.Value.int Go.IntKind.i64 x4))))], mem := [some (Row.arr (24 : Nat) ty24 x5 false), some (Row.arr (24 : Nat) ty24 x6 false)], nx := (2 : Nat) } = ifs (decide ((↑x1 : Int) > (0 : Int)) = true) (ifs (decide ((↑x0 : Int) > (0 : Int)) = true) (ifs ((0 : Int) ≤ Go.IntKind.wrap Go.IntKind.i64 ((↑x0 : Int) - (1 : Int)) ∧ Go.IntKind.wrap Go.IntKind.i64 ((↑x0 : Int) - (1 : Int)) < (↑x0 : Int)) (Option.bind x5[Int.toNat (Go.IntKind.wrap Go.IntKind.i64 ((↑x0 : Int) - (1 : Int)))]? fun r => ifs ((0 : Int) ≤ (0 : Int) ∧ (0 : Int) < (↑x1 : Int)) (Option.bind x6[Int.toNat (0 : Int)]? fun r_1 => Option.bind (cR (nat_lit 16) [RT.own (24 : Go.TypeId) ty24, RT.d Ty.bool] [inj ty24 r, inj ty24 r_1]) fun r => ifs ((!r.snd) = true) (ifs ((x0 + List.length (List.take x1 x6)) * nat_lit 96 ≤ (140737488355328 : Nat)) (l22_3 x2 x3 (Go.IntKind.wrap Go.IntKind.i64 (x4 + (1 : Int))) (List.take x0 x5 ++ List.take x1 x6)) none) (ifs ((0 : Int) ≤ Go.IntKind.wrap Go.IntKind.i64 ((↑x0 : Int) - (1 : Int)) ∧ Go.IntKind.wrap Go.IntKind.i64 ((↑x0 : Int) - (1 : Int)) ≤ (↑x0 : Int)) (l22_6 (Int.toNat (Go.IntKind.wrap Go.IntKind.i64 ((↑x0 : Int) - (1 : Int)))) (List.length r.fst) x2 x3 x4 x5 r.fst) none)) none) none) (ifs ((x0 + List.length (List.take x1 x6)) * nat_lit 96 ≤ (140737488355328 : Nat)) (l22_3 x2 x3 (Go.IntKind.wrap Go.IntKind.i64 (x4 + (1 : Int))) (List.take x0 x5 ++ List.take x1 x6)) none)) (ifs ((x0 + List.length (List.take x1 x6)) * nat_lit 96 ≤ (140737488355328 : Nat)) (l22_3 x2 x3 (Go.IntKind.wrap Go.IntKind.i64 (x4 + (1 : Int))) (List.take x0 x5 ++ List.take x1 x6)) none) := by kernel_rfl
noncomputable def td179_3 : List Item := (findT (code Tryd.f179) [] 3).getD []
noncomputable def l179_3 (x0 : Int) (x1 : ByteArray) (x2 : Int) : Option (List RV) := cutW W0 n179 td179_3 { fr := [((0 : Nat), F.a (A.c (C.sc (Go.Value.int Go.IntKind.u8 x0)))), ((3 : Nat), F.a (A.c (C.sc (Go.Value.string x1)))), ((4 : Nat), F.a (A.c (C.sc (Go.Value.int Go.IntKind.i64 x2))))], mem := [], nx := (0 : Nat) }
theorem e179 (a0 : Int) : callG W0 (callW W0) (cutW W0) 179 [inj (Ty.int Go.IntKind.u8) a0] = l179_3 a0 { data := #[(97 : UInt8), (98 : UInt8), (99 : UInt8), (100 : UInt8), (101 : UInt8), (102 : UInt8), (103 : UInt8), (104 : UInt8), (105 : UInt8), (106 : UInt8), (107 : UInt8), (108 : UInt8), (109 : UInt8), (110 : UInt8), (111 : UInt8), (112 : UInt8), (113 : UInt8), (114 : UInt8), (115 : UInt8), (116 : UInt8), (117 : UInt8), (118 : UInt8), (119 : UInt8), (120 : UInt8), (121 : UInt8), (122 : UInt8), (48 : UInt8), (49 : UInt8), (50 : UInt8), (51 : UInt8), (52 : UInt8), (53 : UInt8), (54 : UInt8), (55 : UInt8), (56 : UInt8), (57 : UInt8), (46 : UInt8), (95 : UInt8), (45 : UInt8)] } (0 : Int) := by kernel_rfl
theorem q179_3 (x0 : Int) (x1 : ByteArray) (x2 : Int) : cutG W0 (callW W0) (cutW W0) n179 td179_3 { fr := [((0 : Nat), F.a (A.c (C.sc (Go.Value.int Go.IntKind.u8 x0)))), ((3 : Nat), F.a (A.c (C.sc (Go.Value.string x1)))), ((4 : Nat), F.a (A.c (C.sc (Go.Value.int Go.IntKind.i64 x2))))], mem := [], nx := (0 : Nat) } = ifs (decide (x2 < (↑(ByteArray.size x1) : Int)) = true) (ifs ((0 : Int) ≤ x2) (Option.bind x1[Int.toNat x2]? fun r => ifs (((↑(UInt8.toNat r) : Int) == x0) = true) (some (injRs [RT.d Ty.bool] true)) (l179_3 x0 x1 (Go.IntKind.wrap Go.IntKind.i64 (x2 + (1 : Int))))) none) (some (injRs [RT.d Ty.bool] false)) := by kernel_rfl
noncomputable def td147_2 : List Item := (findT (code Tryd.f147) [] 2).getD []
noncomputable def l147_2 (x0 : ByteArray) (x1 : Int) : Option (List RV) := cutW W0 n147 td147_2 { fr := [((0 : Nat), F.a (A.c (C.sc (Go.Value.string x0)))), ((3 : Nat), F.a (A.c (C.sc (Go.Value.int Go.IntKind.i64 x1))))], mem := [], nx := (0 : Nat) }
theorem e147 (a0 : ByteArray) : callG W0 (callW W0) (cutW W0) 147 [inj Ty.str a0] = l147_2 a0 (0 : Int) := by kernel_rfl
theorem q147_2 (x0 : ByteArray) (x1 : Int) : cutG W0 (callW W0) (cutW W0) n147 td147_2 { fr := [((0 : Nat), F.a (A.c (C.sc (Go.Value.string x0)))), ((3 : Nat), F.a (A.c (C.sc (Go.Value.int Go.IntKind.i64 x1))))], mem := [], nx := (0 : Nat) } = ifs (decide (x1 < (↑(ByteArray.size x0) : Int)) = true) (ifs ((0 : Int) ≤ x1) (Option.bind x0[Int.toNat x1]? fun r => Option.bind (cR (nat_lit 179) [RT.d Ty.bool] [inj (Ty.int Go.IntKind.u8) (↑(UInt8.toNat r) : Int)]) fun r => ifs ((!r) = true) (some (injRs [RT.d Ty.bool] false)) (l147_2 x0 (Go.IntKind.wrap Go.IntKind.i64 (x1 + (1 : Int))))) none) (ifs (decide ((↑(ByteArray.size x0) : Int) ≥ (1 : Int)) = true) (ifs (decide ((↑(ByteArray.size x0) : Int) ≤ (40 : Int)) = true) (ifs ((!ByteArray.toList x0 == ByteArray.toList { data := #[(46 : UInt8)] }) = true) (some (injRs [RT.d Ty.bool] !ByteArray.toList x0 == ByteArray.toList { data := #[(46 : UInt8), (46 : UInt8)] })) (some (injRs [RT.d Ty.bool] false))) (some (injRs [RT.d Ty.bool] false))) (some (injRs [RT.d Ty.bool] false))) := by kernel_rfl
noncomputable def td98_6 : List Item := (findT (code Tryd.f98) [] 6).getD []
noncomputable def l98_6 (x0 : ByteArray) (x1 : Int) (x2 : Int) (x3 : List ByteArray) : Option (List RV) := cutW W0 n98 td98_6 { fr := [((0 : Nat), F.a (A.c (C.sc (Go.Value.string x0)))), ((3 : Nat), F.a (A.c (C.ow (0 : Nat) (List.length x3)))), ((4 : Nat), F.a (A.c (C.sc (Go.Value.int Go.IntKind.i64 x1)))), ((5 : Nat), F.a (A.c (C.sc (Go.Value.int Go.IntKind.i64 x2))))], mem := [some (Row.arr (9 : Nat) Ty.str x3 false)], nx := (1 : Nat) }
theorem e98 (a0 : ByteArray) : callG W0 (callW W0) (cutW W0) 98 [inj Ty.str a0] = ifs (decide ((↑(ByteArray.size a0) : Int) > (200 : Int)) = true) (some (injRs [RT.own (9 : Go.TypeId) Ty.str] [])) (l98_6 a0 (0 : Int) (0 : Int) []) := by kernel_rfl
theorem q98_6 (x0 : ByteArray) (x1 : Int) (x2 : Int) (x3 : List ByteArray) : cutG W0 (callW W0) (cutW W0) n98 td98_6 { fr := [((0 : Nat), F.a (A.c (C.sc (Go.Value.string x0)))), ((3 : Nat), F.a (A.c (C.ow (0 : Nat) (List.length x3)))), ((4 : Nat), F.a (A.c (C.sc (Go.Value.int Go.IntKind.i64 x1)))), ((5 : Nat), F.a (A.c (C.sc (Go.Value.int Go.IntKind.i64 x2))))], mem := [some (Row.arr (9 : Nat) Ty.str x3 false)], nx := (1 : Nat) } = ifs (decide (x2 ≤ (↑(ByteArray.size x0) : Int)) = true) (ifs (decide (x2 < (↑(ByteArray.size x0) : Int)) = true) (ifs ((0 : Int) ≤ x2) (Option.bind x0[Int.toNat x2]? fun r => ifs (((↑(UInt8.toNat r) : Int) != (47 : Int)) = true) (l98_6 x0 x1 (Go.IntKind.wrap Go.IntKind.i64 (x2 + (1 : Int))) x3) (ifs ((0 : Int) ≤ x2 ∧ x2 ≤ (↑(ByteArray.size x0) : Int)) (ifs ((0 : Int) ≤ x1 ∧ x1 ≤ x2) (Option.bind (cR (nat_lit 147) [RT.d Ty.bool] [inj Ty.str (ByteArray.extract x0 (Int.toNat x1) (Int.toNat x2))]) fun r => ifs ((!r) = true) (some (injRs [RT.own (9 : Go.TypeId) Ty.str] [])) (ifs ((0 : Int) ≤ x2 ∧ x2 ≤ (↑(ByteArray.size x0) : Int)) (ifs ((0 : Int) ≤ x1 ∧ x1 ≤ x2) (ifs ((List.length x3 + (1 : Nat)) * nat_lit 16 ≤ (140737488355328 : Nat)) (l98_6 x0 (Go.IntKind.wrap Go.IntKind.i64 (x2 + (1 : Int))) (Go.IntKind.wrap Go.IntKind.i64 (x2 + (1 : Int))) (List.take (List.length x3) x3 ++ [ByteArray.extract x0 (Int.toNat x1) (Int.toNat x2)])) none) none) none)) none) none)) none) (ifs ((0 : Int) ≤ x2 ∧ x2 ≤ (↑(ByteArray.size x0) : Int)) (ifs ((0 : Int) ≤ x1 ∧ x1 ≤ x2) (Option.bind (cR (nat_lit 147) [RT.d Ty.bool] [inj Ty.str (ByteArray.extract x0 (Int.toNat x1) (Int.toNat x2))]) fun r => ifs ((!r) = true) (some (injRs [RT.own (9 : Go.TypeId) Ty.str] [])) (ifs ((0 : Int) ≤ x2 ∧ x2 ≤ (↑(ByteArray.size x0) : Int)) (ifs ((0 : Int) ≤ x1 ∧ x1 ≤ x2) (ifs ((List.length x3 + (1 : Nat)) * nat_lit 16 ≤ (140737488355328 : Nat)) (l98_6 x0 (Go.IntKind.wrap Go.IntKind.i64 (x2 + (1 : Int))) (Go.IntKind.wrap Go.IntKind.i64 (x2 + (1 : Int))) (List.take (List.length x3) x3 ++ [ByteArray.extract x0 (Int.toNat x1) (Int.toNat x2)])) none) none) none)) none) none)) (ifs (decide ((↑(List.length x3) : Int) > (16 : Int)) = true) (some (injRs [RT.own (9 : Go.TypeId) Ty.str] [])) (some (injRs [RT.own (9 : Go.TypeId) Ty.str] (List.take (List.length x3) x3)))) := by kernel_rfl
theorem e79 (a0 : ByteArray) : callG W0 (callW W0) (cutW W0) 79 [inj Ty.str a0] = Option.bind (cR (nat_lit 98) [RT.own (9 : Go.TypeId) Ty.str] [inj Ty.str a0]) fun r => some (injRs [RT.d Ty.bool] (decide ((↑(List.length r) : Int) > (0 : Int)))) := by kernel_rfl
noncomputable def td144_4 : List Item := (findT (code Tryd.f144) [] 4).getD []
noncomputable def l144_4 (x0 : ByteArray) (x1 : Int) : Option (List RV) := cutW W0 n144 td144_4 { fr := [((0 : Nat), F.a (A.c (C.sc (Go.Value.string x0)))), ((3 : Nat), F.a (A.c (C.sc (Go.Value.int Go.IntKind.i64 x1))))], mem := [], nx := (0 : Nat) }
theorem e144 (a0 : ByteArray) : callG W0 (callW W0) (cutW W0) 144 [inj Ty.str a0] = ifs (decide ((↑(ByteArray.size a0) : Int) > (200 : Int)) = true) (some (injRs [RT.d Ty.bool] false)) (l144_4 a0 (0 : Int)) := by kernel_rfl
theorem q144_4 (x0 : ByteArray) (x1 : Int) : cutG W0 (callW W0) (cutW W0) n144 td144_4 { fr := [((0 : Nat), F.a (A.c (C.sc (Go.Value.string x0)))), ((3 : Nat), F.a (A.c (C.sc (Go.Value.int Go.IntKind.i64 x1))))], mem := [], nx := (0 : Nat) } = ifs (decide (x1 < (↑(ByteArray.size x0) : Int)) = true) (ifs ((0 : Int) ≤ (↑(ByteArray.size x0) : Int) ∧ (↑(ByteArray.size x0) : Int) ≤ (↑(ByteArray.size x0) : Int)) (ifs ((0 : Int) ≤ x1 ∧ x1 ≤ (↑(ByteArray.size x0) : Int)) (Option.bind (cR (nat_lit 177) [RT.d (Ty.int Go.IntKind.i32), RT.d (Ty.int Go.IntKind.i64)] [inj Ty.str (ByteArray.extract x0 (Int.toNat x1) (Int.toNat (↑(ByteArray.size x0) : Int)))]) fun r => ifs ((r.fst == (65533 : Int)) = true) (ifs ((r.snd == (1 : Int)) = false) (ifs (decide (r.fst < (32 : Int)) = true) (ifs ((r.fst != (9 : Int)) = true) (some (injRs [RT.d Ty.bool] false)) (l144_4 x0 (Go.IntKind.wrap Go.IntKind.i64 (x1 + r.snd)))) (l144_4 x0 (Go.IntKind.wrap Go.IntKind.i64 (x1 + r.snd)))) (some (injRs [RT.d Ty.bool] false))) (ifs (decide (r.fst < (32 : Int)) = true) (ifs ((r.fst != (9 : Int)) = true) (some (injRs [RT.d Ty.bool] false)) (l144_4 x0 (Go.IntKind.wrap Go.IntKind.i64 (x1 + r.snd)))) (l144_4 x0 (Go.IntKind.wrap Go.IntKind.i64 (x1 + r.snd))))) none) none) (some (injRs [RT.d Ty.bool] true)) := by kernel_rfl
noncomputable def td94_4 : List Item := (findT (code Tryd.f94) [] 4).getD []
noncomputable def l94_4 (x0 : List ByteArray) (x1 : Int) : Option (List RV) := cutW W0 n94 td94_4 { fr := [((0 : Nat), F.a (A.c (C.sl Ty.str x0))), ((3 : Nat), F.a (A.c (C.sc (Go.Value.int Go.IntKind.i64 x1))))], mem := [], nx := (0 : Nat) }
theorem e94 (a0 : List ByteArray) : callG W0 (callW W0) (cutW W0) 94 [inj (Ty.sl Ty.str) a0] = ifs (decide ((↑(List.length a0) : Int) > (2000 : Int)) = true) (some (injRs [RT.d (Ty.int Go.IntKind.i64)] (4 : Int))) (l94_4 a0 (0 : Int)) := by kernel_rfl
theorem q94_4 (x0 : List ByteArray) (x1 : Int) : cutG W0 (callW W0) (cutW W0) n94 td94_4 { fr := [((0 : Nat), F.a (A.c (C.sl Ty.str x0))), ((3 : Nat), F.a (A.c (C.sc (Go.Value.int Go.IntKind.i64 x1))))], mem := [], nx := (0 : Nat) } = ifs (decide (x1 < (↑(List.length x0) : Int)) = true) (ifs ((0 : Int) ≤ x1) (Option.bind x0[Int.toNat x1]? fun r => Option.bind (cR (nat_lit 144) [RT.d Ty.bool] [inj Ty.str r]) fun r => ifs ((!r) = true) (some (injRs [RT.d (Ty.int Go.IntKind.i64)] (6 : Int))) (l94_4 x0 (Go.IntKind.wrap Go.IntKind.i64 (x1 + (1 : Int))))) none) (some (injRs [RT.d (Ty.int Go.IntKind.i64)] (0 : Int))) := by kernel_rfl
theorem e67 (a0 : Int × ByteArray × ByteArray × Int × List ByteArray × List ByteArray) : callG W0 (callW W0) (cutW W0) 67 [inj ty24 a0] = ifs (decide (a0.fst < (1 : Int)) = false) (ifs (decide (a0.fst > (6 : Int)) = false) (ifs ((a0.fst != (5 : Int)) = true) (ifs ((!ByteArray.toList a0.snd.snd.fst == ByteArray.toList { data := #[] }) = false) (ifs ((a0.fst != (6 : Int)) = true) (ifs ((a0.snd.snd.snd.fst != (0 : Int)) = false) (ifs (decide (Go.IntKind.wrap Go.IntKind.i64 ((↑(List.length a0.snd.snd.snd.snd.fst) : Int) + (↑(List.length a0.snd.snd.snd.snd.snd) : Int)) > (0 : Int)) = true) (some (injRs [RT.d (Ty.int Go.IntKind.i64)] (2 : Int))) (Option.bind (cR (nat_lit 79) [RT.d Ty.bool] [inj Ty.str a0.snd.fst]) fun r => ifs ((!r) = false) (ifs ((a0.fst == (5 : Int)) = true) (Option.bind (cR (nat_lit 79) [RT.d Ty.bool] [inj Ty.str a0.snd.snd.fst]) fun r => ifs ((!r) = false) (ifs ((ByteArray.toList a0.snd.fst == ByteArray.toList a0.snd.snd.fst) = true) (some (injRs [RT.d (Ty.int Go.IntKind.i64)] (8 : Int))) (ifs ((a0.fst == (6 : Int)) = true) (ifs (decide (a0.snd.snd.snd.fst < (0 : Int)) = false) (ifs ((Go.IntKind.wrap Go.IntKind.i64 ((↑(List.length a0.snd.snd.snd.snd.fst) : Int) + (↑(List.length a0.snd.snd.snd.snd.snd) : Int)) == (0 : Int)) = false) (Option.bind (cR (nat_lit 94) [RT.d (Ty.int Go.IntKind.i64)] [inj (Ty.sl Ty.str) a0.snd.snd.snd.snd.fst]) fun r => ifs ((r != (0 : Int)) = false) (Option.bind (cR (nat_lit 94) [RT.d (Ty.int Go.IntKind.i64)] [inj (Ty.sl Ty.str) a0.snd.snd.snd.snd.snd]) fun r => ifs ((r != (0 : Int)) = true) (some (injRs [RT.d (Ty.int Go.IntKind.i64)] (6 : Int))) (some (injRs [RT.d (Ty.int Go.IntKind.i64)] (0 : Int)))) (some (injRs [RT.d (Ty.int Go.IntKind.i64)] (6 : Int)))) (some (injRs [RT.d (Ty.int Go.IntKind.i64)] (6 : Int)))) (some (injRs [RT.d (Ty.int Go.IntKind.i64)] (6 : Int)))) (some (injRs [RT.d (Ty.int Go.IntKind.i64)] (0 : Int))))) (some (injRs [RT.d (Ty.int Go.IntKind.i64)] (8 : Int)))) (ifs ((a0.fst == (6 : Int)) = true) (ifs (decide (a0.snd.snd.snd.fst < (0 : Int)) = false) (ifs ((Go.IntKind.wrap Go.IntKind.i64 ((↑(List.length a0.snd.snd.snd.snd.fst) : Int) + (↑(List.length a0.snd.snd.snd.snd.snd) : Int)) == (0 : Int)) = false) (Option.bind (cR (nat_lit 94) [RT.d (Ty.int Go.IntKind.i64)] [inj (Ty.sl Ty.str) a0.snd.snd.snd.snd.fst]) fun r => ifs ((r != (0 : Int)) = false) (Option.bind (cR (nat_lit 94) [RT.d (Ty.int Go.IntKind.i64)] [inj (Ty.sl Ty.str) a0.snd.snd.snd.snd.snd]) fun r => ifs ((r != (0 : Int)) = true) (some (injRs [RT.d (Ty.int Go.IntKind.i64)] (6 : Int))) (some (injRs [RT.d (Ty.int Go.IntKind.i64)] (0 : Int)))) (some (injRs [RT.d (Ty.int Go.IntKind.i64)] (6 : Int)))) (some (injRs [RT.d (Ty.int Go.IntKind.i64)] (6 : Int)))) (some (injRs [RT.d (Ty.int Go.IntKind.i64)] (6 : Int)))) (some (injRs [RT.d (Ty.int Go.IntKind.i64)] (0 : Int))))) (some (injRs [RT.d (Ty.int Go.IntKind.i64)] (8 : Int))))) (some (injRs [RT.d (Ty.int Go.IntKind.i64)] (2 : Int)))) (Option.bind (cR (nat_lit 79) [RT.d Ty.bool] [inj Ty.str a0.snd.fst]) fun r => ifs ((!r) = false) (ifs ((a0.fst == (5 : Int)) = true) (Option.bind (cR (nat_lit 79) [RT.d Ty.bool] [inj Ty.str a0.snd.snd.fst]) fun r => ifs ((!r) = false) (ifs ((ByteArray.toList a0.snd.fst == ByteArray.toList a0.snd.snd.fst) = true) (some (injRs [RT.d (Ty.int Go.IntKind.i64)] (8 : Int))) (ifs ((a0.fst == (6 : Int)) = true) (ifs (decide (a0.snd.snd.snd.fst < (0 : Int)) = false) (ifs ((Go.IntKind.wrap Go.IntKind.i64 ((↑(List.length a0.snd.snd.snd.snd.fst) : Int) + (↑(List.length a0.snd.snd.snd.snd.snd) : Int)) == (0 : Int)) = false) (Option.bind (cR (nat_lit 94) [RT.d (Ty.int Go.IntKind.i64)] [inj (Ty.sl Ty.str) a0.snd.snd.snd.snd.fst]) fun r => ifs ((r != (0 : Int)) = false) (Option.bind (cR (nat_lit 94) [RT.d (Ty.int Go.IntKind.i64)] [inj (Ty.sl Ty.str) a0.snd.snd.snd.snd.snd]) fun r => ifs ((r != (0 : Int)) = true) (some (injRs [RT.d (Ty.int Go.IntKind.i64)] (6 : Int))) (some (injRs [RT.d (Ty.int Go.IntKind.i64)] (0 : Int)))) (some (injRs [RT.d (Ty.int Go.IntKind.i64)] (6 : Int)))) (some (injRs [RT.d (Ty.int Go.IntKind.i64)] (6 : Int)))) (some (injRs [RT.d (Ty.int Go.IntKind.i64)] (6 : Int)))) (some (injRs [RT.d (Ty.int Go.IntKind.i64)] (0 : Int))))) (some (injRs [RT.d (Ty.int Go.IntKind.i64)] (8 : Int)))) (ifs ((a0.fst == (6 : Int)) = true) (ifs (decide (a0.snd.snd.snd.fst < (0 : Int)) = false) (ifs ((Go.IntKind.wrap Go.IntKind.i64 ((↑(List.length a0.snd.snd.snd.snd.fst) : Int) + (↑(List.length a0.snd.snd.snd.snd.snd) : Int)) == (0 : Int)) = false) (Option.bind (cR (nat_lit 94) [RT.d (Ty.int Go.IntKind.i64)] [inj (Ty.sl Ty.str) a0.snd.snd.snd.snd.fst]) fun r => ifs ((r != (0 : Int)) = false) (Option.bind (cR (nat_lit 94) [RT.d (Ty.int Go.IntKind.i64)] [inj (Ty.sl Ty.str) a0.snd.snd.snd.snd.snd]) fun r => ifs ((r != (0 : Int)) = true) (some (injRs [RT.d (Ty.int Go.IntKind.i64)] (6 : Int))) (some (injRs [RT.d (Ty.int Go.IntKind.i64)] (0 : Int)))) (some (injRs [RT.d (Ty.int Go.IntKind.i64)] (6 : Int)))) (some (injRs [RT.d (Ty.int Go.IntKind.i64)] (6 : Int)))) (some (injRs [RT.d (Ty.int Go.IntKind.i64)] (6 : Int)))) (some (injRs [RT.d (Ty.int Go.IntKind.i64)] (0 : Int))))) (some (injRs [RT.d (Ty.int Go.IntKind.i64)] (8 : Int))))) (some (injRs [RT.d (Ty.int Go.IntKind.i64)] (2 : Int)))) (ifs ((a0.fst != (6 : Int)) = true) (ifs ((a0.snd.snd.snd.fst != (0 : Int)) = false) (ifs (decide (Go.IntKind.wrap Go.IntKind.i64 ((↑(List.length a0.snd.snd.snd.snd.fst) : Int) + (↑(List.length a0.snd.snd.snd.snd.snd) : Int)) > (0 : Int)) = true) (some (injRs [RT.d (Ty.int Go.IntKind.i64)] (2 : Int))) (Option.bind (cR (nat_lit 79) [RT.d Ty.bool] [inj Ty.str a0.snd.fst]) fun r => ifs ((!r) = false) (ifs ((a0.fst == (5 : Int)) = true) (Option.bind (cR (nat_lit 79) [RT.d Ty.bool] [inj Ty.str a0.snd.snd.fst]) fun r => ifs ((!r) = false) (ifs ((ByteArray.toList a0.snd.fst == ByteArray.toList a0.snd.snd.fst) = true) (some (injRs [RT.d (Ty.int Go.IntKind.i64)] (8 : Int))) (ifs ((a0.fst == (6 : Int)) = true) (ifs (decide (a0.snd.snd.snd.fst < (0 : Int)) = false) (ifs ((Go.IntKind.wrap Go.IntKind.i64 ((↑(List.length a0.snd.snd.snd.snd.fst) : Int) + (↑(List.length a0.snd.snd.snd.snd.snd) : Int)) == (0 : Int)) = false) (Option.bind (cR (nat_lit 94) [RT.d (Ty.int Go.IntKind.i64)] [inj (Ty.sl Ty.str) a0.snd.snd.snd.snd.fst]) fun r => ifs ((r != (0 : Int)) = false) (Option.bind (cR (nat_lit 94) [RT.d (Ty.int Go.IntKind.i64)] [inj (Ty.sl Ty.str) a0.snd.snd.snd.snd.snd]) fun r => ifs ((r != (0 : Int)) = true) (some (injRs [RT.d (Ty.int Go.IntKind.i64)] (6 : Int))) (some (injRs [RT.d (Ty.int Go.IntKind.i64)] (0 : Int)))) (some (injRs [RT.d (Ty.int Go.IntKind.i64)] (6 : Int)))) (some (injRs [RT.d (Ty.int Go.IntKind.i64)] (6 : Int)))) (some (injRs [RT.d (Ty.int Go.IntKind.i64)] (6 : Int)))) (some (injRs [RT.d (Ty.int Go.IntKind.i64)] (0 : Int))))) (some (injRs [RT.d (Ty.int Go.IntKind.i64)] (8 : Int)))) (ifs ((a0.fst == (6 : Int)) = true) (ifs (decide (a0.snd.snd.snd.fst < (0 : Int)) = false) (ifs ((Go.IntKind.wrap Go.IntKind.i64 ((↑(List.length a0.snd.snd.snd.snd.fst) : Int) + (↑(List.length a0.snd.snd.snd.snd.snd) : Int)) == (0 : Int)) = false) (Option.bind (cR (nat_lit 94) [RT.d (Ty.int Go.IntKind.i64)] [inj (Ty.sl Ty.str) a0.snd.snd.snd.snd.fst]) fun r => ifs ((r != (0 : Int)) = false) (Option.bind (cR (nat_lit 94) [RT.d (Ty.int Go.IntKind.i64)] [inj (Ty.sl Ty.str) a0.snd.snd.snd.snd.snd]) fun r => ifs ((r != (0 : Int)) = true) (some (injRs [RT.d (Ty.int Go.IntKind.i64)] (6 : Int))) (some (injRs [RT.d (Ty.int Go.IntKind.i64)] (0 : Int)))) (some (injRs [RT.d (Ty.int Go.IntKind.i64)] (6 : Int)))) (some (injRs [RT.d (Ty.int Go.IntKind.i64)] (6 : Int)))) (some (injRs [RT.d (Ty.int Go.IntKind.i64)] (6 : Int)))) (some (injRs [RT.d (Ty.int Go.IntKind.i64)] (0 : Int))))) (some (injRs [RT.d (Ty.int Go.IntKind.i64)] (8 : Int))))) (some (injRs [RT.d (Ty.int Go.IntKind.i64)] (2 : Int)))) (Option.bind (cR (nat_lit 79) [RT.d Ty.bool] [inj Ty.str a0.snd.fst]) fun r => ifs ((!r) = false) (ifs ((a0.fst == (5 : Int)) = true) (Option.bind (cR (nat_lit 79) [RT.d Ty.bool] [inj Ty.str a0.snd.snd.fst]) fun r => ifs ((!r) = false) (ifs ((ByteArray.toList a0.snd.fst == ByteArray.toList a0.snd.snd.fst) = true) (some (injRs [RT.d (Ty.int Go.IntKind.i64)] (8 : Int))) (ifs ((a0.fst == (6 : Int)) = true) (ifs (decide (a0.snd.snd.snd.fst < (0 : Int)) = false) (ifs ((Go.IntKind.wrap Go.IntKind.i64 ((↑(List.length a0.snd.snd.snd.snd.fst) : Int) + (↑(List.length a0.snd.snd.snd.snd.snd) : Int)) == (0 : Int)) = false) (Option.bind (cR (nat_lit 94) [RT.d (Ty.int Go.IntKind.i64)] [inj (Ty.sl Ty.str) a0.snd.snd.snd.snd.fst]) fun r => ifs ((r != (0 : Int)) = false) (Option.bind (cR (nat_lit 94) [RT.d (Ty.int Go.IntKind.i64)] [inj (Ty.sl Ty.str) a0.snd.snd.snd.snd.snd]) fun r => ifs ((r != (0 : Int)) = true) (some (injRs [RT.d (Ty.int Go.IntKind.i64)] (6 : Int))) (some (injRs [RT.d (Ty.int Go.IntKind.i64)] (0 : Int)))) (some (injRs [RT.d (Ty.int Go.IntKind.i64)] (6 : Int)))) (some (injRs [RT.d (Ty.int Go.IntKind.i64)] (6 : Int)))) (some (injRs [RT.d (Ty.int Go.IntKind.i64)] (6 : Int)))) (some (injRs [RT.d (Ty.int Go.IntKind.i64)] (0 : Int))))) (some (injRs [RT.d (Ty.int Go.IntKind.i64)] (8 : Int)))) (ifs ((a0.fst == (6 : Int)) = true) (ifs (decide (a0.snd.snd.snd.fst < (0 : Int)) = false) (ifs ((Go.IntKind.wrap Go.IntKind.i64 ((↑(List.length a0.snd.snd.snd.snd.fst) : Int) + (↑(List.length a0.snd.snd.snd.snd.snd) : Int)) == (0 : Int)) = false) (Option.bind (cR (nat_lit 94) [RT.d (Ty.int Go.IntKind.i64)] [inj (Ty.sl Ty.str) a0.snd.snd.snd.snd.fst]) fun r => ifs ((r != (0 : Int)) = false) (Option.bind (cR (nat_lit 94) [RT.d (Ty.int Go.IntKind.i64)] [inj (Ty.sl Ty.str) a0.snd.snd.snd.snd.snd]) fun r => ifs ((r != (0 : Int)) = true) (some (injRs [RT.d (Ty.int Go.IntKind.i64)] (6 : Int))) (some (injRs [RT.d (Ty.int Go.IntKind.i64)] (0 : Int)))) (some (injRs [RT.d (Ty.int Go.IntKind.i64)] (6 : Int)))) (some (injRs [RT.d (Ty.int Go.IntKind.i64)] (6 : Int)))) (some (injRs [RT.d (Ty.int Go.IntKind.i64)] (6 : Int)))) (some (injRs [RT.d (Ty.int Go.IntKind.i64)] (0 : Int))))) (some (injRs [RT.d (Ty.int Go.IntKind.i64)] (8 : Int)))))) (some (injRs [RT.d (Ty.int Go.IntKind.i64)] (2 : Int)))) (some (injRs [RT.d (Ty.int Go.IntKind.i64)] (2 : Int))) := by kernel_rfl
theorem e21 (a0 : Int × ByteArray × ByteArray × Int × List ByteArray × List ByteArray) (a1 : Int × ByteArray × ByteArray × Int × List ByteArray × List ByteArray) : callG W0 (callW W0) (cutW W0) 21 [inj ty24 a0, inj ty24 a1] = ifs ((a0.fst != (6 : Int)) = false) (ifs ((a1.fst != (6 : Int)) = false) (ifs ((!ByteArray.toList a0.snd.fst == ByteArray.toList a1.snd.fst) = false) (Option.bind (cR (nat_lit 67) [RT.d (Ty.int Go.IntKind.i64)] [inj ty24 a0]) fun r => ifs ((r != (0 : Int)) = false) (Option.bind (cR (nat_lit 67) [RT.d (Ty.int Go.IntKind.i64)] [inj ty24 a1]) fun r => ifs ((r != (0 : Int)) = true) (some (injRs [RT.d Ty.bool] false)) (ifs (decide (Go.IntKind.wrap Go.IntKind.i64 (a1.snd.snd.snd.fst - a0.snd.snd.snd.fst) ≤ (↑(List.length a0.snd.snd.snd.snd.snd) : Int)) = true) (some (injRs [RT.d Ty.bool] (decide (Go.IntKind.wrap Go.IntKind.i64 (a0.snd.snd.snd.fst - a1.snd.snd.snd.fst) ≤ (↑(List.length a1.snd.snd.snd.snd.fst) : Int))))) (some (injRs [RT.d Ty.bool] false)))) (some (injRs [RT.d Ty.bool] false))) (some (injRs [RT.d Ty.bool] false))) (some (injRs [RT.d Ty.bool] false))) (some (injRs [RT.d Ty.bool] false)) := by kernel_rfl
theorem e71 (a0 : Int) (a1 : Int) : callG W0 (callW W0) (cutW W0) 71 [inj (Ty.int Go.IntKind.i64) a0, inj (Ty.int Go.IntKind.i64) a1] = ifs (decide (a0 < a1) = true) (some (injRs [RT.d (Ty.int Go.IntKind.i64)] a0)) (some (injRs [RT.d (Ty.int Go.IntKind.i64)] a1)) := by kernel_rfl
theorem e72 (a0 : Int) (a1 : Int) : callG W0 (callW W0) (cutW W0) 72 [inj (Ty.int Go.IntKind.i64) a0, inj (Ty.int Go.IntKind.i64) a1] = ifs (decide (a0 > a1) = true) (some (injRs [RT.d (Ty.int Go.IntKind.i64)] a0)) (some (injRs [RT.d (Ty.int Go.IntKind.i64)] a1)) := by kernel_rfl
theorem e68 (a0 : Int × ByteArray × ByteArray × Int × List ByteArray × List ByteArray) : callG W0 (callW W0) (cutW W0) 68 [inj ty24 a0] = ifs (decide (a0.fst ≥ (1 : Int)) = true) (ifs (decide (a0.fst ≤ (6 : Int)) = true) (ifs ((0 : Int) ≤ a0.fst ∧ a0.fst < (↑(7 : Nat) : Int)) (Option.bind [(0 : Int), (2 : Int), (1 : Int), (4 : Int), (3 : Int), (5 : Int), (6 : Int)][Int.toNat a0.fst]? fun r => ifs ((a0.fst == (5 : Int)) = true) (some (injRs [RT.d ty24] (r, a0.snd.snd.fst, a0.snd.fst, a0.snd.snd.snd.fst, a0.snd.snd.snd.snd.snd, a0.snd.snd.snd.snd.fst))) (some (injRs [RT.d ty24] (r, a0.snd.fst, a0.snd.snd.fst, a0.snd.snd.snd.fst, a0.snd.snd.snd.snd.snd, a0.snd.snd.snd.snd.fst)))) none) (ifs ((a0.fst == (5 : Int)) = true) (some (injRs [RT.d ty24] (a0.fst, a0.snd.snd.fst, a0.snd.fst, a0.snd.snd.snd.fst, a0.snd.snd.snd.snd.snd, a0.snd.snd.snd.snd.fst))) (some (injRs [RT.d ty24] (a0.fst, a0.snd.fst, a0.snd.snd.fst, a0.snd.snd.snd.fst, a0.snd.snd.snd.snd.snd, a0.snd.snd.snd.snd.fst))))) (ifs ((a0.fst == (5 : Int)) = true) (some (injRs [RT.d ty24] (a0.fst, a0.snd.snd.fst, a0.snd.fst, a0.snd.snd.snd.fst, a0.snd.snd.snd.snd.snd, a0.snd.snd.snd.snd.fst))) (some (injRs [RT.d ty24] (a0.fst, a0.snd.fst, a0.snd.snd.fst, a0.snd.snd.snd.fst, a0.snd.snd.snd.snd.snd, a0.snd.snd.snd.snd.fst)))) := by kernel_rfl
noncomputable def td19_8 : List Item := (findT (code Tryd.f19) [] 8).getD []
noncomputable def l19_8 (x0 : Bool) (x1 : Bool) (x2 : Int) (x3 : Int) (x4 : Int) (x5 : ByteArray) (x6 : ByteArray) (x7 : Int) (x8 : List ByteArray) (x9 : List ByteArray) (x10 : Int) (x11 : ByteArray) (x12 : ByteArray) (x13 : Int) (x14 : List ByteArray) (x15 : List ByteArray) (x16 : Int) (x17 : ByteArray) (x18 : ByteArray) (x19 : Int) (x20 : Int) (x21 : ByteArray) (x22 : ByteArray) (x23 : Int) (x24 : List ByteArray) (x25 : List ByteArray) : Option (List RV) := cutW W0 n19 td19_8 { fr := [((2 : Nat), F.a (A.c (C.pt (Pt.own (0 : Nat) (0 : Nat) (0 : Nat))))), ((3 : Nat), F.a (A.c (C.pt (Pt.own (1 : Nat) (0 : Nat) (0 : Nat))))), ((4 : Nat), F.a (A.c (C.pt (Pt.own (2 : Nat) (0 : Nat) (0 : Nat))))), ((6 : Nat), F.a (A.c (C.pt (Pt.own (3 : Nat) (0 : Nat) (0 : Nat))))), ((7 : Nat), F.a (A.c (C.sc (Go.Value.bool x0)))), ((8 : Nat), F.a (A.c (C.sc (Go.Value.bool x1)))), ((9 : Nat), F.a (A.c (C.sc (Go.Value.int Go.IntKind.i64 x2)))), ((10 : Nat), F.a (A.c (C.sc (Go.Value.int Go.IntKind.i64 x3))))], mem := [some (Row.box (24 : Nat) (some ty24) [C.sc (Go.Value.int Go.IntKind.i64 x4), C.sc (Go.Value.string x5), C.sc (Go.Value.string x6), C.sc (Go.Value.int Go.IntKind.i64 x7), C.sl Ty.str x8, C.sl Ty.str x9] false), some (Row.box (24 : Nat) (some ty24) [C.sc (Go.Value.int Go.IntKind.i64 x10), C.sc (Go.Value.string x11), C.sc (Go.Value.string x12), C.sc (Go.Value.int Go.IntKind.i64 x13), C.sl Ty.str x14, C.sl Ty.str x15] false), some (Row.box (24 : Nat) (some ty24) [C.sc (Go.Value.int Go.IntKind.i64 x16), C.sc (Go.Value.string x17), C.sc (Go.Value.string x18), C.sc (Go.Value.int Go.IntKind.i64 x19), C.nl, C.nl] false), some (Row.box (24 : Nat) (some ty24) [C.sc (Go.Value.int Go.IntKind.i64 x20), C.sc (Go.Value.string x21), C.sc (Go.Value.string x22), C.sc (Go.Value.int Go.IntKind.i64 x23), C.ow (4 : Nat) (List.length x24), C.ow (5 : Nat) (List.length x25)] false), some (Row.arr (9 : Nat) Ty.str x24 false), some (Row.arr (9 : Nat) Ty.str x25 false)], nx := (6 : Nat) }
noncomputable def td19_13 : List Item := (findT (code Tryd.f19) [] 13).getD []
noncomputable def l19_13 (x0 : Bool) (x1 : Bool) (x2 : Int) (x3 : Int) (x4 : Int) (x5 : ByteArray) (x6 : ByteArray) (x7 : Int) (x8 : List ByteArray) (x9 : List ByteArray) (x10 : Int) (x11 : ByteArray) (x12 : ByteArray) (x13 : Int) (x14 : List ByteArray) (x15 : List ByteArray) (x16 : Int) (x17 : ByteArray) (x18 : ByteArray) (x19 : Int) (x20 : Int) (x21 : ByteArray) (x22 : ByteArray) (x23 : Int) (x24 : List ByteArray) (x25 : List ByteArray) : Option (List RV) := cutW W0 n19 td19_13 { fr := [((2 : Nat), F.a (A.c (C.pt (Pt.own (0 : Nat) (0 : Nat) (0 : Nat))))), ((3 : Nat), F.a (A.c (C.pt (Pt.own (1 : Nat) (0 : Nat) (0 : Nat))))), ((4 : Nat), F.a (A.c (C.pt (Pt.own (2 : Nat) (0 : Nat) (0 : Nat))))), ((6 : Nat), F.a (A.c (C.pt (Pt.own (3 : Nat) (0 : Nat) (0 : Nat))))), ((7 : Nat), F.a (A.c (C.sc (Go.Value.bool x0)))), ((8 : Nat), F.a (A.c (C.sc (Go.Value.bool x1)))), ((9 : Nat), F.a (A.c (C.sc (Go.Value.int Go.IntKind.i64 x2)))), ((10 : Nat), F.a (A.c (C.sc (Go.Value.int Go.IntKind.i64 x3))))], mem := [some (Row.box (24 : Nat) (some ty24) [C.sc (Go.Value.int Go.IntKind.i64 x4), C.sc (Go.Value.string x5), C.sc (Go.Value.string x6), C.sc (Go.Value.int Go.IntKind.i64 x7), C.sl Ty.str x8, C.sl Ty.str x9] false), some (Row.box (24 : Nat) (some ty24) [C.sc (Go.Value.int Go.IntKind.i64 x10), C.sc (Go.Value.string x11), C.sc (Go.Value.string x12), C.sc (Go.Value.int Go.IntKind.i64 x13), C.sl Ty.str x14, C.sl Ty.str x15] false), some (Row.box (24 : Nat) (some ty24) [C.sc (Go.Value.int Go.IntKind.i64 x16), C.sc (Go.Value.string x17), C.sc (Go.Value.string x18), C.sc (Go.Value.int Go.IntKind.i64 x19), C.nl, C.nl] false), some (Row.box (24 : Nat) (some ty24) [C.sc (Go.Value.int Go.IntKind.i64 x20), C.sc (Go.Value.string x21), C.sc (Go.Value.string x22), C.sc (Go.Value.int Go.IntKind.i64 x23), C.ow (4 : Nat) (List.length x24), C.ow (5 : Nat) (List.length x25)] false), some (Row.arr (9 : Nat) Ty.str x24 false), some (Row.arr (9 : Nat) Ty.str x25 false)], nx := (6 : Nat) }
noncomputable def td19_16 : List Item := (findT (code Tryd.f19) [] 16).getD []
noncomputable def l19_16 (x0 : Bool) (x1 : Bool) (x2 : Int) (x3 : Int) (x4 : Int) (x5 : ByteArray) (x6 : ByteArray) (x7 : Int) (x8 : List ByteArray) (x9 : List ByteArray) (x10 : Int) (x11 : ByteArray) (x12 : ByteArray) (x13 : Int) (x14 : List ByteArray) (x15 : List ByteArray) (x16 : Int) (x17 : ByteArray) (x18 : ByteArray) (x19 : Int) (x20 : Int) (x21 : ByteArray) (x22 : ByteArray) (x23 : Int) (x24 : List ByteArray) (x25 : List ByteArray) : Option (List RV) := cutW W0 n19 td19_16 { fr := [((2 : Nat), F.a (A.c (C.pt (Pt.own (0 : Nat) (0 : Nat) (0 : Nat))))), ((3 : Nat), F.a (A.c (C.pt (Pt.own (1 : Nat) (0 : Nat) (0 : Nat))))), ((4 : Nat), F.a (A.c (C.pt (Pt.own (2 : Nat) (0 : Nat) (0 : Nat))))), ((6 : Nat), F.a (A.c (C.pt (Pt.own (3 : Nat) (0 : Nat) (0 : Nat))))), ((7 : Nat), F.a (A.c (C.sc (Go.Value.bool x0)))), ((8 : Nat), F.a (A.c (C.sc (Go.Value.bool x1)))), ((9 : Nat), F.a (A.c (C.sc (Go.Value.int Go.IntKind.i64 x2)))), ((10 : Nat), F.a (A.c (C.sc (Go.Value.int Go.IntKind.i64 x3))))], mem := [some (Row.box (24 : Nat) (some ty24) [C.sc (Go.Value.int Go.IntKind.i64 x4), C.sc (Go.Value.string x5), C.sc (Go.Value.string x6), C.sc (Go.Value.int Go.IntKind.i64 x7), C.sl Ty.str x8, C.sl Ty.str x9] false), some (Row.box (24 : Nat) (some ty24) [C.sc (Go.Value.int Go.IntKind.i64 x10), C.sc (Go.Value.string x11), C.sc (Go.Value.string x12), C.sc (Go.Value.int Go.IntKind.i64 x13), C.sl Ty.str x14, C.sl Ty.str x15] false), some (Row.box (24 : Nat) (some ty24) [C.sc (Go.Value.int Go.IntKind.i64 x16), C.sc (Go.Value.string x17), C.sc (Go.Value.string x18), C.sc (Go.Value.int Go.IntKind.i64 x19), C.nl, C.nl] false), some (Row.box (24 : Nat) (some ty24) [C.sc (Go.Value.int Go.IntKind.i64 x20), C.sc (Go.Value.string x21), C.sc (Go.Value.string x22), C.sc (Go.Value.int Go.IntKind.i64 x23), C.ow (4 : Nat) (List.length x24), C.ow (5 : Nat) (List.length x25)] false), some (Row.arr (9 : Nat) Ty.str x24 false), some (Row.arr (9 : Nat) Ty.str x25 false)], nx := (6 : Nat) }
noncomputable def td19_17 : List Item := (findT (code Tryd.f19) [] 17).getD []
noncomputable def l19_17 (x0 : Bool) (x1 : Bool) (x2 : Int) (x3 : Int) (x4 : Bool) (x5 : Int) (x6 : ByteArray) (x7 : ByteArray) (x8 : Int) (x9 : List ByteArray) (x10 : List ByteArray) (x11 : Int) (x12 : ByteArray) (x13 : ByteArray) (x14 : Int) (x15 : List ByteArray) (x16 : List ByteArray) (x17 : Int) (x18 : ByteArray) (x19 : ByteArray) (x20 : Int) (x21 : Int) (x22 : ByteArray) (x23 : ByteArray) (x24 : Int) (x25 : List ByteArray) (x26 : List ByteArray) : Option (List RV) := cutW W0 n19 td19_17 { fr := [((2 : Nat), F.a (A.c (C.pt (Pt.own (0 : Nat) (0 : Nat) (0 : Nat))))), ((3 : Nat), F.a (A.c (C.pt (Pt.own (1 : Nat) (0 : Nat) (0 : Nat))))), ((4 : Nat), F.a (A.c (C.pt (Pt.own (2 : Nat) (0 : Nat) (0 : Nat))))), ((6 : Nat), F.a (A.c (C.pt (Pt.own (3 : Nat) (0 : Nat) (0 : Nat))))), ((7 : Nat), F.a (A.c (C.sc (Go.Value.bool x0)))), ((8 : Nat), F.a (A.c (C.sc (Go.Value.bool x1)))), ((9 : Nat), F.a (A.c (C.sc (Go.Value.int Go.IntKind.i64 x2)))), ((10 : Nat), F.a (A.c (C.sc (Go.Value.int Go.IntKind.i64 x3)))), ((11 : Nat), F.a (A.c (C.sc (Go.Value.bool x4))))], mem := [some (Row.box (24 : Nat) (some ty24) [C.sc (Go.Value.int Go.IntKind.i64 x5), C.sc (Go.Value.string x6), C.sc (Go.Value.string x7), C.sc (Go.Value.int Go.IntKind.i64 x8), C.sl Ty.str x9, C.sl Ty.str x10] false), some (Row.box (24 : Nat) (some ty24) [C.sc (Go.Value.int Go.IntKind.i64 x11), C.sc (Go.Value.string x12), C.sc (Go.Value.string x13), C.sc (Go.Value.int Go.IntKind.i64 x14), C.sl Ty.str x15, C.sl Ty.str x16] false), some (Row.box (24 : Nat) (some ty24) [C.sc (Go.Value.int Go.IntKind.i64 x17), C.sc (Go.Value.string x18), C.sc (Go.Value.string x19), C.sc (Go.Value.int Go.IntKind.i64 x20), C.nl, C.nl] false), some (Row.box (24 : Nat) (some ty24) [C.sc (Go.Value.int Go.IntKind.i64 x21), C.sc (Go.Value.string x22), C.sc (Go.Value.string x23), C.sc (Go.Value.int Go.IntKind.i64 x24), C.ow (4 : Nat) (List.length x25), C.ow (5 : Nat) (List.length x26)] false), some (Row.arr (9 : Nat) Ty.str x25 false), some (Row.arr (9 : Nat) Ty.str x26 false)], nx := (6 : Nat) }
noncomputable def td19_18 : List Item := (findT (code Tryd.f19) [] 18).getD []
noncomputable def l19_18 (x0 : Bool) (x1 : Bool) (x2 : Int) (x3 : Int) (x4 : Bool) (x5 : Bool) (x6 : Int) (x7 : ByteArray) (x8 : ByteArray) (x9 : Int) (x10 : List ByteArray) (x11 : List ByteArray) (x12 : Int) (x13 : ByteArray) (x14 : ByteArray) (x15 : Int) (x16 : List ByteArray) (x17 : List ByteArray) (x18 : Int) (x19 : ByteArray) (x20 : ByteArray) (x21 : Int) (x22 : Int) (x23 : ByteArray) (x24 : ByteArray) (x25 : Int) (x26 : List ByteArray) (x27 : List ByteArray) : Option (List RV) := cutW W0 n19 td19_18 { fr := [((2 : Nat), F.a (A.c (C.pt (Pt.own (0 : Nat) (0 : Nat) (0 : Nat))))), ((3 : Nat), F.a (A.c (C.pt (Pt.own (1 : Nat) (0 : Nat) (0 : Nat))))), ((4 : Nat), F.a (A.c (C.pt (Pt.own (2 : Nat) (0 : Nat) (0 : Nat))))), ((6 : Nat), F.a (A.c (C.pt (Pt.own (3 : Nat) (0 : Nat) (0 : Nat))))), ((7 : Nat), F.a (A.c (C.sc (Go.Value.bool x0)))), ((8 : Nat), F.a (A.c (C.sc (Go.Value.bool x1)))), ((9 : Nat), F.a (A.c (C.sc (Go.Value.int Go.IntKind.i64 x2)))), ((10 : Nat), F.a (A.c (C.sc (Go.Value.int Go.IntKind.i64 x3)))), ((11 : Nat), F.a (A.c (C.sc (Go.Value.bool x4)))), ((12 : Nat), F.a (A.c (C.sc (Go.Value.bool x5))))], mem := [some (Row.box (24 : Nat) (some ty24) [C.sc (Go.Value.int Go.IntKind.i64 x6), C.sc (Go.Value.string x7), C.sc (Go.Value.string x8), C.sc (Go.Value.int Go.IntKind.i64 x9), C.sl Ty.str x10, C.sl Ty.str x11] false), some (Row.box (24 : Nat) (some ty24) [C.sc (Go.Value.int Go.IntKind.i64 x12), C.sc (Go.Value.string x13), C.sc (Go.Value.string x14), C.sc (Go.Value.int Go.IntKind.i64 x15), C.sl Ty.str x16, C.sl Ty.str x17] false), some (Row.box (24 : Nat) (some ty24) [C.sc (Go.Value.int Go.IntKind.i64 x18), C.sc (Go.Value.string x19), C.sc (Go.Value.string x20), C.sc (Go.Value.int Go.IntKind.i64 x21), C.nl, C.nl] false), some (Row.box (24 : Nat) (some ty24) [C.sc (Go.Value.int Go.IntKind.i64 x22), C.sc (Go.Value.string x23), C.sc (Go.Value.string x24), C.sc (Go.Value.int Go.IntKind.i64 x25), C.ow (4 : Nat) (List.length x26), C.ow (5 : Nat) (List.length x27)] false), some (Row.arr (9 : Nat) Ty.str x26 false), some (Row.arr (9 : Nat) Ty.str x27 false)], nx := (6 : Nat) }
noncomputable def td19_20 : List Item := (findT (code Tryd.f19) [] 20).getD []
noncomputable def l19_20 (x0 : Bool) (x1 : Bool) (x2 : Int) (x3 : Int) (x4 : Bool) (x5 : Bool) (x6 : Int) (x7 : ByteArray) (x8 : ByteArray) (x9 : Int) (x10 : List ByteArray) (x11 : List ByteArray) (x12 : Int) (x13 : ByteArray) (x14 : ByteArray) (x15 : Int) (x16 : List ByteArray) (x17 : List ByteArray) (x18 : Int) (x19 : ByteArray) (x20 : ByteArray) (x21 : Int) (x22 : Int) (x23 : ByteArray) (x24 : ByteArray) (x25 : Int) (x26 : List ByteArray) (x27 : List ByteArray) : Option (List RV) := cutW W0 n19 td19_20 { fr := [((2 : Nat), F.a (A.c (C.pt (Pt.own (0 : Nat) (0 : Nat) (0 : Nat))))), ((3 : Nat), F.a (A.c (C.pt (Pt.own (1 : Nat) (0 : Nat) (0 : Nat))))), ((4 : Nat), F.a (A.c (C.pt (Pt.own (2 : Nat) (0 : Nat) (0 : Nat))))), ((6 : Nat), F.a (A.c (C.pt (Pt.own (3 : Nat) (0 : Nat) (0 : Nat))))), ((7 : Nat), F.a (A.c (C.sc (Go.Value.bool x0)))), ((8 : Nat), F.a (A.c (C.sc (Go.Value.bool x1)))), ((9 : Nat), F.a (A.c (C.sc (Go.Value.int Go.IntKind.i64 x2)))), ((10 : Nat), F.a (A.c (C.sc (Go.Value.int Go.IntKind.i64 x3)))), ((11 : Nat), F.a (A.c (C.sc (Go.Value.bool x4)))), ((12 : Nat), F.a (A.c (C.sc (Go.Value.bool x5))))], mem := [some (Row.box (24 : Nat) (some ty24) [C.sc (Go.Value.int Go.IntKind.i64 x6), C.sc (Go.Value.string x7), C.sc (Go.Value.string x8), C.sc (Go.Value.int Go.IntKind.i64 x9), C.sl Ty.str x10, C.sl Ty.str x11] false), some (Row.box (24 : Nat) (some ty24) [C.sc (Go.Value.int Go.IntKind.i64 x12), C.sc (Go.Value.string x13), C.sc (Go.Value.string x14), C.sc (Go.Value.int Go.IntKind.i64 x15), C.sl Ty.str x16, C.sl Ty.str x17] false), some (Row.box (24 : Nat) (some ty24) [C.sc (Go.Value.int Go.IntKind.i64 x18), C.sc (Go.Value.string x19), C.sc (Go.Value.string x20), C.sc (Go.Value.int Go.IntKind.i64 x21), C.nl, C.nl] false), some (Row.box (24 : Nat) (some ty24) [C.sc (Go.Value.int Go.IntKind.i64 x22), C.sc (Go.Value.string x23), C.sc (Go.Value.string x24), C.sc (Go.Value.int Go.IntKind.i64 x25), C.ow (4 : Nat) (List.length x26), C.ow (5 : Nat) (List.length x27)] false), some (Row.arr (9 : Nat) Ty.str x26 false), some (Row.arr (9 : Nat) Ty.str x27 false)], nx := (6 : Nat) }
noncomputable def td19_22 : List Item := (findT (code Tryd.f19) [] 22).getD []
noncomputable def l19_22 (x0 : Bool) (x1 : Bool) (x2 : Int) (x3 : Int) (x4 : Bool) (x5 : Bool) (x6 : Int) (x7 : ByteArray) (x8 : ByteArray) (x9 : Int) (x10 : List ByteArray) (x11 : List ByteArray) (x12 : Int) (x13 : ByteArray) (x14 : ByteArray) (x15 : Int) (x16 : List ByteArray) (x17 : List ByteArray) (x18 : Int) (x19 : ByteArray) (x20 : ByteArray) (x21 : Int) (x22 : Int) (x23 : ByteArray) (x24 : ByteArray) (x25 : Int) (x26 : List ByteArray) (x27 : List ByteArray) : Option (List RV) := cutW W0 n19 td19_22 { fr := [((2 : Nat), F.a (A.c (C.pt (Pt.own (0 : Nat) (0 : Nat) (0 : Nat))))), ((3 : Nat), F.a (A.c (C.pt (Pt.own (1 : Nat) (0 : Nat) (0 : Nat))))), ((4 : Nat), F.a (A.c (C.pt (Pt.own (2 : Nat) (0 : Nat) (0 : Nat))))), ((6 : Nat), F.a (A.c (C.pt (Pt.own (3 : Nat) (0 : Nat) (0 : Nat))))), ((7 : Nat), F.a (A.c (C.sc (Go.Value.bool x0)))), ((8 : Nat), F.a (A.c (C.sc (Go.Value.bool x1)))), ((9 : Nat), F.a (A.c (C.sc (Go.Value.int Go.IntKind.i64 x2)))), ((10 : Nat), F.a (A.c (C.sc (Go.Value.int Go.IntKind.i64 x3)))), ((11 : Nat), F.a (A.c (C.sc (Go.Value.bool x4)))), ((12 : Nat), F.a (A.c (C.sc (Go.Value.bool x5))))], mem := [some (Row.box (24 : Nat) (some ty24) [C.sc (Go.Value.int Go.IntKind.i64 x6), C.sc (Go.Value.string x7), C.sc (Go.Value.string x8), C.sc (Go.Value.int Go.IntKind.i64 x9), C.sl Ty.str x10, C.sl Ty.str x11] false), some (Row.box (24 : Nat) (some ty24) [C.sc (Go.Value.int Go.IntKind.i64 x12), C.sc (Go.Value.string x13), C.sc (Go.Value.string x14), C.sc (Go.Value.int Go.IntKind.i64 x15), C.sl Ty.str x16, C.sl Ty.str x17] false), some (Row.box (24 : Nat) (some ty24) [C.sc (Go.Value.int Go.IntKind.i64 x18), C.sc (Go.Value.string x19), C.sc (Go.Value.string x20), C.sc (Go.Value.int Go.IntKind.i64 x21), C.nl, C.nl] false), some (Row.box (24 : Nat) (some ty24) [C.sc (Go.Value.int Go.IntKind.i64 x22), C.sc (Go.Value.string x23), C.sc (Go.Value.string x24), C.sc (Go.Value.int Go.IntKind.i64 x25), C.ow (4 : Nat) (List.length x26), C.ow (5 : Nat) (List.length x27)] false), some (Row.arr (9 : Nat) Ty.str x26 false), some (Row.arr (9 : Nat) Ty.str x27 false)], nx := (6 : Nat) }
noncomputable def td19_9 : List Item := (findT (code Tryd.f19) [] 9).getD []
noncomputable def l19_9 (x0 : Bool) (x1 : Bool) (x2 : Int) (x3 : Int) (x4 : Int) (x5 : ByteArray) (x6 : ByteArray) (x7 : Int) (x8 : List ByteArray) (x9 : List ByteArray) (x10 : Int) (x11 : ByteArray) (x12 : ByteArray) (x13 : Int) (x14 : List ByteArray) (x15 : List ByteArray) (x16 : Int) (x17 : ByteArray) (x18 : ByteArray) (x19 : Int) (x20 : Int) (x21 : ByteArray) (x22 : ByteArray) (x23 : Int) (x24 : List ByteArray) (x25 : List ByteArray) : Option (List RV) := cutW W0 n19 td19_9 { fr := [((2 : Nat), F.a (A.c (C.pt (Pt.own (0 : Nat) (0 : Nat) (0 : Nat))))), ((3 : Nat), F.a (A.c (C.pt (Pt.own (1 : Nat) (0 : Nat) (0 : Nat))))), ((4 : Nat), F.a (A.c (C.pt (Pt.own (2 : Nat) (0 : Nat) (0 : Nat))))), ((6 : Nat), F.a (A.c (C.pt (Pt.own (3 : Nat) (0 : Nat) (0 : Nat))))), ((7 : Nat), F.a (A.c (C.sc (Go.Value.bool x0)))), ((8 : Nat), F.a (A.c (C.sc (Go.Value.bool x1)))), ((9 : Nat), F.a (A.c (C.sc (Go.Value.int Go.IntKind.i64 x2)))), ((10 : Nat), F.a (A.c (C.sc (Go.Value.int Go.IntKind.i64 x3))))], mem := [some (Row.box (24 : Nat) (some ty24) [C.sc (Go.Value.int Go.IntKind.i64 x4), C.sc (Go.Value.string x5), C.sc (Go.Value.string x6), C.sc (Go.Value.int Go.IntKind.i64 x7), C.sl Ty.str x8, C.sl Ty.str x9] false), some (Row.box (24 : Nat) (some ty24) [C.sc (Go.Value.int Go.IntKind.i64 x10), C.sc (Go.Value.string x11), C.sc (Go.Value.string x12), C.sc (Go.Value.int Go.IntKind.i64 x13), C.sl Ty.str x14, C.sl Ty.str x15] false), some (Row.box (24 : Nat) (some ty24) [C.sc (Go.Value.int Go.IntKind.i64 x16), C.sc (Go.Value.string x17), C.sc (Go.Value.string x18), C.sc (Go.Value.int Go.IntKind.i64 x19), C.nl, C.nl] false), some (Row.box (24 : Nat) (some ty24) [C.sc (Go.Value.int Go.IntKind.i64 x20), C.sc (Go.Value.string x21), C.sc (Go.Value.string x22), C.sc (Go.Value.int Go.IntKind.i64 x23), C.ow (4 : Nat) (List.length x24), C.ow (5 : Nat) (List.length x25)] false), some (Row.arr (9 : Nat) Ty.str x24 false), some (Row.arr (9 : Nat) Ty.str x25 false)], nx := (6 : Nat) }
theorem e19 (a0 : Int × ByteArray × ByteArray × Int × List ByteArray × List ByteArray) (a1 : Int × ByteArray × ByteArray × Int × List ByteArray × List ByteArray) : callG W0 (callW W0) (cutW W0) 19 [inj ty24 a0, inj ty24 a1] = Option.bind (cR (nat_lit 21) [RT.d Ty.bool] [inj ty24 a0, inj ty24 a1]) fun r => ifs ((!r) = true) (some (injRs [RT.d ty24, RT.d Ty.bool] (((0 : Int), { data := #[] }, { data := #[] }, (0 : Int), [], []), false))) (Option.bind (cR (nat_lit 71) [RT.d (Ty.int Go.IntKind.i64)] [inj (Ty.int Go.IntKind.i64) a0.snd.snd.snd.fst, inj (Ty.int Go.IntKind.i64) a1.snd.snd.snd.fst]) fun r => Option.bind (cR (nat_lit 72) [RT.d (Ty.int Go.IntKind.i64)] [inj (Ty.int Go.IntKind.i64) (Go.IntKind.wrap Go.IntKind.i64 (a0.snd.snd.snd.fst + (↑(List.length a0.snd.snd.snd.snd.snd) : Int))), inj (Ty.int Go.IntKind.i64) (Go.IntKind.wrap Go.IntKind.i64 (a1.snd.snd.snd.fst + (↑(List.length a1.snd.snd.snd.snd.fst) : Int)))]) fun r_1 => l19_8 false false r_1 r a0.fst a0.snd.fst a0.snd.snd.fst a0.snd.snd.snd.fst a0.snd.snd.snd.snd.fst a0.snd.snd.snd.snd.snd a1.fst a1.snd.fst a1.snd.snd.fst a1.snd.snd.snd.fst a1.snd.snd.snd.snd.fst a1.snd.snd.snd.snd.snd (0 : Int) { data := #[] } { data := #[] } (0 : Int) (6 : Int) a0.snd.fst { data := #[] } r [] []) := by kernel_rfl
theorem q19_8 (x0 : Bool) (x1 : Bool) (x2 : Int) (x3 : Int) (x4 : Int) (x5 : ByteArray) (x6 : ByteArray) (x7 : Int) (x8 : List ByteArray) (x9 : List ByteArray) (x10 : Int) (x11 : ByteArray) (x12 : ByteArray) (x13 : Int) (x14 : List ByteArray) (x15 : List ByteArray) (x16 : Int) (x17 : ByteArray) (x18 : ByteArray) (x19 : Int) (x20 : Int) (x21 : ByteArray) (x22 : ByteArray) (x23 : Int) (x24 : List ByteArray) (x25 : List ByteArray) : cutG W0 (callW W0) (cutW W0) n19 td19_8 { fr := [((2 : Nat), F.a (A.c (C.pt (Pt.own (0 : Nat) (0 : Nat) (0 : Nat))))), ((3 : Nat), F.a (A.c (C.pt (Pt.own (1 : Nat) (0 : Nat) (0 : Nat))))), ((4 : Nat), F.a (A.c (C.pt (Pt.own (2 : Nat) (0 : Nat) (0 : Nat))))), ((6 : Nat), F.a (A.c (C.pt (Pt.own (3 : Nat) (0 : Nat) (0 : Nat))))), ((7 : Nat), F.a (A.c (C.sc (Go.Value.bool x0)))), ((8 : Nat), F.a (A.c (C.sc (Go.Value.bool x1)))), ((9 : Nat), F.a (A.c (C.sc (Go.Value.int Go.IntKind.i64 x2)))), ((10 : Nat), F.a (A.c (C.sc (Go.Value.int Go.IntKind.i64 x3))))], mem := [some (Row.box (24 : Nat) (some ty24) [C.sc (Go.Value.int Go.IntKind.i64 x4), C.sc (Go.Value.string x5), C.sc (Go.Value.string x6), C.sc (Go.Value.int Go.IntKind.i64 x7), C.sl Ty.str x8, C.sl Ty.str x9] false), some (Row.box (24 : Nat) (some ty24) [C.sc (Go.Value.int Go.IntKind.i64 x10), C.sc (Go.Value.string x11), C.sc (Go.Value.string x12), C.sc (Go.Value.int Go.IntKind.i64 x13), C.sl Ty.str x14, C.sl Ty.str x15] false), some (Row.box (24 : Nat) (some ty24) [C.sc (Go.Value.int Go.IntKind.i64 x16), C.sc (Go.Value.string x17), C.sc (Go.Value.string x18), C.sc (Go.Value.int Go.IntKind.i64 x19), C.nl, C.nl] false), some (Row.box (24 : Nat) (some ty24) [C.sc (Go.Value.int Go.IntKind.i64 x20), C.sc (Go.Value.string x21), C.sc (Go.Value.string x22), C.sc (Go.Value.int Go.IntKind.i64 x23), C.ow (4 : Nat) (List.length x24), C.ow (5 : Nat) (List.length x25)] false), some (Row.arr (9 : Nat) Ty.str x24 false), some (Row.arr (9 : Nat) Ty.str x25 false)], nx := (6 : Nat) } = ifs (decide (x3 ≤ x2) = true) (ifs ((x3 == x7) = true) (ifs ((!x0) = true) (ifs ((List.length x24 + List.length x8) * nat_lit 16 ≤ (140737488355328 : Nat)) (l19_13 true x1 x2 x3 x4 x5 x6 x7 x8 x9 x10 x11 x12 x13 x14 x15 x16 x17 x18 x19 x20 x21 x22 x23 (List.take (List.length x24) x24 ++ x8) x25) none) (l19_13 x0 x1 x2 x3 x4 x5 x6 x7 x8 x9 x10 x11 x12 x13 x14 x15 x16 x17 x18 x19 x20 x21 x22 x23 x24 x25)) (l19_13 x0 x1 x2 x3 x4 x5 x6 x7 x8 x9 x10 x11 x12 x13 x14 x15 x16 x17 x18 x19 x20 x21 x22 x23 x24 x25)) (some (injRs [RT.d ty24, RT.d Ty.bool] ((x20, x21, x22, x23, List.take (List.length x24) x24, List.take (List.length x25) x25), true))) := by kernel_rfl
theorem q19_13 (x0 : Bool) (x1 : Bool) (x2 : Int) (x3 : Int) (x4 : Int) (x5 : ByteArray) (x6 : ByteArray) (x7 : Int) (x8 : List ByteArray) (x9 : List ByteArray) (x10 : Int) (x11 : ByteArray) (x12 : ByteArray) (x13 : Int) (x14 : List ByteArray) (x15 : List ByteArray) (x16 : Int) (x17 : ByteArray) (x18 : ByteArray) (x19 : Int) (x20 : Int) (x21 : ByteArray) (x22 : ByteArray) (x23 : Int) (x24 : List ByteArray) (x25 : List ByteArray) : cutG W0 (callW W0) (cutW W0) n19 td19_13 { fr := [((2 : Nat), F.a (A.c (C.pt (Pt.own (0 : Nat) (0 : Nat) (0 : Nat))))), ((3 : Nat), F.a (A.c (C.pt (Pt.own (1 : Nat) (0 : Nat) (0 : Nat))))), ((4 : Nat), F.a (A.c (C.pt (Pt.own (2 : Nat) (0 : Nat) (0 : Nat))))), ((6 : Nat), F.a (A.c (C.pt (Pt.own (3 : Nat) (0 : Nat) (0 : Nat))))), ((7 : Nat), F.a (A.c (C.sc (Go.Value.bool x0)))), ((8 : Nat), F.a (A.c (C.sc (Go.Value.bool x1)))), ((9 : Nat), F.a (A.c (C.sc (Go.Value.int Go.IntKind.i64 x2)))), ((10 : Nat), F.a (A.c (C.sc (Go.Value.int Go.IntKind.i64 x3))))], mem := [some (Row.box (24 : Nat) (some ty24) [C.sc (Go.Value.int Go.IntKind.i64 x4), C.sc (Go.Value.string x5), C.sc (Go.Value.string x6), C.sc (Go.Value.int Go.IntKind.i64 x7), C.sl Ty.str x8, C.sl Ty.str x9] false), some (Row.box (24 : Nat) (some ty24) [C.sc (Go.Value.int Go.IntKind.i64 x10), C.sc (Go.Value.string x11), C.sc (Go.Value.string x12), C.sc (Go.Value.int Go.IntKind.i64 x13), C.sl Ty.str x14, C.sl Ty.str x15] false), some (Row.box (24 : Nat) (some ty24) [C.sc (Go.Value.int Go.IntKind.i64 x16), C.sc (Go.Value.string x17), C.sc (Go.Value.string x18), C.sc (Go.Value.int Go.IntKind.i64 x19), C.nl, C.nl] false), some (Row.box (24 : Nat) (some ty24) [C.sc (Go.Value.int Go.IntKind.i64 x20), C.sc (Go.Value.string x21), C.sc (Go.Value.string x22), C.sc (Go.Value.int Go.IntKind.i64 x23), C.ow (4 : Nat) (List.length x24), C.ow (5 : Nat) (List.length x25)] false), some (Row.arr (9 : Nat) Ty.str x24 false), some (Row.arr (9 : Nat) Ty.str x25 false)], nx := (6 : Nat) } = ifs ((x3 == x13) = true) (ifs ((!x1) = true) (ifs ((List.length x25 + List.length x15) * nat_lit 16 ≤ (140737488355328 : Nat)) (l19_16 x0 true x2 x3 x4 x5 x6 x7 x8 x9 x10 x11 x12 x13 x14 x15 x16 x17 x18 x19 x20 x21 x22 x23 x24 (List.take (List.length x25) x25 ++ x15)) none) (l19_16 x0 x1 x2 x3 x4 x5 x6 x7 x8 x9 x10 x11 x12 x13 x14 x15 x16 x17 x18 x19 x20 x21 x22 x23 x24 x25)) (l19_16 x0 x1 x2 x3 x4 x5 x6 x7 x8 x9 x10 x11 x12 x13 x14 x15 x16 x17 x18 x19 x20 x21 x22 x23 x24 x25) := by kernel_rfl
theorem q19_16 (x0 : Bool) (x1 : Bool) (x2 : Int) (x3 : Int) (x4 : Int) (x5 : ByteArray) (x6 : ByteArray) (x7 : Int) (x8 : List ByteArray) (x9 : List ByteArray) (x10 : Int) (x11 : ByteArray) (x12 : ByteArray) (x13 : Int) (x14 : List ByteArray) (x15 : List ByteArray) (x16 : Int) (x17 : ByteArray) (x18 : ByteArray) (x19 : Int) (x20 : Int) (x21 : ByteArray) (x22 : ByteArray) (x23 : Int) (x24 : List ByteArray) (x25 : List ByteArray) : cutG W0 (callW W0) (cutW W0) n19 td19_16 { fr := [((2 : Nat), F.a (A.c (C.pt (Pt.own (0 : Nat) (0 : Nat) (0 : Nat))))), ((3 : Nat), F.a (A.c (C.pt (Pt.own (1 : Nat) (0 : Nat) (0 : Nat))))), ((4 : Nat), F.a (A.c (C.pt (Pt.own (2 : Nat) (0 : Nat) (0 : Nat))))), ((6 : Nat), F.a (A.c (C.pt (Pt.own (3 : Nat) (0 : Nat) (0 : Nat))))), ((7 : Nat), F.a (A.c (C.sc (Go.Value.bool x0)))), ((8 : Nat), F.a (A.c (C.sc (Go.Value.bool x1)))), ((9 : Nat), F.a (A.c (C.sc (Go.Value.int Go.IntKind.i64 x2)))), ((10 : Nat), F.a (A.c (C.sc (Go.Value.int Go.IntKind.i64 x3))))], mem := [some (Row.box (24 : Nat) (some ty24) [C.sc (Go.Value.int Go.IntKind.i64 x4), C.sc (Go.Value.string x5), C.sc (Go.Value.string x6), C.sc (Go.Value.int Go.IntKind.i64 x7), C.sl Ty.str x8, C.sl Ty.str x9] false), some (Row.box (24 : Nat) (some ty24) [C.sc (Go.Value.int Go.IntKind.i64 x10), C.sc (Go.Value.string x11), C.sc (Go.Value.string x12), C.sc (Go.Value.int Go.IntKind.i64 x13), C.sl Ty.str x14, C.sl Ty.str x15] false), some (Row.box (24 : Nat) (some ty24) [C.sc (Go.Value.int Go.IntKind.i64 x16), C.sc (Go.Value.string x17), C.sc (Go.Value.string x18), C.sc (Go.Value.int Go.IntKind.i64 x19), C.nl, C.nl] false), some (Row.box (24 : Nat) (some ty24) [C.sc (Go.Value.int Go.IntKind.i64 x20), C.sc (Go.Value.string x21), C.sc (Go.Value.string x22), C.sc (Go.Value.int Go.IntKind.i64 x23), C.ow (4 : Nat) (List.length x24), C.ow (5 : Nat) (List.length x25)] false), some (Row.arr (9 : Nat) Ty.str x24 false), some (Row.arr (9 : Nat) Ty.str x25 false)], nx := (6 : Nat) } = ifs (decide (x3 ≥ x7) = true) (l19_17 x0 x1 x2 x3 (decide (x3 < Go.IntKind.wrap Go.IntKind.i64 (x7 + (↑(List.length x9) : Int)))) x4 x5 x6 x7 x8 x9 x10 x11 x12 x13 x14 x15 x16 x17 x18 x19 x20 x21 x22 x23 x24 x25) (l19_17 x0 x1 x2 x3 false x4 x5 x6 x7 x8 x9 x10 x11 x12 x13 x14 x15 x16 x17 x18 x19 x20 x21 x22 x23 x24 x25) := by kernel_rfl
theorem q19_17 (x0 : Bool) (x1 : Bool) (x2 : Int) (x3 : Int) (x4 : Bool) (x5 : Int) (x6 : ByteArray) (x7 : ByteArray) (x8 : Int) (x9 : List ByteArray) (x10 : List ByteArray) (x11 : Int) (x12 : ByteArray) (x13 : ByteArray) (x14 : Int) (x15 : List ByteArray) (x16 : List ByteArray) (x17 : Int) (x18 : ByteArray) (x19 : ByteArray) (x20 : Int) (x21 : Int) (x22 : ByteArray) (x23 : ByteArray) (x24 : Int) (x25 : List ByteArray) (x26 : List ByteArray) : cutG W0 (callW W0) (cutW W0) n19 td19_17 { fr := [((2 : Nat), F.a (A.c (C.pt (Pt.own (0 : Nat) (0 : Nat) (0 : Nat))))), ((3 : Nat), F.a (A.c (C.pt (Pt.own (1 : Nat) (0 : Nat) (0 : Nat))))), ((4 : Nat), F.a (A.c (C.pt (Pt.own (2 : Nat) (0 : Nat) (0 : Nat))))), ((6 : Nat), F.a (A.c (C.pt (Pt.own (3 : Nat) (0 : Nat) (0 : Nat))))), ((7 : Nat), F.a (A.c (C.sc (Go.Value.bool x0)))), ((8 : Nat), F.a (A.c (C.sc (Go.Value.bool x1)))), ((9 : Nat), F.a (A.c (C.sc (Go.Value.int Go.IntKind.i64 x2)))), ((10 : Nat), F.a (A.c (C.sc (Go.Value.int Go.IntKind.i64 x3)))), ((11 : Nat), F.a (A.c (C.sc (Go.Value.bool x4))))], mem := [some (Row.box (24 : Nat) (some ty24) [C.sc (Go.Value.int Go.IntKind.i64 x5), C.sc (Go.Value.string x6), C.sc (Go.Value.string x7), C.sc (Go.Value.int Go.IntKind.i64 x8), C.sl Ty.str x9, C.sl Ty.str x10] false), some (Row.box (24 : Nat) (some ty24) [C.sc (Go.Value.int Go.IntKind.i64 x11), C.sc (Go.Value.string x12), C.sc (Go.Value.string x13), C.sc (Go.Value.int Go.IntKind.i64 x14), C.sl Ty.str x15, C.sl Ty.str x16] false), some (Row.box (24 : Nat) (some ty24) [C.sc (Go.Value.int Go.IntKind.i64 x17), C.sc (Go.Value.string x18), C.sc (Go.Value.string x19), C.sc (Go.Value.int Go.IntKind.i64 x20), C.nl, C.nl] false), some (Row.box (24 : Nat) (some ty24) [C.sc (Go.Value.int Go.IntKind.i64 x21), C.sc (Go.Value.string x22), C.sc (Go.Value.string x23), C.sc (Go.Value.int Go.IntKind.i64 x24), C.ow (4 : Nat) (List.length x25), C.ow (5 : Nat) (List.length x26)] false), some (Row.arr (9 : Nat) Ty.str x25 false), some (Row.arr (9 : Nat) Ty.str x26 false)], nx := (6 : Nat) } = ifs (decide (x3 ≥ x14) = true) (l19_18 x0 x1 x2 x3 x4 (decide (x3 < Go.IntKind.wrap Go.IntKind.i64 (x14 + (↑(List.length x15) : Int)))) x5 x6 x7 x8 x9 x10 x11 x12 x13 x14 x15 x16 x17 x18 x19 x20 x21 x22 x23 x24 x25 x26) (l19_18 x0 x1 x2 x3 x4 false x5 x6 x7 x8 x9 x10 x11 x12 x13 x14 x15 x16 x17 x18 x19 x20 x21 x22 x23 x24 x25 x26) := by kernel_rfl
theorem q19_18 (x0 : Bool) (x1 : Bool) (x2 : Int) (x3 : Int) (x4 : Bool) (x5 : Bool) (x6 : Int) (x7 : ByteArray) (x8 : ByteArray) (x9 : Int) (x10 : List ByteArray) (x11 : List ByteArray) (x12 : Int) (x13 : ByteArray) (x14 : ByteArray) (x15 : Int) (x16 : List ByteArray) (x17 : List ByteArray) (x18 : Int) (x19 : ByteArray) (x20 : ByteArray) (x21 : Int) (x22 : Int) (x23 : ByteArray) (x24 : ByteArray) (x25 : Int) (x26 : List ByteArray) (x27 : List ByteArray) : cutG W0 (callW W0) (cutW W0) n19 td19_18 { fr := [((2 : Nat), F.a (A.c (C.pt (Pt.own (0 : Nat) (0 : Nat) (0 : Nat))))), ((3 : Nat), F.a (A.c (C.pt (Pt.own (1 : Nat) (0 : Nat) (0 : Nat))))), ((4 : Nat), F.a (A.c (C.pt (Pt.own (2 : Nat) (0 : Nat) (0 : Nat))))), ((6 : Nat), F.a (A.c (C.pt (Pt.own (3 : Nat) (0 : Nat) (0 : Nat))))), ((7 : Nat), F.a (A.c (C.sc (Go.Value.bool x0)))), ((8 : Nat), F.a (A.c (C.sc (Go.Value.bool x1)))), ((9 : Nat), F.a (A.c (C.sc (Go.Value.int Go.IntKind.i64 x2)))), ((10 : Nat), F.a (A.c (C.sc (Go.Value.int Go.IntKind.i64 x3)))), ((11 : Nat), F.a (A.c (C.sc (Go.Value.bool x4)))), ((12 : Nat), F.a (A.c (C.sc (Go.Value.bool x5))))], mem := [some (Row.box (24 : Nat) (some ty24) [C.sc (Go.Value.int Go.IntKind.i64 x6), C.sc (Go.Value.string x7), C.sc (Go.Value.string x8), C.sc (Go.Value.int Go.IntKind.i64 x9), C.sl Ty.str x10, C.sl Ty.str x11] false), some (Row.box (24 : Nat) (some ty24) [C.sc (Go.Value.int Go.IntKind.i64 x12), C.sc (Go.Value.string x13), C.sc (Go.Value.string x14), C.sc (Go.Value.int Go.IntKind.i64 x15), C.sl Ty.str x16, C.sl Ty.str x17] false), some (Row.box (24 : Nat) (some ty24) [C.sc (Go.Value.int Go.IntKind.i64 x18), C.sc (Go.Value.string x19), C.sc (Go.Value.string x20), C.sc (Go.Value.int Go.IntKind.i64 x21), C.nl, C.nl] false), some (Row.box (24 : Nat) (some ty24) [C.sc (Go.Value.int Go.IntKind.i64 x22), C.sc (Go.Value.string x23), C.sc (Go.Value.string x24), C.sc (Go.Value.int Go.IntKind.i64 x25), C.ow (4 : Nat) (List.length x26), C.ow (5 : Nat) (List.length x27)] false), some (Row.arr (9 : Nat) Ty.str x26 false), some (Row.arr (9 : Nat) Ty.str x27 false)], nx := (6 : Nat) } = ifs (x4 = true) (ifs (x5 = true) (ifs ((0 : Int) ≤ Go.IntKind.wrap Go.IntKind.i64 (x3 - x9)) (Option.bind x11[Int.toNat (Go.IntKind.wrap Go.IntKind.i64 (x3 - x9))]? fun r => ifs ((0 : Int) ≤ Go.IntKind.wrap Go.IntKind.i64 (x3 - x15)) (Option.bind x16[Int.toNat (Go.IntKind.wrap Go.IntKind.i64 (x3 - x15))]? fun r_1 => ifs ((!ByteArray.toList r == ByteArray.toList r_1) = true) (some (injRs [RT.d ty24, RT.d Ty.bool] (((0 : Int), { data := #[] }, { data := #[] }, (0 : Int), [], []), false))) (l19_20 x0 x1 x2 x3 x4 x5 x6 x7 x8 x9 x10 x11 x12 x13 x14 x15 x16 x17 x18 x19 x20 x21 x22 x23 x24 x25 x26 x27)) none) none) (l19_20 x0 x1 x2 x3 x4 x5 x6 x7 x8 x9 x10 x11 x12 x13 x14 x15 x16 x17 x18 x19 x20 x21 x22 x23 x24 x25 x26 x27)) (l19_20 x0 x1 x2 x3 x4 x5 x6 x7 x8 x9 x10 x11 x12 x13 x14 x15 x16 x17 x18 x19 x20 x21 x22 x23 x24 x25 x26 x27) := by kernel_rfl
theorem q19_20 (x0 : Bool) (x1 : Bool) (x2 : Int) (x3 : Int) (x4 : Bool) (x5 : Bool) (x6 : Int) (x7 : ByteArray) (x8 : ByteArray) (x9 : Int) (x10 : List ByteArray) (x11 : List ByteArray) (x12 : Int) (x13 : ByteArray) (x14 : ByteArray) (x15 : Int) (x16 : List ByteArray) (x17 : List ByteArray) (x18 : Int) (x19 : ByteArray) (x20 : ByteArray) (x21 : Int) (x22 : Int) (x23 : ByteArray) (x24 : ByteArray) (x25 : Int) (x26 : List ByteArray) (x27 : List ByteArray) : cutG W0 (callW W0) (cutW W0) n19 td19_20 { fr := [((2 : Nat), F.a (A.c (C.pt (Pt.own (0 : Nat) (0 : Nat) (0 : Nat))))), ((3 : Nat), F.a (A.c (C.pt (Pt.own (1 : Nat) (0 : Nat) (0 : Nat))))), ((4 : Nat), F.a (A.c (C.pt (Pt.own (2 : Nat) (0 : Nat) (0 : Nat))))), ((6 : Nat), F.a (A.c (C.pt (Pt.own (3 : Nat) (0 : Nat) (0 : Nat))))), ((7 : Nat), F.a (A.c (C.sc (Go.Value.bool x0)))), ((8 : Nat), F.a (A.c (C.sc (Go.Value.bool x1)))), ((9 : Nat), F.a (A.c (C.sc (Go.Value.int Go.IntKind.i64 x2)))), ((10 : Nat), F.a (A.c (C.sc (Go.Value.int Go.IntKind.i64 x3)))), ((11 : Nat), F.a (A.c (C.sc (Go.Value.bool x4)))), ((12 : Nat), F.a (A.c (C.sc (Go.Value.bool x5))))], mem := [some (Row.box (24 : Nat) (some ty24) [C.sc (Go.Value.int Go.IntKind.i64 x6), C.sc (Go.Value.string x7), C.sc (Go.Value.string x8), C.sc (Go.Value.int Go.IntKind.i64 x9), C.sl Ty.str x10, C.sl Ty.str x11] false), some (Row.box (24 : Nat) (some ty24) [C.sc (Go.Value.int Go.IntKind.i64 x12), C.sc (Go.Value.string x13), C.sc (Go.Value.string x14), C.sc (Go.Value.int Go.IntKind.i64 x15), C.sl Ty.str x16, C.sl Ty.str x17] false), some (Row.box (24 : Nat) (some ty24) [C.sc (Go.Value.int Go.IntKind.i64 x18), C.sc (Go.Value.string x19), C.sc (Go.Value.string x20), C.sc (Go.Value.int Go.IntKind.i64 x21), C.nl, C.nl] false), some (Row.box (24 : Nat) (some ty24) [C.sc (Go.Value.int Go.IntKind.i64 x22), C.sc (Go.Value.string x23), C.sc (Go.Value.string x24), C.sc (Go.Value.int Go.IntKind.i64 x25), C.ow (4 : Nat) (List.length x26), C.ow (5 : Nat) (List.length x27)] false), some (Row.arr (9 : Nat) Ty.str x26 false), some (Row.arr (9 : Nat) Ty.str x27 false)], nx := (6 : Nat) } = ifs (x5 = true) (ifs ((!x4) = true) (ifs ((0 : Int) ≤ Go.IntKind.wrap Go.IntKind.i64 (x3 - x15)) (Option.bind x16[Int.toNat (Go.IntKind.wrap Go.IntKind.i64 (x3 - x15))]? fun r => ifs ((List.length x26 + (1 : Nat)) * nat_lit 16 ≤ (140737488355328 : Nat)) (l19_22 x0 x1 x2 x3 x4 x5 x6 x7 x8 x9 x10 x11 x12 x13 x14 x15 x16 x17 x18 x19 x20 x21 x22 x23 x24 x25 (List.take (List.length x26) x26 ++ [r]) x27) none) none) (l19_22 x0 x1 x2 x3 x4 x5 x6 x7 x8 x9 x10 x11 x12 x13 x14 x15 x16 x17 x18 x19 x20 x21 x22 x23 x24 x25 x26 x27)) (l19_22 x0 x1 x2 x3 x4 x5 x6 x7 x8 x9 x10 x11 x12 x13 x14 x15 x16 x17 x18 x19 x20 x21 x22 x23 x24 x25 x26 x27) := by kernel_rfl
theorem q19_22 (x0 : Bool) (x1 : Bool) (x2 : Int) (x3 : Int) (x4 : Bool) (x5 : Bool) (x6 : Int) (x7 : ByteArray) (x8 : ByteArray) (x9 : Int) (x10 : List ByteArray) (x11 : List ByteArray) (x12 : Int) (x13 : ByteArray) (x14 : ByteArray) (x15 : Int) (x16 : List ByteArray) (x17 : List ByteArray) (x18 : Int) (x19 : ByteArray) (x20 : ByteArray) (x21 : Int) (x22 : Int) (x23 : ByteArray) (x24 : ByteArray) (x25 : Int) (x26 : List ByteArray) (x27 : List ByteArray) : cutG W0 (callW W0) (cutW W0) n19 td19_22 { fr := [((2 : Nat), F.a (A.c (C.pt (Pt.own (0 : Nat) (0 : Nat) (0 : Nat))))), ((3 : Nat), F.a (A.c (C.pt (Pt.own (1 : Nat) (0 : Nat) (0 : Nat))))), ((4 : Nat), F.a (A.c (C.pt (Pt.own (2 : Nat) (0 : Nat) (0 : Nat))))), ((6 : Nat), F.a (A.c (C.pt (Pt.own (3 : Nat) (0 : Nat) (0 : Nat))))), ((7 : Nat), F.a (A.c (C.sc (Go.Value.bool x0)))), ((8 : Nat), F.a (A.c (C.sc (Go.Value.bool x1)))), ((9 : Nat), F.a (A.c (C.sc (Go.Value.int Go.IntKind.i64 x2)))), ((10 : Nat), F.a (A.c (C.sc (Go.Value.int Go.IntKind.i64 x3)))), ((11 : Nat), F.a (A.c (C.sc (Go.Value.bool x4)))), ((12 : Nat), F.a (A.c (C.sc (Go.Value.bool x5))))], mem := [some (Row.box (24 : Nat) (some ty24) [C.sc (Go.Value.int Go.IntKind.i64 x6), C.sc (Go.Value.string x7), C.sc (Go.Value.string x8), C.sc (Go.Value.int Go.IntKind.i64 x9), C.sl Ty.str x10, C.sl Ty.str x11] false), some (Row.box (24 : Nat) (some ty24) [C.sc (Go.Value.int Go.IntKind.i64 x12), C.sc (Go.Value.string x13), C.sc (Go.Value.string x14), C.sc (Go.Value.int Go.IntKind.i64 x15), C.sl Ty.str x16, C.sl Ty.str x17] false), some (Row.box (24 : Nat) (some ty24) [C.sc (Go.Value.int Go.IntKind.i64 x18), C.sc (Go.Value.string x19), C.sc (Go.Value.string x20), C.sc (Go.Value.int Go.IntKind.i64 x21), C.nl, C.nl] false), some (Row.box (24 : Nat) (some ty24) [C.sc (Go.Value.int Go.IntKind.i64 x22), C.sc (Go.Value.string x23), C.sc (Go.Value.string x24), C.sc (Go.Value.int Go.IntKind.i64 x25), C.ow (4 : Nat) (List.length x26), C.ow (5 : Nat) (List.length x27)] false), some (Row.arr (9 : Nat) Ty.str x26 false), some (Row.arr (9 : Nat) Ty.str x27 false)], nx := (6 : Nat) } = ifs (x4 = true) (ifs ((!x5) = true) (ifs ((0 : Int) ≤ Go.IntKind.wrap Go.IntKind.i64 (x3 - x9)) (Option.bind x11[Int.toNat (Go.IntKind.wrap Go.IntKind.i64 (x3 - x9))]? fun r => ifs ((List.length x27 + (1 : Nat)) * nat_lit 16 ≤ (140737488355328 : Nat)) (l19_9 x0 x1 x2 x3 x6 x7 x8 x9 x10 x11 x12 x13 x14 x15 x16 x17 x18 x19 x20 x21 x22 x23 x24 x25 x26 (List.take (List.length x27) x27 ++ [r])) none) none) (l19_9 x0 x1 x2 x3 x6 x7 x8 x9 x10 x11 x12 x13 x14 x15 x16 x17 x18 x19 x20 x21 x22 x23 x24 x25 x26 x27)) (l19_9 x0 x1 x2 x3 x6 x7 x8 x9 x10 x11 x12 x13 x14 x15 x16 x17 x18 x19 x20 x21 x22 x23 x24 x25 x26 x27) := by kernel_rfl
theorem q19_9 (x0 : Bool) (x1 : Bool) (x2 : Int) (x3 : Int) (x4 : Int) (x5 : ByteArray) (x6 : ByteArray) (x7 : Int) (x8 : List ByteArray) (x9 : List ByteArray) (x10 : Int) (x11 : ByteArray) (x12 : ByteArray) (x13 : Int) (x14 : List ByteArray) (x15 : List ByteArray) (x16 : Int) (x17 : ByteArray) (x18 : ByteArray) (x19 : Int) (x20 : Int) (x21 : ByteArray) (x22 : ByteArray) (x23 : Int) (x24 : List ByteArray) (x25 : List ByteArray) : cutG W0 (callW W0) (cutW W0) n19 td19_9 { fr := [((2 : Nat), F.a (A.c (C.pt (Pt.own (0 : Nat) (0 : Nat) (0 : Nat))))), ((3 : Nat), F.a (A.c (C.pt (Pt.own (1 : Nat) (0 : Nat) (0 : Nat))))), ((4 : Nat), F.a (A.c (C.pt (Pt.own (2 : Nat) (0 : Nat) (0 : Nat))))), ((6 : Nat), F.a (A.c (C.pt (Pt.own (3 : Nat) (0 : Nat) (0 : Nat))))), ((7 : Nat), F.a (A.c (C.sc (Go.Value.bool x0)))), ((8 : Nat), F.a (A.c (C.sc (Go.Value.bool x1)))), ((9 : Nat), F.a (A.c (C.sc (Go.Value.int Go.IntKind.i64 x2)))), ((10 : Nat), F.a (A.c (C.sc (Go.Value.int Go.IntKind.i64 x3))))], mem := [some (Row.box (24 : Nat) (some ty24) [C.sc (Go.Value.int Go.IntKind.i64 x4), C.sc (Go.Value.string x5), C.sc (Go.Value.string x6), C.sc (Go.Value.int Go.IntKind.i64 x7), C.sl Ty.str x8, C.sl Ty.str x9] false), some (Row.box (24 : Nat) (some ty24) [C.sc (Go.Value.int Go.IntKind.i64 x10), C.sc (Go.Value.string x11), C.sc (Go.Value.string x12), C.sc (Go.Value.int Go.IntKind.i64 x13), C.sl Ty.str x14, C.sl Ty.str x15] false), some (Row.box (24 : Nat) (some ty24) [C.sc (Go.Value.int Go.IntKind.i64 x16), C.sc (Go.Value.string x17), C.sc (Go.Value.string x18), C.sc (Go.Value.int Go.IntKind.i64 x19), C.nl, C.nl] false), some (Row.box (24 : Nat) (some ty24) [C.sc (Go.Value.int Go.IntKind.i64 x20), C.sc (Go.Value.string x21), C.sc (Go.Value.string x22), C.sc (Go.Value.int Go.IntKind.i64 x23), C.ow (4 : Nat) (List.length x24), C.ow (5 : Nat) (List.length x25)] false), some (Row.arr (9 : Nat) Ty.str x24 false), some (Row.arr (9 : Nat) Ty.str x25 false)], nx := (6 : Nat) } = l19_8 x0 x1 x2 (Go.IntKind.wrap Go.IntKind.i64 (x3 + (1 : Int))) x4 x5 x6 x7 x8 x9 x10 x11 x12 x13 x14 x15 x16 x17 x18 x19 x20 x21 x22 x23 x24 x25 := by kernel_rfl
theorem e17 (a0 : Int × ByteArray × ByteArray × Int × List ByteArray × List ByteArray) (a1 : Int × ByteArray × ByteArray × Int × List ByteArray × List ByteArray) : callG W0 (callW W0) (cutW W0) 17 [inj ty24 a0, inj ty24 a1] = Option.bind (cR (nat_lit 67) [RT.d (Ty.int Go.IntKind.i64)] [inj ty24 a0]) fun r => ifs ((r != (0 : Int)) = false) (Option.bind (cR (nat_lit 67) [RT.d (Ty.int Go.IntKind.i64)] [inj ty24 a1]) fun r => ifs ((r != (0 : Int)) = true) (some (injRs [RT.own (24 : Go.TypeId) ty24, RT.d Ty.bool] ([], false))) (ifs ((a0.fst != (2 : Int)) = true) (ifs ((a0.fst != (4 : Int)) = true) (ifs ((a0.fst != (6 : Int)) = true) (Option.bind (cR (nat_lit 68) [RT.d ty24] [inj ty24 a0]) fun r => Option.bind (cR (nat_lit 13) [RT.d Ty.bool] [inj (Ty.sl ty24) [r], inj (Ty.sl ty24) [a1]]) fun r => ifs (r = true) (some (injRs [RT.own (24 : Go.TypeId) ty24, RT.d Ty.bool] ([], true))) (ifs ((a0.fst == (5 : Int)) = true) (ifs ((a1.fst == (5 : Int)) = true) (ifs ((ByteArray.toList a1.snd.fst == ByteArray.toList a0.snd.snd.fst) = true) (some (injRs [RT.own (24 : Go.TypeId) ty24, RT.d Ty.bool] ([((5 : Int), a0.snd.fst, a1.snd.snd.fst, (0 : Int), [], [])], true))) (Option.bind (cR (nat_lit 19) [RT.d ty24, RT.d Ty.bool] [inj ty24 a0, inj ty24 a1]) fun r => ifs ((!r.snd) = true) (some (injRs [RT.own (24 : Go.TypeId) ty24, RT.d Ty.bool] ([], false))) (Option.bind (cR (nat_lit 42) [RT.d Ty.bool] [inj (Ty.sl Ty.str) r.fst.snd.snd.snd.snd.fst, inj (Ty.sl Ty.str) r.fst.snd.snd.snd.snd.snd]) fun r_1 => ifs (r_1 = true) (some (injRs [RT.own (24 : Go.TypeId) ty24, RT.d Ty.bool] ([], true))) (some (injRs [RT.own (24 : Go.TypeId) ty24, RT.d Ty.bool] ([r.fst], true)))))) (Option.bind (cR (nat_lit 19) [RT.d ty24, RT.d Ty.bool] [inj ty24 a0, inj ty24 a1]) fun r => ifs ((!r.snd) = true) (some (injRs [RT.own (24 : Go.TypeId) ty24, RT.d Ty.bool] ([], false))) (Option.bind (cR (nat_lit 42) [RT.d Ty.bool] [inj (Ty.sl Ty.str) r.fst.snd.snd.snd.snd.fst, inj (Ty.sl Ty.str) r.fst.snd.snd.snd.snd.snd]) fun r_1 => ifs (r_1 = true) (some (injRs [RT.own (24 : Go.TypeId) ty24, RT.d Ty.bool] ([], true))) (some (injRs [RT.own (24 : Go.TypeId) ty24, RT.d Ty.bool] ([r.fst], true)))))) (Option.bind (cR (nat_lit 19) [RT.d ty24, RT.d Ty.bool] [inj ty24 a0, inj ty24 a1]) fun r => ifs ((!r.snd) = true) (some (injRs [RT.own (24 : Go.TypeId) ty24, RT.d Ty.bool] ([], false))) (Option.bind (cR (nat_lit 42) [RT.d Ty.bool] [inj (Ty.sl Ty.str) r.fst.snd.snd.snd.snd.fst, inj (Ty.sl Ty.str) r.fst.snd.snd.snd.snd.snd]) fun r_1 => ifs (r_1 = true) (some (injRs [RT.own (24 : Go.TypeId) ty24, RT.d Ty.bool] ([], true))) (some (injRs [RT.own (24 : Go.TypeId) ty24, RT.d Ty.bool] ([r.fst], true))))))) (ifs ((a0.fst == (5 : Int)) = true) (ifs ((a1.fst == (5 : Int)) = true) (ifs ((ByteArray.toList a1.snd.fst == ByteArray.toList a0.snd.snd.fst) = true) (some (injRs [RT.own (24 : Go.TypeId) ty24, RT.d Ty.bool] ([((5 : Int), a0.snd.fst, a1.snd.snd.fst, (0 : Int), [], [])], true))) (Option.bind (cR (nat_lit 19) [RT.d ty24, RT.d Ty.bool] [inj ty24 a0, inj ty24 a1]) fun r => ifs ((!r.snd) = true) (some (injRs [RT.own (24 : Go.TypeId) ty24, RT.d Ty.bool] ([], false))) (Option.bind (cR (nat_lit 42) [RT.d Ty.bool] [inj (Ty.sl Ty.str) r.fst.snd.snd.snd.snd.fst, inj (Ty.sl Ty.str) r.fst.snd.snd.snd.snd.snd]) fun r_1 => ifs (r_1 = true) (some (injRs [RT.own (24 : Go.TypeId) ty24, RT.d Ty.bool] ([], true))) (some (injRs [RT.own (24 : Go.TypeId) ty24, RT.d Ty.bool] ([r.fst], true)))))) (Option.bind (cR (nat_lit 19) [RT.d ty24, RT.d Ty.bool] [inj ty24 a0, inj ty24 a1]) fun r => ifs ((!r.snd) = true) (some (injRs [RT.own (24 : Go.TypeId) ty24, RT.d Ty.bool] ([], false))) (Option.bind (cR (nat_lit 42) [RT.d Ty.bool] [inj (Ty.sl Ty.str) r.fst.snd.snd.snd.snd.fst, inj (Ty.sl Ty.str) r.fst.snd.snd.snd.snd.snd]) fun r_1 => ifs (r_1 = true) (some (injRs [RT.own (24 : Go.TypeId) ty24, RT.d Ty.bool] ([], true))) (some (injRs [RT.own (24 : Go.TypeId) ty24, RT.d Ty.bool] ([r.fst], true)))))) (Option.bind (cR (nat_lit 19) [RT.d ty24, RT.d Ty.bool] [inj ty24 a0, inj ty24 a1]) fun r => ifs ((!r.snd) = true) (some (injRs [RT.own (24 : Go.TypeId) ty24, RT.d Ty.bool] ([], false))) (Option.bind (cR (nat_lit 42) [RT.d Ty.bool] [inj (Ty.sl Ty.str) r.fst.snd.snd.snd.snd.fst, inj (Ty.sl Ty.str) r.fst.snd.snd.snd.snd.snd]) fun r_1 => ifs (r_1 = true) (some (injRs [RT.own (24 : Go.TypeId) ty24, RT.d Ty.bool] ([], true))) (some (injRs [RT.own (24 : Go.TypeId) ty24, RT.d Ty.bool] ([r.fst], true))))))) (ifs ((a0.fst == (5 : Int)) = true) (ifs ((a1.fst == (5 : Int)) = true) (ifs ((ByteArray.toList a1.snd.fst == ByteArray.toList a0.snd.snd.fst) = true) (some (injRs [RT.own (24 : Go.TypeId) ty24, RT.d Ty.bool] ([((5 : Int), a0.snd.fst, a1.snd.snd.fst, (0 : Int), [], [])], true))) (Option.bind (cR (nat_lit 19) [RT.d ty24, RT.d Ty.bool] [inj ty24 a0, inj ty24 a1]) fun r => ifs ((!r.snd) = true) (some (injRs [RT.own (24 : Go.TypeId) ty24, RT.d Ty.bool] ([], false))) (Option.bind (cR (nat_lit 42) [RT.d Ty.bool] [inj (Ty.sl Ty.str) r.fst.snd.snd.snd.snd.fst, inj (Ty.sl Ty.str) r.fst.snd.snd.snd.snd.snd]) fun r_1 => ifs (r_1 = true) (some (injRs [RT.own (24 : Go.TypeId) ty24, RT.d Ty.bool] ([], true))) (some (injRs [RT.own (24 : Go.TypeId) ty24, RT.d Ty.bool] ([r.fst], true)))))) (Option.bind (cR (nat_lit 19) [RT.d ty24, RT.d Ty.bool] [inj ty24 a0, inj ty24 a1]) fun r => ifs ((!r.snd) = true) (some (injRs [RT.own (24 : Go.TypeId) ty24, RT.d Ty.bool] ([], false))) (Option.bind (cR (nat_lit 42) [RT.d Ty.bool] [inj (Ty.sl Ty.str) r.fst.snd.snd.snd.snd.fst, inj (Ty.sl Ty.str) r.fst.snd.snd.snd.snd.snd]) fun r_1 => ifs (r_1 = true) (some (injRs [RT.own (24 : Go.TypeId) ty24, RT.d Ty.bool] ([], true))) (some (injRs [RT.own (24 : Go.TypeId) ty24, RT.d Ty.bool] ([r.fst], true)))))) (Option.bind (cR (nat_lit 19) [RT.d ty24, RT.d Ty.bool] [inj ty24 a0, inj ty24 a1]) fun r => ifs ((!r.snd) = true) (some (injRs [RT.own (24 : Go.TypeId) ty24, RT.d Ty.bool] ([], false))) (Option.bind (cR (nat_lit 42) [RT.d Ty.bool] [inj (Ty.sl Ty.str) r.fst.snd.snd.snd.snd.fst, inj (Ty.sl Ty.str) r.fst.snd.snd.snd.snd.snd]) fun r_1 => ifs (r_1 = true) (some (injRs [RT.own (24 : Go.TypeId) ty24, RT.d Ty.bool] ([], true))) (some (injRs [RT.own (24 : Go.TypeId) ty24, RT.d Ty.bool] ([r.fst], true))))))) (ifs ((a0.fst == (5 : Int)) = true) (ifs ((a1.fst == (5 : Int)) = true) (ifs ((ByteArray.toList a1.snd.fst == ByteArray.toList a0.snd.snd.fst) = true) (some (injRs [RT.own (24 : Go.TypeId) ty24, RT.d Ty.bool] ([((5 : Int), a0.snd.fst, a1.snd.snd.fst, (0 : Int), [], [])], true))) (Option.bind (cR (nat_lit 19) [RT.d ty24, RT.d Ty.bool] [inj ty24 a0, inj ty24 a1]) fun r => ifs ((!r.snd) = true) (some (injRs [RT.own (24 : Go.TypeId) ty24, RT.d Ty.bool] ([], false))) (Option.bind (cR (nat_lit 42) [RT.d Ty.bool] [inj (Ty.sl Ty.str) r.fst.snd.snd.snd.snd.fst, inj (Ty.sl Ty.str) r.fst.snd.snd.snd.snd.snd]) fun r_1 => ifs (r_1 = true) (some (injRs [RT.own (24 : Go.TypeId) ty24, RT.d Ty.bool] ([], true))) (some (injRs [RT.own (24 : Go.TypeId) ty24, RT.d Ty.bool] ([r.fst], true)))))) (Option.bind (cR (nat_lit 19) [RT.d ty24, RT.d Ty.bool] [inj ty24 a0, inj ty24 a1]) fun r => ifs ((!r.snd) = true) (some (injRs [RT.own (24 : Go.TypeId) ty24, RT.d Ty.bool] ([], false))) (Option.bind (cR (nat_lit 42) [RT.d Ty.bool] [inj (Ty.sl Ty.str) r.fst.snd.snd.snd.snd.fst, inj (Ty.sl Ty.str) r.fst.snd.snd.snd.snd.snd]) fun r_1 => ifs (r_1 = true) (some (injRs [RT.own (24 : Go.TypeId) ty24, RT.d Ty.bool] ([], true))) (some (injRs [RT.own (24 : Go.TypeId) ty24, RT.d Ty.bool] ([r.fst], true)))))) (Option.bind (cR (nat_lit 19) [RT.d ty24, RT.d Ty.bool] [inj ty24 a0, inj ty24 a1]) fun r => ifs ((!r.snd) = true) (some (injRs [RT.own (24 : Go.TypeId) ty24, RT.d Ty.bool] ([], false))) (Option.bind (cR (nat_lit 42) [RT.d Ty.bool] [inj (Ty.sl Ty.str) r.fst.snd.snd.snd.snd.fst, inj (Ty.sl Ty.str) r.fst.snd.snd.snd.snd.snd]) fun r_1 => ifs (r_1 = true) (some (injRs [RT.own (24 : Go.TypeId) ty24, RT.d Ty.bool] ([], true))) (some (injRs [RT.own (24 : Go.TypeId) ty24, RT.d Ty.bool] ([r.fst], true)))))))) (some (injRs [RT.own (24 : Go.TypeId) ty24, RT.d Ty.bool] ([], false))) := by kernel_rfl
noncomputable def td15_4 : List Item := (findT (code Tryd.f15) [] 4).getD []
noncomputable def l15_4 (x0 : Bool) (x1 : Int) (x2 : ByteArray) (x3 : ByteArray) (x4 : Int) (x5 : List ByteArray) (x6 : List ByteArray) (x7 : Int) (x8 : ByteArray) (x9 : ByteArray) (x10 : Int) (x11 : List ByteArray) (x12 : List ByteArray) (x13 : Int) (x14 : ByteArray) (x15 : ByteArray) (x16 : Int) (x17 : List ByteArray) (x18 : List ByteArray) : Option (List RV) := cutW W0 n15 td15_4 { fr := [((1 : Nat), F.a (A.c (C.pt (Pt.own (0 : Nat) (0 : Nat) (0 : Nat))))), ((2 : Nat), F.a (A.c (C.pt (Pt.own (1 : Nat) (0 : Nat) (0 : Nat))))), ((3 : Nat), F.a (A.c (C.pt (Pt.own (2 : Nat) (0 : Nat) (0 : Nat))))), ((4 : Nat), F.a (A.c (C.sc (Go.Value.bool x0))))], mem := [some (Row.box (24 : Nat) (some ty24) [C.sc (Go.Value.int Go.IntKind.i64 x1), C.sc (Go.Value.string x2), C.sc (Go.Value.string x3), C.sc (Go.Value.int Go.IntKind.i64 x4), C.sl Ty.str x5, C.sl Ty.str x6] false), some (Row.box (24 : Nat) (some ty24) [C.sc (Go.Value.int Go.IntKind.i64 x7), C.sc (Go.Value.string x8), C.sc (Go.Value.string x9), C.sc (Go.Value.int Go.IntKind.i64 x10), C.sl Ty.str x11, C.sl Ty.str x12] false), some (Row.box (24 : Nat) (some ty24) [C.sc (Go.Value.int Go.IntKind.i64 x13), C.sc (Go.Value.string x14), C.sc (Go.Value.string x15), C.sc (Go.Value.int Go.IntKind.i64 x16), C.sl Ty.str x17, C.sl Ty.str x18] false)], nx := (3 : Nat) }
theorem e15 : callG W0 (callW W0) (cutW W0) 15 [] = Option.bind (cR (nat_lit 18) [RT.d ty24, RT.d Ty.bool] [inj ty24 ((6 : Int), { data := #[(102 : UInt8)] }, { data := #[] }, (0 : Int), [{ data := #[(97 : UInt8)] }], [{ data := #[(98 : UInt8)] }]), inj ty24 ((6 : Int), { data := #[(102 : UInt8)] }, { data := #[] }, (0 : Int), [{ data := #[(98 : UInt8)] }], [{ data := #[(99 : UInt8)] }])]) fun r => l15_4 r.snd (6 : Int) { data := #[(102 : UInt8)] } { data := #[] } (0 : Int) [{ data := #[(97 : UInt8)] }] [{ data := #[(98 : UInt8)] }] (6 : Int) { data := #[(102 : UInt8)] } { data := #[] } (0 : Int) [{ data := #[(98 : UInt8)] }] [{ data := #[(99 : UInt8)] }] r.fst.fst r.fst.snd.fst r.fst.snd.snd.fst r.fst.snd.snd.snd.fst r.fst.snd.snd.snd.snd.fst r.fst.snd.snd.snd.snd.snd := by kernel_rfl
theorem q15_4 (x0 : Bool) (x1 : Int) (x2 : ByteArray) (x3 : ByteArray) (x4 : Int) (x5 : List ByteArray) (x6 : List ByteArray) (x7 : Int) (x8 : ByteArray) (x9 : ByteArray) (x10 : Int) (x11 : List ByteArray) (x12 : List ByteArray) (x13 : Int) (x14 : ByteArray) (x15 : ByteArray) (x16 : Int) (x17 : List ByteArray) (x18 : List ByteArray) : cutG W0 (callW W0) (cutW W0) n15 td15_4 { fr := [((1 : Nat), F.a (A.c (C.pt (Pt.own (0 : Nat) (0 : Nat) (0 : Nat))))), ((2 : Nat), F.a (A.c (C.pt (Pt.own (1 : Nat) (0 : Nat) (0 : Nat))))), ((3 : Nat), F.a (A.c (C.pt (Pt.own (2 : Nat) (0 : Nat) (0 : Nat))))), ((4 : Nat), F.a (A.c (C.sc (Go.Value.bool x0))))], mem := [some (Row.box (24 : Nat) (some ty24) [C.sc (Go.Value.int Go.IntKind.i64 x1), C.sc (Go.Value.string x2), C.sc (Go.Value.string x3), C.sc (Go.Value.int Go.IntKind.i64 x4), C.sl Ty.str x5, C.sl Ty.str x6] false), some (Row.box (24 : Nat) (some ty24) [C.sc (Go.Value.int Go.IntKind.i64 x7), C.sc (Go.Value.string x8), C.sc (Go.Value.string x9), C.sc (Go.Value.int Go.IntKind.i64 x10), C.sl Ty.str x11, C.sl Ty.str x12] false), some (Row.box (24 : Nat) (some ty24) [C.sc (Go.Value.int Go.IntKind.i64 x13), C.sc (Go.Value.string x14), C.sc (Go.Value.string x15), C.sc (Go.Value.int Go.IntKind.i64 x16), C.sl Ty.str x17, C.sl Ty.str x18] false)], nx := (3 : Nat) } = Option.bind (cR (nat_lit 64) [RT.d ty24] [inj ty24 (x1, x2, x3, x4, x5, x6)]) fun r => Option.bind (cR (nat_lit 22) [RT.own (24 : Go.TypeId) ty24] [inj (Ty.sl ty24) [((3 : Int), { data := #[(120 : UInt8)] }, { data := #[] }, (0 : Int), [], []), (x1, x2, x3, x4, x5, x6), r, ((4 : Int), { data := #[(120 : UInt8)] }, { data := #[] }, (0 : Int), [], [])]]) fun r => ifs (x0 = true) (Option.bind x17[Int.toNat (0 : Int)]? fun r_1 => ifs ((ByteArray.toList r_1 == ByteArray.toList { data := #[(97 : UInt8)] }) = true) (Option.bind x18[Int.toNat (0 : Int)]? fun r_2 => ifs ((ByteArray.toList r_2 == ByteArray.toList { data := #[(99 : UInt8)] }) = true) (ifs (((↑(List.length r) : Int) == (0 : Int)) = true) (Option.bind (cR (nat_lit 20) [RT.d Ty.bool] [inj ty24 (x1, x2, x3, x4, x5, x6), inj ty24 (x7, x8, x9, x10, x11, x12)]) fun r => some (injRs [RT.d Ty.bool] r)) (some (injRs [RT.d Ty.bool] false))) (some (injRs [RT.d Ty.bool] false))) (some (injRs [RT.d Ty.bool] false))) (some (injRs [RT.d Ty.bool] false)) := by kernel_rfl
theorem e4 (a0 : Int × ByteArray × ByteArray × Int × List ByteArray × List ByteArray) (a1 : Int × ByteArray × ByteArray × Int × List ByteArray × List ByteArray) : callG W0 (callW W0) (cutW W0) 4 [inj ty24 a0, inj ty24 a1] = Option.bind (cR (nat_lit 14) [RT.d Ty.bool] [inj (Ty.sl ty24) [a0, a1]]) fun r => ifs ((!r) = true) (Option.bind (cR (nat_lit 15) [RT.d Ty.bool] []) fun r => some (injRs [RT.d Ty.bool] r)) (Option.bind (cR (nat_lit 16) [RT.own (24 : Go.TypeId) ty24, RT.d Ty.bool] [inj ty24 a0, inj ty24 a1]) fun r => Option.bind (cR (nat_lit 17) [RT.own (24 : Go.TypeId) ty24, RT.d Ty.bool] [inj ty24 a0, inj ty24 a1]) fun r_1 => Option.bind (cR (nat_lit 18) [RT.d ty24, RT.d Ty.bool] [inj ty24 a0, inj ty24 a1]) fun r_2 => Option.bind (cR (nat_lit 19) [RT.d ty24, RT.d Ty.bool] [inj ty24 a0, inj ty24 a1]) fun r_3 => Option.bind (cR (nat_lit 15) [RT.d Ty.bool] []) fun r_4 => ifs (r_4 = true) (ifs ((r.snd == r_1.snd) = true) (Option.bind (cR (nat_lit 13) [RT.d Ty.bool] [inj (Ty.sl ty24) (List.take (List.length r.fst) r.fst), inj (Ty.sl ty24) (List.take (List.length r_1.fst) r_1.fst)]) fun r => ifs (r = true) (ifs ((r_2.snd == r_3.snd) = true) (Option.bind (cR (nat_lit 13) [RT.d Ty.bool] [inj (Ty.sl ty24) [r_2.fst], inj (Ty.sl ty24) [r_3.fst]]) fun r => ifs (r = true) (Option.bind (cR (nat_lit 20) [RT.d Ty.bool] [inj ty24 a0, inj ty24 a1]) fun r => Option.bind (cR (nat_lit 21) [RT.d Ty.bool] [inj ty24 a0, inj ty24 a1]) fun r_5 => some (injRs [RT.d Ty.bool] (r == r_5))) (some (injRs [RT.d Ty.bool] false))) (some (injRs [RT.d Ty.bool] false))) (some (injRs [RT.d Ty.bool] false))) (some (injRs [RT.d Ty.bool] false))) (some (injRs [RT.d Ty.bool] false))) := by kernel_rfl
noncomputable def td5_5 : List Item := (findT (code Tryd.f5) [] 5).getD []
noncomputable def l5_5 (x0 : List (Int × ByteArray × ByteArray × Int × List ByteArray × List ByteArray)) (x1 : Int) (x2 : List (Int × ByteArray × ByteArray × Int × List ByteArray × List ByteArray)) : Option (List RV) := cutW W0 n5 td5_5 { fr := [((0 : Nat), F.a (A.c (C.sl ty24 x0))), ((3 : Nat), F.a (A.c (C.ow (0 : Nat) (List.length x2)))), ((4 : Nat), F.a (A.c (C.sc (Go.Value.int Go.IntKind.i64 x1))))], mem := [some (Row.arr (24 : Nat) ty24 x2 false)], nx := (1 : Nat) }
noncomputable def td5_8 : List Item := (findT (code Tryd.f5) [] 8).getD []
noncomputable def l5_8 (x0 : List (Int × ByteArray × ByteArray × Int × List ByteArray × List ByteArray)) (x1 : Nat) (x2 : Int) (x3 : List (Int × ByteArray × ByteArray × Int × List ByteArray × List ByteArray)) (x4 : List (Int × ByteArray × ByteArray × Int × List ByteArray × List ByteArray)) : Option (List RV) := cutW W0 n5 td5_8 { fr := [((0 : Nat), F.a (A.c (C.sl ty24 x0))), ((3 : Nat), F.a (A.c (C.ow (0 : Nat) x1))), ((4 : Nat), F.a (A.c (C.sc (Go.Value.int Go.IntKind.i64 x2)))), ((5 : Nat), F.a (A.c (C.sl ty24 x3)))], mem := [some (Row.arr (24 : Nat) ty24 x4 false)], nx := (1 : Nat) }
noncomputable def l5_8v1 (x0 : List (Int × ByteArray × ByteArray × Int × List ByteArray × List ByteArray)) (x1 : Nat) (x2 : Int) (x3 : Nat) (x4 : List (Int × ByteArray × ByteArray × Int × List ByteArray × List ByteArray)) (x5 : List (Int × ByteArray × ByteArray × Int × List ByteArray × List ByteArray)) : Option (List RV) := cutW W0 n5 td5_8 { fr := [((0 : Nat), F.a (A.c (C.sl ty24 x0))), ((3 : Nat), F.a (A.c (C.ow (0 : Nat) x1))), ((4 : Nat), F.a (A.c (C.sc (Go.Value.int Go.IntKind.i64 x2)))), ((5 : Nat), F.a (A.c (C.ow (1 : Nat) x3)))], mem := [some (Row.arr (24 : Nat) ty24 x4 false), some (Row.arr (24 : Nat) ty24 x5 false)], nx := (2 : Nat) }
theorem e5 (a0 : List (Int × ByteArray × ByteArray × Int × List ByteArray × List ByteArray)) : callG W0 (callW W0) (cutW W0) 5 [inj (Ty.sl ty24) a0] = Option.bind (cR (nat_lit 14) [RT.d Ty.bool] [inj (Ty.sl ty24) a0]) fun r => ifs ((!r) = true) (Option.bind (cR (nat_lit 15) [RT.d Ty.bool] []) fun r => some (injRs [RT.d Ty.bool] r)) (l5_5 a0 (0 : Int) []) := by kernel_rfl
theorem q5_5 (x0 : List (Int × ByteArray × ByteArray × Int × List ByteArray × List ByteArray)) (x1 : Int) (x2 : List (Int × ByteArray × ByteArray × Int × List ByteArray × List ByteArray)) : cutG W0 (callW W0) (cutW W0) n5 td5_5 { fr := [((0 : Nat), F.a (A.c (C.sl ty24 x0))), ((3 : Nat), F.a (A.c (C.ow (0 : Nat) (List.length x2)))), ((4 : Nat), F.a (A.c (C.sc (Go.Value.int Go.IntKind.i64 x1))))], mem := [some (Row.arr (24 : Nat) ty24 x2 false)], nx := (1 : Nat) } = ifs (decide (x1 < (↑(List.length x0) : Int)) = true) (ifs ((0 : Int) ≤ Go.IntKind.wrap Go.IntKind.i64 (x1 + (1 : Int)) ∧ Go.IntKind.wrap Go.IntKind.i64 (x1 + (1 : Int)) ≤ (↑(List.length x0) : Int)) (ifs ((0 : Int) ≤ x1 ∧ x1 ≤ Go.IntKind.wrap Go.IntKind.i64 (x1 + (1 : Int))) (l5_8 x0 (List.length x2) x1 (List.drop (Int.toNat x1) (List.take (Int.toNat (Go.IntKind.wrap Go.IntKind.i64 (x1 + (1 : Int)))) x0)) x2) none) none) (Option.bind (cR (nat_lit 15) [RT.d Ty.bool] []) fun r => ifs (r = true) (Option.bind (cR (nat_lit 22) [RT.own (24 : Go.TypeId) ty24] [inj (Ty.sl ty24) x0]) fun r => Option.bind (cR (nat_lit 13) [RT.d Ty.bool] [inj (Ty.sl ty24) (List.take (List.length r) r), inj (Ty.sl ty24) (List.take (List.length x2) x2)]) fun r => some (injRs [RT.d Ty.bool] r)) (some (injRs [RT.d Ty.bool] false))) := by kernel_rfl
theorem q5_8 (x0 : List (Int × ByteArray × ByteArray × Int × List ByteArray × List ByteArray)) (x1 : Nat) (x2 : Int) (x3 : List (Int × ByteArray × ByteArray × Int × List ByteArray × List ByteArray)) (x4 : List (Int × ByteArray × ByteArray × Int × List ByteArray × List ByteArray)) : cutG W0 (callW W0) (cutW W0) n5 td5_8 { fr := [((0 : Nat), F.a (A.c (C.sl ty24 x0))), ((3 : Nat), F.a (A.c (C.ow (0 : Nat) x1))), ((4 : Nat), F.a (A.c (C.sc (Go.Value.int Go.IntKind.i64 x2)))), ((5 : Nat), F.a (A.c (C.sl ty24 x3)))], mem := [some (Row.arr (24 : Nat) ty24 x4 false)], nx := (1 : Nat) } = ifs (decide ((↑(List.length x3) : Int) > (0 : Int)) = true) (ifs (decide ((↑x1 : Int) > (0 : Int)) = true) (ifs ((0 : Int) ≤ Go.IntKind.wrap Go.IntKind.i64 ((↑x1 : Int) - (1 : Int)) ∧ Go.IntKind.wrap Go.IntKind.i64 ((↑x1 : Int) - (1 : Int)) < (↑x1 : Int)) (Option.bind x4[Int.toNat (Go.IntKind.wrap Go.IntKind.i64 ((↑x1 : Int) - (1 : Int)))]? fun r => Option.bind x3[Int.toNat (0 : Int)]? fun r_1 => Option.bind (cR (nat_lit 17) [RT.own (24 : Go.TypeId) ty24, RT.d Ty.bool] [inj ty24 r, inj ty24 r_1]) fun r => ifs ((!r.snd) = true) (ifs (((0 : Nat) + List.length (List.take x1 x4)) * nat_lit 96 ≤ (140737488355328 : Nat)) (ifs ((List.length ([] ++ List.take x1 x4) + List.length x3) * nat_lit 96 ≤ (140737488355328 : Nat)) (l5_5 x0 (Go.IntKind.wrap Go.IntKind.i64 (x2 + (1 : Int))) (List.take (List.length ([] ++ List.take x1 x4)) ([] ++ List.take x1 x4) ++ x3)) none) none) (ifs ((0 : Int) ≤ Go.IntKind.wrap Go.IntKind.i64 ((↑x1 : Int) - (1 : Int)) ∧ Go.IntKind.wrap Go.IntKind.i64 ((↑x1 : Int) - (1 : Int)) ≤ (↑x1 : Int)) (l5_8v1 x0 (Int.toNat (Go.IntKind.wrap Go.IntKind.i64 ((↑x1 : Int) - (1 : Int)))) x2 (List.length r.fst) x4 r.fst) none)) none) (ifs (((0 : Nat) + List.length (List.take x1 x4)) * nat_lit 96 ≤ (140737488355328 : Nat)) (ifs ((List.length ([] ++ List.take x1 x4) + List.length x3) * nat_lit 96 ≤ (140737488355328 : Nat)) (l5_5 x0 (Go.IntKind.wrap Go.IntKind.i64 (x2 + (1 : Int))) (List.take (List.length ([] ++ List.take x1 x4)) ([] ++ List.take x1 x4) ++ x3)) none) none)) (ifs (((0 : Nat) + List.length (List.take x1 x4)) * nat_lit 96 ≤ (140737488355328 : Nat)) (ifs ((List.length ([] ++ List.take x1 x4) + List.length x3) * nat_lit 96 ≤ (140737488355328 : Nat)) (l5_5 x0 (Go.IntKind.wrap Go.IntKind.i64 (x2 + (1 : Int))) (List.take (List.length ([] ++ List.take x1 x4)) ([] ++ List.take x1 x4) ++ x3)) none) none) := by kernel_rfl
theorem q5_8v1 (x0 : List (Int × ByteArray × ByteArray × Int × List ByteArray × List ByteArray)) (x1 : Nat) (x2 : Int) (x3 : Nat) (x4 : List (Int × ByteArray × ByteArray × Int × List ByteArray × List ByteArray)) (x5 : List (Int × ByteArray × ByteArray × Int × List ByteArray × List ByteArray)) : cutG W0 (callW W0) (cutW W0) n5 td5_8 { fr := [((0 : Nat), F.a (A.c (C.sl ty24 x0))), ((3 : Nat), F.a (A.c (C.ow (0 : Nat) x1))), ((4 : Nat), F.a (A.c (C.sc (Go.Value.int Go.IntKind.i64 x2)))), ((5 : Nat), F.a (A.c (C.ow (1 : Nat) x3)))], mem := [some (Row.arr (24 : Nat) ty24 x4 false), some (Row.arr (24 : Nat) ty24 x5 false)], nx := (2 : Nat) } = ifs (decide ((↑x3 : Int) > (0 : Int)) = true) (ifs (decide ((↑x1 : Int) > (0 : Int)) = true) (ifs ((0 : Int) ≤ Go.IntKind.wrap Go.IntKind.i64 ((↑x1 : Int) - (1 : Int)) ∧ Go.IntKind.wrap Go.IntKind.i64 ((↑x1 : Int) - (1 : Int)) < (↑x1 : Int)) (Option.bind x4[Int.toNat (Go.IntKind.wrap Go.IntKind.i64 ((↑x1 : Int) - (1 : Int)))]? fun r => ifs ((0 : Int) ≤ (0 : Int) ∧ (0 : Int) < (↑x3 : Int)) (Option.bind x5[Int.toNat (0 : Int)]? fun r_1 => Option.bind (cR (nat_lit 17) [RT.own (24 : Go.TypeId) ty24, RT.d Ty.bool] [inj ty24 r, inj ty24 r_1]) fun r => ifs ((!r.snd) = true) (ifs (((0 : Nat) + List.length (List.take x1 x4)) * nat_lit 96 ≤ (140737488355328 : Nat)) (ifs ((List.length ([] ++ List.take x1 x4) + List.length (List.take x3 x5)) * nat_lit 96 ≤ (140737488355328 : Nat)) (l5_5 x0 (Go.IntKind.wrap Go.IntKind.i64 (x2 + (1 : Int))) (List.take (List.length ([] ++ List.take x1 x4)) ([] ++ List.take x1 x4) ++ List.take x3 x5)) none) none) (ifs ((0 : Int) ≤ Go.IntKind.wrap Go.IntKind.i64 ((↑x1 : Int) - (1 : Int)) ∧ Go.IntKind.wrap Go.IntKind.i64 ((↑x1 : Int) - (1 : Int)) ≤ (↑x1 : Int)) (l5_8v1 x0 (Int.toNat (Go.IntKind.wrap Go.IntKind.i64 ((↑x1 : Int) - (1 : Int)))) x2 (List.length r.fst) x4 r.fst) none)) none) none) (ifs (((0 : Nat) + List.length (List.take x1 x4)) * nat_lit 96 ≤ (140737488355328 : Nat)) (ifs ((List.length ([] ++ List.take x1 x4) + List.length (List.take x3 x5)) * nat_lit 96 ≤ (140737488355328 : Nat)) (l5_5 x0 (Go.IntKind.wrap Go.IntKind.i64 (x2 + (1 : Int))) (List.take (List.length ([] ++ List.take x1 x4)) ([] ++ List.take x1 x4) ++ List.take x3 x5)) none) none)) (ifs (((0 : Nat) + List.length (List.take x1 x4)) * nat_lit 96 ≤ (140737488355328 : Nat)) (ifs ((List.length ([] ++ List.take x1 x4) + List.length (List.take x3 x5)) * nat_lit 96 ≤ (140737488355328 : Nat)) (l5_5 x0 (Go.IntKind.wrap Go.IntKind.i64 (x2 + (1 : Int))) (List.take (List.length ([] ++ List.take x1 x4)) ([] ++ List.take x1 x4) ++ List.take x3 x5)) none) none) := by kernel_rfl
end Go.Proofs.YtokecnkjgoghhaaDoor.Tb
end
section
/- What some functions of the program and of the references come to, in plain words: which lists are light, the same. Conditions: lengths as they stand in each statement. -/
set_option linter.unusedVariables false
set_option linter.unusedSimpArgs false
namespace Go.Proofs.YtokecnkjgoghhaaDoor.Sp
open Go Go.Proofs.YtokecnkjgoghhaaDoor.Ab Go.Proofs.YtokecnkjgoghhaaDoor.Tb

abbrev Txt := ByteArray
abbrev Prm := Int × Txt × Txt × Int × List Txt × List Txt
instance prmDec1 : DecidableEq (Txt × Int × List Txt × List Txt) := inferInstance
instance prmDec : DecidableEq Prm := inferInstance
abbrev top : Nat := 9223372036854775807
def fits (n : Int) : Prop := -9223372036854775808 ≤ n ∧ n ≤ 9223372036854775807

theorem wr (n : Int) (h : -9223372036854775808 ≤ n ∧ n ≤ 9223372036854775807) : IntKind.i64.wrap n = n := IntWalk.i64_in n h
theorem wrS {i k : Nat} (h : i < k) (hk : k ≤ top) : IntKind.i64.wrap ((i : Int) + 1) = ((i + 1 : Nat) : Int) := by
  rw [wr _ ⟨by omega, by simp only [top] at hk; omega⟩]; omega
theorem ifs_pos {α : Type} {c : Prop} [Decidable c] {a b : α} (h : c) : ifs c a b = a := by simp [ifs, h]
theorem ifs_neg {α : Type} {c : Prop} [Decidable c] {a b : α} (h : ¬ c) : ifs c a b = b := by simp [ifs, h]
theorem bytes_eq {s t : Txt} : s.toList = t.toList ↔ s = t := by
  constructor
  · intro h
    have e : ∀ x : Txt, x.toList = x.data.toList := fun x => ByteArray.toList_eq x
    rw [e, e] at h
    cases s; cases t
    simp only [ByteArray.mk.injEq]
    exact Array.toList_inj.1 h
  · rintro rfl; rfl
theorem bat {s t : Txt} : (s.toList == t.toList) = decide (s = t) := by
  rw [Bool.eq_iff_iff, beq_iff_eq, decide_eq_true_eq, bytes_eq]

/-- A loop over a list's places: 'i' to its end. -/
theorem upTo {k : Nat} {C : Nat → Prop} (h : ∀ i, i < k → C (i + 1) → C i) (h0 : C k) : ∀ i, i ≤ k → C i := by
  intro i hi
  obtain ⟨d, rfl⟩ : ∃ d, k = i + d := ⟨k - i, by omega⟩
  clear hi
  induction d generalizing i with
  | zero => exact h0
  | succ d ih =>
    refine h i (by omega) (ih (i + 1) (fun j hj => ?_) ?_)
    · exact h j (by omega)
    · rw [show i + 1 + d = i + (d + 1) by omega]; exact h0

/-! ### rafterlaw03.Light -/
def light3 (l : List Txt) : Bool := l.all (fun s => decide (s.size ≤ 300)) && decide (l.length ≤ 60)
theorem light3_loop (l : List Txt) (hl : l.length ≤ top) : ∀ i : Nat, i ≤ l.length → l33_2 l i = some (injRs [RT.d .bool] ((l.drop i).all (fun s => decide (s.size ≤ 300)) && decide (l.length ≤ 60))) := by
  refine upTo (fun i hi ih => ?_) ?_
  · refine cutG_step ((q33_2 l i).trans ?_)
    rw [ifs_pos (by simpa using hi), ifs_pos (by omega), Int.toNat_natCast, List.getElem?_eq_getElem hi, Option.bind_some, wrS hi hl, ih, List.drop_eq_getElem_cons hi, List.all_cons]
    by_cases h : l[i].size ≤ 300
    · rw [ifs_neg (by simp; omega)]; simp [h]
    · rw [ifs_pos (by simp; omega)]; simp [h]
  · refine cutG_step ((q33_2 l l.length).trans ?_)
    rw [ifs_neg (by simp)]
    exact congrArg (fun b => some (injRs [RT.d .bool] b)) (by rw [List.drop_length, List.all_nil, Bool.true_and, decide_eq_decide]; omega)
theorem light3_ok (l : List Txt) (hl : l.length ≤ top) : cR 33 [RT.d .bool] [inj (.sl .str) l] = some (light3 l) :=
  callT_of ((e33 l).trans (by rw [show (0 : Int) = ((0 : Nat) : Int) from rfl, light3_loop l hl 0 (Nat.zero_le _)]; rfl))


/-! ### Lists of texts that are the same -/
theorem drop_eq {α : Type} {a b : List α} {i : Nat} (ha : i < a.length) (hb : i < b.length) : a.drop i = b.drop i ↔ a[i] = b[i] ∧ a.drop (i + 1) = b.drop (i + 1) := by
  rw [List.drop_eq_getElem_cons ha, List.drop_eq_getElem_cons hb, List.cons.injEq]
theorem same1_loop (a b : List Txt) (ha : a.length ≤ top) (hab : a.length = b.length) : ∀ i : Nat, i ≤ a.length → l42_4 a b i = some (injRs [RT.d .bool] (decide (a.drop i = b.drop i))) := by
  refine upTo (fun i hi ih => ?_) ?_
  · refine cutG_step ((q42_4 a b i).trans ?_)
    have hb : i < b.length := by omega
    rw [ifs_pos (by simpa using hi), ifs_pos (by omega), Int.toNat_natCast, List.getElem?_eq_getElem hi, Option.bind_some, ifs_pos (by omega), List.getElem?_eq_getElem hb, Option.bind_some, wrS hi ha, ih, bat]
    by_cases h : a[i] = b[i]
    · rw [ifs_neg (by simp [h])]; simp only [drop_eq hi hb, h, true_and]
    · rw [ifs_pos (by simp [h])]; simp only [drop_eq hi hb, h, false_and, decide_false]
  · refine cutG_step ((q42_4 a b a.length).trans ?_)
    rw [ifs_neg (by simp)]
    simp [hab]
theorem same1_ok (a b : List Txt) (ha : a.length ≤ top) : cR 42 [RT.d .bool] [inj (.sl .str) a, inj (.sl .str) b] = some (decide (a = b)) := by
  refine callT_of ((e42 a b).trans ?_)
  by_cases h : a.length = b.length
  · rw [ifs_neg (by simp [h]), show (0 : Int) = ((0 : Nat) : Int) from rfl, same1_loop a b ha h 0 (Nat.zero_le _)]; rfl
  · rw [ifs_pos (by simp; omega), decide_eq_false (fun e => h (by rw [e]))]
theorem slEq_loop (a b : List Txt) (ha : a.length ≤ top) (hab : a.length = b.length) : ∀ i : Nat, i ≤ a.length → l115_4 a b a.length i = some (injRs [RT.d .bool] (decide (a.drop i = b.drop i))) := by
  refine upTo (fun i hi ih => ?_) ?_
  · refine cutG_step ((q115_4 a b a.length i).trans ?_)
    have hb : i < b.length := by omega
    rw [ifs_pos (by simpa using hi), ifs_pos (by omega), Int.toNat_natCast, List.getElem?_eq_getElem hi, Option.bind_some, ifs_pos (by omega), List.getElem?_eq_getElem hb, Option.bind_some, wrS hi ha, ih, bat]
    by_cases h : a[i] = b[i]
    · rw [ifs_neg (by simp [h])]; simp only [drop_eq hi hb, h, true_and]
    · rw [ifs_pos (by simp [h])]; simp only [drop_eq hi hb, h, false_and, decide_false]
  · refine cutG_step ((q115_4 a b a.length a.length).trans ?_)
    rw [ifs_neg (by simp)]
    simp [hab]
theorem slEq_ok (a b : List Txt) (ha : a.length ≤ top) : cR 115 [RT.d .bool] [inj (.sl .str) a, inj (.sl .str) b] = some (decide (a = b)) := by
  refine callT_of ((e115 a b).trans ?_)
  by_cases h : a.length = b.length
  · rw [ifs_neg (by simp [h]), show (0 : Int) = ((0 : Nat) : Int) from rfl, slEq_loop a b ha h 0 (Nat.zero_le _)]; rfl
  · rw [ifs_pos (by simp; omega), decide_eq_false (fun e => h (by rw [e]))]
theorem lsame_ok (a b : List Txt) (ha : a.length ≤ top) : cR 66 [RT.d .bool] [inj (.sl .str) a, inj (.sl .str) b] = some (decide (a = b)) :=
  callT_of ((e66 a b).trans (by rw [slEq_ok a b ha]; rfl))

/-! ### Steps: which are light, which are the same -/
/-- What every argument is: its lists are lists of the machine's. -/
def POk (p : Prm) : Prop := p.2.2.2.2.1.length ≤ top ∧ p.2.2.2.2.2.length ≤ top
def lightP (p : Prm) : Bool := decide (p.2.1.size ≤ 300) && decide (p.2.2.1.size ≤ 300) && light3 p.2.2.2.2.1 && light3 p.2.2.2.2.2
def light7 (l : List Prm) : Bool := l.all lightP && decide (l.length ≤ 40)
theorem light7_loop (l : List Prm) (hl : l.length ≤ top) (hp : ∀ p ∈ l, POk p) : ∀ i : Nat, i ≤ l.length → l10_2 l i = some (injRs [RT.d .bool] ((l.drop i).all lightP && decide (l.length ≤ 40))) := by
  refine upTo (fun i hi ih => ?_) ?_
  · refine cutG_step ((q10_2 l i).trans ?_)
    obtain ⟨h1, h2⟩ := hp l[i] (List.getElem_mem hi)
    simp only [Int.toNat_natCast, List.getElem?_eq_getElem hi, Option.bind_some, light3_ok _ h1, light3_ok _ h2, wrS hi hl, ih, List.drop_eq_getElem_cons hi, List.all_cons]
    rw [ifs_pos (by simpa using hi), ifs_pos (by omega)]
    have h0 : (0 : Int) ≤ i := by omega
    simp only [ifs, h0, if_true]
    by_cases c1 : (l[i]).2.1.size ≤ 300
    · by_cases c2 : (l[i]).2.2.1.size ≤ 300
      · have d1 : ¬ 300 < ((l[i]).2.1.size : Int) := by omega
        have d2 : ¬ 300 < ((l[i]).2.2.1.size : Int) := by omega
        cases c3 : light3 (l[i]).2.2.2.2.1 <;> cases c4 : light3 (l[i]).2.2.2.2.2 <;> simp [lightP, c1, c2, c3, c4, d1, d2]
      · have d1 : ¬ 300 < ((l[i]).2.1.size : Int) := by omega
        have d2 : 300 < ((l[i]).2.2.1.size : Int) := by omega
        simp [lightP, c1, c2, d1, d2]
    · have d1 : 300 < ((l[i]).2.1.size : Int) := by omega
      simp [lightP, c1, d1]
  · refine cutG_step ((q10_2 l l.length).trans ?_)
    rw [ifs_neg (by simp)]
    exact congrArg (fun b => some (injRs [RT.d .bool] b)) (by rw [List.drop_length, List.all_nil, Bool.true_and, decide_eq_decide]; omega)
theorem light7_ok (l : List Prm) (hl : l.length ≤ top) (hp : ∀ p ∈ l, POk p) : cR 10 [RT.d .bool] [inj (.sl ty24) l] = some (light7 l) :=
  callT_of ((e10 l).trans (by rw [show (0 : Int) = ((0 : Nat) : Int) from rfl, light7_loop l hl hp 0 (Nat.zero_le _)]; rfl))

def light9 (l : List Prm) : Bool := l.all (fun p => decide (p.2.2.2.1 ≤ 1099511627776)) && light7 l
theorem light9_loop (l : List Prm) (hl : l.length ≤ top) (hp : ∀ p ∈ l, POk p) : ∀ i : Nat, i ≤ l.length → l14_2 l i = some (injRs [RT.d .bool] ((l.drop i).all (fun p => decide (p.2.2.2.1 ≤ 1099511627776)) && light7 l)) := by
  refine upTo (fun i hi ih => ?_) ?_
  · refine cutG_step ((q14_2 l i).trans ?_)
    simp only [Int.toNat_natCast, List.getElem?_eq_getElem hi, Option.bind_some, wrS hi hl, ih, List.drop_eq_getElem_cons hi, List.all_cons]
    rw [ifs_pos (by simpa using hi), ifs_pos (by omega)]
    by_cases c1 : (l[i]).2.2.2.1 ≤ 1099511627776
    · rw [ifs_neg (by simp; omega)]; simp [c1]
    · rw [ifs_pos (by simp; omega)]; simp [c1]
  · refine cutG_step ((q14_2 l l.length).trans ?_)
    rw [ifs_neg (by simp), light7_ok l hl hp]
    simp
theorem light9_ok (l : List Prm) (hl : l.length ≤ top) (hp : ∀ p ∈ l, POk p) : cR 14 [RT.d .bool] [inj (.sl ty24) l] = some (light9 l) :=
  callT_of ((e14 l).trans (by rw [show (0 : Int) = ((0 : Nat) : Int) from rfl, light9_loop l hl hp 0 (Nat.zero_le _)]; rfl))

theorem prm_eq {p q : Prm} : p = q ↔ p.1 = q.1 ∧ p.2.1 = q.2.1 ∧ p.2.2.1 = q.2.2.1 ∧ p.2.2.2.1 = q.2.2.2.1 ∧ p.2.2.2.2.1 = q.2.2.2.2.1 ∧ p.2.2.2.2.2 = q.2.2.2.2.2 := by
  obtain ⟨a, b, c, d, e, f⟩ := p
  obtain ⟨a', b', c', d', e', f'⟩ := q
  simp only [Prod.mk.injEq]
theorem same7_loop (a b : List Prm) (ha : a.length ≤ top) (hab : a.length = b.length) (hp : ∀ p ∈ a, POk p) : ∀ i : Nat, i ≤ a.length → l13_4 a b i = some (injRs [RT.d .bool] (decide (a.drop i = b.drop i))) := by
  refine upTo (fun i hi ih => ?_) ?_
  · refine cutG_step ((q13_4 a b i).trans ?_)
    have hb : i < b.length := by omega
    obtain ⟨h1, h2⟩ := hp a[i] (List.getElem_mem hi)
    simp only [Int.toNat_natCast, List.getElem?_eq_getElem hi, List.getElem?_eq_getElem hb, Option.bind_some, same1_ok _ _ h1, same1_ok _ _ h2, wrS hi ha, ih, bat, drop_eq hi hb, prm_eq]
    have h0 : (0 : Int) ≤ i := by omega
    rw [ifs_pos (by simpa using hi)]
    simp only [ifs, h0, if_true]
    by_cases c1 : (a[i]).1 = (b[i]).1
    · by_cases c2 : (a[i]).2.1 = (b[i]).2.1
      · by_cases c3 : (a[i]).2.2.1 = (b[i]).2.2.1
        · by_cases c4 : (a[i]).2.2.2.1 = (b[i]).2.2.2.1
          · by_cases c5 : (a[i]).2.2.2.2.1 = (b[i]).2.2.2.2.1
            · by_cases c6 : (a[i]).2.2.2.2.2 = (b[i]).2.2.2.2.2
              · simp [c1, c2, c3, c4, c5, c6]
              · simp [c1, c2, c3, c4, c5, c6]
            · simp [c1, c2, c3, c4, c5]
          · simp [c1, c2, c3, c4]
        · simp [c1, c2, c3]
      · simp [c1, c2]
    · simp [c1]
  · refine cutG_step ((q13_4 a b a.length).trans ?_)
    rw [ifs_neg (by simp)]
    simp [hab]
theorem same7_ok (a b : List Prm) (ha : a.length ≤ top) (hp : ∀ p ∈ a, POk p) : cR 13 [RT.d .bool] [inj (.sl ty24) a, inj (.sl ty24) b] = some (decide (a = b)) := by
  refine callT_of ((e13 a b).trans ?_)
  by_cases h : a.length = b.length
  · rw [ifs_neg (by simp [h]), show (0 : Int) = ((0 : Nat) : Int) from rfl, same7_loop a b ha h hp 0 (Nat.zero_le _)]; rfl
  · rw [ifs_pos (by simp; omega), decide_eq_false (fun e => h (by rw [e]))]
theorem psame_ok (a b : Prm) (hp : POk a) : cR 114 [RT.d .bool] [inj ty24 a, inj ty24 b] = some (decide (a = b)) := by
  refine callT_of ((e114 a b).trans ?_)
  simp only [lsame_ok _ _ hp.1, lsame_ok _ _ hp.2, Option.bind_some, bat, prm_eq]
  simp only [ifs]
  by_cases c1 : a.1 = b.1
  · by_cases c2 : a.2.1 = b.2.1
    · by_cases c3 : a.2.2.1 = b.2.2.1
      · by_cases c4 : a.2.2.2.1 = b.2.2.2.1
        · by_cases c5 : a.2.2.2.2.1 = b.2.2.2.2.1
          · simp [c1, c2, c3, c4, c5]
          · simp [c1, c2, c3, c4, c5]
        · simp [c1, c2, c3, c4]
      · simp [c1, c2, c3]
    · simp [c1, c2]
  · simp [c1]

end Go.Proofs.YtokecnkjgoghhaaDoor.Sp
end
section
/- What some functions of the program and of the references come to, in plain words: names, lines, paths, which steps may be. Conditions: lengths as they stand in each statement. -/
set_option linter.unusedVariables false
set_option linter.unusedSimpArgs false
namespace Go.Proofs.YtokecnkjgoghhaaDoor.Sp
open Go Go.Proofs.YtokecnkjgoghhaaDoor.Ab Go.Proofs.YtokecnkjgoghhaaDoor.Tb Go.Proofs.YtokecnkjgoghhaaDoor.EText

/-! ### What the library's functions hand back -/
theorem nright_ok (s : Txt) (hs : s.size ≤ top) : cR 131 [RT.d .bool] [inj .str s] = some (rightB s) :=
  callT_of (by show (if s.size ≤ 9223372036854775807 then some [RV.d (inj .bool (rightB s))] else none) = _; rw [if_pos hs]; rfl)
theorem lright_ok (s : Txt) (hs : s.size ≤ top) : cR 157 [RT.d .bool] [inj .str s] = some (lineB s) :=
  callT_of (by show (if s.size ≤ 9223372036854775807 then some [RV.d (inj .bool (lineB s))] else none) = _; rw [if_pos hs]; rfl)
theorem split_ok (s t : Txt) (hs : s.size < 4294967281) (ht : 1 ≤ t.size) : cR 129 [RT.own 9 .str] [inj .str s, inj .str t] = some (splitL s t) :=
  callT_of (by show (if s.size < 4294967281 ∧ 1 ≤ t.size then some [RV.own 9 .str (splitL s t)] else none) = _; rw [if_pos ⟨hs, ht⟩]; rfl)
theorem clone_ok (l : List Txt) (hl : l.length * 16 ≤ 140737488355328) : cR 113 [RT.own 9 .str] [inj (.sl .str) l] = some l :=
  callT_of (by show (if l.length * 16 ≤ 140737488355328 then some [RV.own 9 .str l] else none) = _; rw [if_pos hl]; rfl)
theorem decodeGo_tail (s : Txt) (pos : Nat) (h : pos < s.size) : Lib.decodeGo (s.extract pos s.size) = Utf8.decode s pos := by
  unfold Lib.decodeGo
  rw [if_neg (by rw [Lib.tail_size]; omega), Lib.tail_decode, Nat.add_zero]
theorem decode_ok (s : Txt) : cR 177 [RT.d (.int .i32), RT.d (.int .i64)] [inj .str s] = some (((Lib.decodeGo s).1 : Int), ((Lib.decodeGo s).2 : Int)) :=
  callT_of rfl

/-! ### Names: rafterref02.Right -/
theorem letter_loop (c : Nat) (s : Txt) (hs : s.size ≤ top) : ∀ i : Nat, i ≤ s.size → l179_3 c s i = some (injRs [RT.d .bool] ((s.data.toList.drop i).any fun b => decide (b.toNat = c))) := by
  have hlen : s.data.toList.length = s.size := (Lib.size_eq s).symm
  refine upTo (fun i hi ih => ?_) ?_
  · refine cutG_step ((q179_3 c s i).trans ?_)
    have hi' : i < s.data.toList.length := by omega
    rw [ifs_pos (by simpa using hi), ifs_pos (by omega), Int.toNat_natCast, show s[i]? = some s[i] from Go.ByteArray.getElem?_lt' s i hi, Option.bind_some, wrS hi hs, ih, List.drop_eq_getElem_cons hi', List.any_cons]
    have e : s.data.toList[i] = s[i] := rfl
    rw [e]
    by_cases h : s[i].toNat = c
    · rw [ifs_pos (by simp [h])]; simp [h]
    · rw [ifs_neg (by simp; omega)]; simp [h]
  · refine cutG_step ((q179_3 c s s.size).trans ?_)
    rw [ifs_neg (by simp), List.drop_of_length_le (by omega)]
    rfl
def letters : Txt := { data := #[97, 98, 99, 100, 101, 102, 103, 104, 105, 106, 107, 108, 109, 110, 111, 112, 113, 114, 115, 116, 117, 118, 119, 120, 121, 122, 48, 49, 50, 51, 52, 53, 54, 55, 56, 57, 46, 95, 45] }
theorem letter_all : ∀ c, c ∈ List.range 256 → (letters.data.toList.any fun b => decide (b.toNat = c)) = okRune c := by decide +kernel
theorem letter_ok (b : UInt8) : cR 179 [RT.d .bool] [inj (.int .u8) (b.toNat : Int)] = some (okRune b.toNat) := by
  refine callT_of ((e179 b.toNat).trans ?_)
  rw [← letter_all b.toNat (by rw [List.mem_range]; exact b.toNat_lt)]
  exact (letter_loop b.toNat letters (by decide) 0 (Nat.zero_le _))

/-- Are all bytes from pos on such as stand in names? -/
def okB (s : Txt) (pos : Nat) : Bool := (s.data.toList.drop pos).all fun c => okRune c.toNat
theorem data_len (s : Txt) : s.data.toList.length = s.size := (Lib.size_eq s).symm
theorem okB_step (s : Txt) (pos : Nat) (h : pos < s.size) : okB s pos = (okRune (s[pos]'h).toNat && okB s (pos + 1)) := by
  unfold okB
  have h' : pos < s.data.toList.length := by rw [data_len]; exact h
  rw [List.drop_eq_getElem_cons h', List.all_cons]
  rfl
theorem okB_end (s : Txt) (pos : Nat) (h : s.size ≤ pos) : okB s pos = true := by
  unfold okB
  rw [List.drop_of_length_le (by rw [data_len]; exact h)]
  rfl
theorem okRune_high (r : Nat) (h : 128 ≤ r) : okRune r = false := by
  unfold okRune
  simp
  omega
theorem idx_ok (s : Txt) : ∀ (f pos : Nat), s.size - pos ≤ f → decide (Lib.idxFuncFrom (fun r => !okRune r) true s f pos < 0) = okB s pos
  | 0, pos, h => by
    rw [okB_end s pos (by omega)]
    rfl
  | f + 1, pos, h => by
    unfold Lib.idxFuncFrom
    by_cases hp : pos < s.size
    · rw [if_pos hp, okB_step s pos hp]
      by_cases ha : (s[pos]'hp).toNat < 128
      · rw [decode_ascii s pos hp ha]
        by_cases ho : okRune (s[pos]'hp).toNat = true
        · rw [if_neg (by simp [ho])]
          rw [idx_ok s f (pos + 1) (by omega), ho]
          rfl
        · rw [if_pos (by simp [ho])]
          simp [ho]
      · have hd := decode_high s pos hp (by omega)
        rw [if_pos (by simp [okRune_high _ hd.1]), okRune_high _ (by omega)]
        simp
    · rw [if_neg hp, okB_end s pos (by omega)]
      rfl
theorem nil_size (s : Txt) : s.toList = [] ↔ s.size = 0 := by
  rw [ByteArray.toList_eq, ← data_len]
  exact List.eq_nil_iff_length_eq_zero
theorem right_eq (s : Txt) : rightB s = (okB s 0 && decide (1 ≤ s.size) && decide (s.size ≤ 40) && !(s.toList == [46]) && !(s.toList == [46, 46])) := by
  unfold rightB
  rw [show Lib.idxFunc (fun r => !okRune r) true s = Lib.idxFuncFrom (fun r => !okRune r) true s s.size 0 from rfl, idx_ok s s.size 0 (by omega)]
  have hs := nil_size s
  by_cases h1 : s.size = 0
  · rw [hs.2 h1]; simp [h1]
  · have h2 : ¬ s.toList = [] := fun h => h1 (hs.1 h)
    rw [beq_eq_false_iff_ne.2 h2, decide_eq_true (show 1 ≤ s.size by omega)]
    cases okB s 0 <;> simp [Bool.and_comm, Bool.and_assoc]
theorem right2_loop (s : Txt) (hs : s.size ≤ top) : ∀ i : Nat, i ≤ s.size → l147_2 s i = some (injRs [RT.d .bool] (okB s i && decide (1 ≤ s.size) && decide (s.size ≤ 40) && !(s.toList == [46]) && !(s.toList == [46, 46]))) := by
  refine upTo (fun i hi ih => ?_) ?_
  · refine cutG_step ((q147_2 s i).trans ?_)
    rw [ifs_pos (by simpa using hi), ifs_pos (by omega), Int.toNat_natCast, show s[i]? = some s[i] from Go.ByteArray.getElem?_lt' s i hi, Option.bind_some, letter_ok, Option.bind_some, wrS hi hs, ih, okB_step s i hi]
    cases okRune s[i].toNat <;> rfl
  · refine cutG_step ((q147_2 s s.size).trans ?_)
    rw [ifs_neg (by simp), okB_end s _ (Nat.le_refl _)]
    have e1 : ByteArray.toList { data := #[(46 : UInt8)] } = [46] := by decide +kernel
    have e2 : ByteArray.toList { data := #[(46 : UInt8), (46 : UInt8)] } = [46, 46] := by decide +kernel
    rw [e1, e2]
    simp only [ifs]
    by_cases h1 : 1 ≤ s.size
    · have h1' : (1 : Int) ≤ s.size := by omega
      by_cases h2 : s.size ≤ 40
      · have h2' : (s.size : Int) ≤ 40 := by omega
        cases h3 : s.toList == [46] <;> simp [h1, h2, h1', h2', h3]
      · have h2' : ¬ (s.size : Int) ≤ 40 := by omega
        simp [h1, h2, h1', h2']
    · have h1' : ¬ (1 : Int) ≤ s.size := by omega
      simp [h1, h1']
theorem right2_ok (s : Txt) (hs : s.size ≤ top) : cR 147 [RT.d .bool] [inj .str s] = some (rightB s) :=
  callT_of ((e147 s).trans (by rw [show (0 : Int) = ((0 : Nat) : Int) from rfl, right2_loop s hs 0 (Nat.zero_le _), right_eq]))

/-! ### Lines -/
theorem okFrom_fuel (s : Txt) : ∀ (f g pos : Nat), s.size - pos ≤ f → s.size - pos ≤ g → okFrom s f pos = okFrom s g pos
  | 0, g, pos, hf, hg => by rw [okFrom_end s 0 pos (by omega), okFrom_end s g pos (by omega)]
  | f + 1, 0, pos, hf, hg => by rw [okFrom_end s _ pos (by omega), okFrom_end s _ pos (by omega)]
  | f + 1, g + 1, pos, hf, hg => by
    unfold okFrom
    split
    · split
      · rfl
      · have := Lib.width_pos s pos
        exact okFrom_fuel s f g _ (by omega) (by omega)
    · rfl
theorem right3_loop (s : Txt) (hs : s.size ≤ 1000) : ∀ (d pos : Nat), pos ≤ s.size → s.size - pos ≤ d → l144_4 s pos = some (injRs [RT.d .bool] (Lib.validD (s.data.toList.drop pos) && okFrom s (s.size - pos) pos))
  | d, pos, hp, hd => by
    refine cutG_step ((q144_4 s pos).trans ?_)
    by_cases h : pos < s.size
    · obtain ⟨d, rfl⟩ : ∃ e, d = e + 1 := ⟨d - 1, by omega⟩
      rw [ifs_pos (by simpa using h), ifs_pos (by omega), ifs_pos (by omega), Int.toNat_natCast, Int.toNat_natCast, decode_ok, Option.bind_some, decodeGo_tail s pos h]
      have hne : s.data.toList.drop pos ≠ [] := fun e => by have := congrArg List.length e; rw [List.length_drop, data_len] at this; simp at this; omega
      have hD : Lib.decodeL (s.data.toList.drop pos) = Utf8.decode s pos := Lib.decodeL_drop s pos
      have hw := Lib.width_pos s pos
      have hle := Lib.decodeL_le _ hne
      rw [hD, List.length_drop, data_len] at hle
      rw [Lib.validD_step _ hne, hD, List.drop_drop]
      have ih := fun hK => right3_loop s hs d (pos + (Utf8.decode s pos).2) hK (by omega)
      have hf : okFrom s (s.size - pos) pos = if (Utf8.decode s pos).1 < 32 ∧ (Utf8.decode s pos).1 ≠ 9 then false else okFrom s (s.size - (pos + (Utf8.decode s pos).2)) (pos + (Utf8.decode s pos).2) := by
        obtain ⟨g, hg⟩ : ∃ g, s.size - pos = g + 1 := ⟨s.size - pos - 1, by omega⟩
        rw [hg, okFrom, if_pos h]
        split
        · rfl
        · exact okFrom_fuel s _ _ _ (by omega) (by omega)
      rw [hf]
      have ih := ih (by omega)
      have hwr : IntKind.i64.wrap ((pos : Int) + ((Utf8.decode s pos).2 : Int)) = ((pos + (Utf8.decode s pos).2 : Nat) : Int) := by rw [wr _ ⟨by omega, by omega⟩]; omega
      simp only [hwr, ih, ifs]
      generalize Utf8.decode s pos = D at *
      obtain ⟨R, K⟩ := D
      simp only
      by_cases c1 : R = 65533
      · have c1' : (R : Int) = 65533 := by omega
        by_cases c2 : K = 1
        · have c2' : (K : Int) = 1 := by omega
          simp [c1, c2]
        · have c2' : ¬ (K : Int) = 1 := by omega
          have c3 : ¬ (65533 : Int) < 32 := by omega
          simp [c1, c2]
          exact fun e => absurd e c2'
      · have c1' : ¬ (R : Int) = 65533 := by omega
        by_cases c3 : R < 32
        · have c3' : (R : Int) < 32 := by omega
          by_cases c4 : R = 9
          · simp [c4]
          · have c4' : ¬ (R : Int) = 9 := by omega
            simp [c1, c1', c3, c3', c4, c4']
        · have c3' : ¬ (R : Int) < 32 := by omega
          simp [c1, c1', c3, c3']
    · have : pos = s.size := by omega
      subst this
      rw [ifs_neg (by simp), List.drop_of_length_le (by rw [data_len]; omega), okFrom_end s _ _ (by omega)]
      rfl
theorem right3_ok (s : Txt) (hs : s.size ≤ top) : cR 144 [RT.d .bool] [inj .str s] = some (lineB s) := by
  refine callT_of ((e144 s).trans ?_)
  unfold lineB
  by_cases h : s.size ≤ 200
  · rw [ifs_neg (by simp; omega), show (0 : Int) = ((0 : Nat) : Int) from rfl, right3_loop s (by omega) s.size 0 (by omega) (by omega)]
    simp [h]
  · rw [ifs_pos (by simp; omega)]
    simp [h]

theorem lchk1_ok (s : Txt) (hs : s.size ≤ top) : cR 156 [RT.d .bool] [inj .str s] = some (!lineB s) :=
  callT_of ((e156 s).trans (by rw [lright_ok s hs]; rfl))
theorem prt1_ok (s : Txt) (hs : s.size ≤ top) : cR 130 [RT.d .bool] [inj .str s] = some (!rightB s) :=
  callT_of ((e130 s).trans (by rw [nright_ok s hs]; rfl))

/-- What every list of texts is. -/
def LOk (l : List Txt) : Prop := l.length ≤ top ∧ ∀ s ∈ l, s.size ≤ top

theorem ixfA_loop (l : List Txt) (hl : LOk l) : ∀ i : Nat, i ≤ l.length → ∃ r : Int, l155a_2 l l.length i = some (injRs [RT.d (.int .i64)] r) ∧ decide (r ≥ 0) = (l.drop i).any (fun s => !lineB s) := by
  refine upTo (fun i hi ih => ?_) ?_
  · obtain ⟨r, hr, he⟩ := ih
    rw [List.drop_eq_getElem_cons hi, List.any_cons]
    cases h : lineB l[i] with
    | true =>
      refine ⟨r, cutG_step ((q155a_2 l l.length i).trans ?_), by rw [he]; simp⟩
      rw [ifs_pos (by simpa using hi), ifs_pos (by omega), Int.toNat_natCast, List.getElem?_eq_getElem hi, Option.bind_some, lchk1_ok _ (hl.2 _ (List.getElem_mem hi)), Option.bind_some, h, ifs_neg (by simp), wrS hi hl.1, hr]
    | false =>
      refine ⟨i, cutG_step ((q155a_2 l l.length i).trans ?_), by simp⟩
      rw [ifs_pos (by simpa using hi), ifs_pos (by omega), Int.toNat_natCast, List.getElem?_eq_getElem hi, Option.bind_some, lchk1_ok _ (hl.2 _ (List.getElem_mem hi)), Option.bind_some, h, ifs_pos (by simp)]
  · refine ⟨-1, cutG_step ((q155a_2 l l.length l.length).trans ?_), by simp⟩
    rw [ifs_neg (by simp)]
theorem cofA_ok (l : List Txt) (hl : LOk l) : cR 109 [RT.d .bool] [inj (.sl .str) l, A.c (C.cl 156 [])] = some (l.any fun s => !lineB s) := by
  obtain ⟨r, hr, he⟩ := ixfA_loop l hl 0 (Nat.zero_le _)
  refine callT_of ((e109a l).trans ?_)
  have hx : cR 155 [RT.d (.int .i64)] [inj (.sl .str) l, A.c (C.cl 156 [])] = some r := callT_of ((e155a l).trans hr)
  rw [hx, Option.bind_some, he, List.drop_zero]
theorem ixfB_loop (l : List Txt) (hl : LOk l) : ∀ i : Nat, i ≤ l.length → ∃ r : Int, l155b_2 l l.length i = some (injRs [RT.d (.int .i64)] r) ∧ decide (r ≥ 0) = (l.drop i).any (fun s => !rightB s) := by
  refine upTo (fun i hi ih => ?_) ?_
  · obtain ⟨r, hr, he⟩ := ih
    rw [List.drop_eq_getElem_cons hi, List.any_cons]
    cases h : rightB l[i] with
    | true =>
      refine ⟨r, cutG_step ((q155b_2 l l.length i).trans ?_), by rw [he]; simp⟩
      rw [ifs_pos (by simpa using hi), ifs_pos (by omega), Int.toNat_natCast, List.getElem?_eq_getElem hi, Option.bind_some, prt1_ok _ (hl.2 _ (List.getElem_mem hi)), Option.bind_some, h, ifs_neg (by simp), wrS hi hl.1, hr]
    | false =>
      refine ⟨i, cutG_step ((q155b_2 l l.length i).trans ?_), by simp⟩
      rw [ifs_pos (by simpa using hi), ifs_pos (by omega), Int.toNat_natCast, List.getElem?_eq_getElem hi, Option.bind_some, prt1_ok _ (hl.2 _ (List.getElem_mem hi)), Option.bind_some, h, ifs_pos (by simp)]
  · refine ⟨-1, cutG_step ((q155b_2 l l.length l.length).trans ?_), by simp⟩
    rw [ifs_neg (by simp)]
theorem cofB_ok (l : List Txt) (hl : LOk l) : cR 109 [RT.d .bool] [inj (.sl .str) l, A.c (C.cl 130 [])] = some (l.any fun s => !rightB s) := by
  obtain ⟨r, hr, he⟩ := ixfB_loop l hl 0 (Nat.zero_le _)
  refine callT_of ((e109b l).trans ?_)
  have hx : cR 155 [RT.d (.int .i64)] [inj (.sl .str) l, A.c (C.cl 130 [])] = some r := callT_of ((e155b l).trans hr)
  rw [hx, Option.bind_some, he, List.drop_zero]

/-- Which lines may be a file's. -/
def checkL (l : List Txt) : Int := if l.length > 2000 then 4 else if l.all lineB then 0 else 6
theorem any_not {α : Type} (l : List α) (p : α → Bool) : (l.any fun x => !p x) = !l.all p := by
  induction l with
  | nil => rfl
  | cons a l ih => simp only [List.any_cons, List.all_cons, ih, Bool.not_and]
theorem lcheck_ok (l : List Txt) (hl : LOk l) : cR 111 [RT.d (.int .i64)] [inj (.sl .str) l] = some (checkL l) := by
  refine callT_of ((e111 l).trans ?_)
  unfold checkL
  by_cases h : l.length > 2000
  · rw [ifs_pos (by simp; omega), if_pos h]
  · rw [ifs_neg (by simp; omega), if_neg h, cofA_ok l hl, Option.bind_some, any_not]
    cases l.all lineB <;> rfl
theorem check3_loop (l : List Txt) (hl : LOk l) : ∀ i : Nat, i ≤ l.length → l94_4 l i = some (injRs [RT.d (.int .i64)] (if (l.drop i).all lineB then 0 else 6)) := by
  refine upTo (fun i hi ih => ?_) ?_
  · refine cutG_step ((q94_4 l i).trans ?_)
    rw [ifs_pos (by simpa using hi), ifs_pos (by omega), Int.toNat_natCast, List.getElem?_eq_getElem hi, Option.bind_some, right3_ok _ (hl.2 _ (List.getElem_mem hi)), Option.bind_some, wrS hi hl.1, ih, List.drop_eq_getElem_cons hi, List.all_cons]
    cases lineB l[i] <;> rfl
  · refine cutG_step ((q94_4 l l.length).trans ?_)
    rw [ifs_neg (by simp), List.drop_length]
    rfl
theorem check3_ok (l : List Txt) (hl : LOk l) : cR 94 [RT.d (.int .i64)] [inj (.sl .str) l] = some (checkL l) := by
  refine callT_of ((e94 l).trans ?_)
  unfold checkL
  by_cases h : l.length > 2000
  · rw [ifs_pos (by simp; omega), if_pos h]
  · rw [ifs_neg (by simp; omega), if_neg h]
    exact check3_loop l hl 0 (Nat.zero_le _)

end Go.Proofs.YtokecnkjgoghhaaDoor.Sp
end
section
/- What some functions of the program and of the references come to, in plain words: paths, and which steps may be. Conditions: lengths as they stand in each statement. -/
set_option linter.unusedVariables false
set_option linter.unusedSimpArgs false
namespace Go.Proofs.YtokecnkjgoghhaaDoor.Sp
open Go Go.Proofs.YtokecnkjgoghhaaDoor.Ab Go.Proofs.YtokecnkjgoghhaaDoor.Tb Go.Proofs.YtokecnkjgoghhaaDoor.EText

/-! ### A text cut at its slashes -/
abbrev slash : Txt := { data := #[47] }
theorem ext_of {x y : Txt} (h : x.data.toList = y.data.toList) : x = y := by
  obtain ⟨⟨a⟩⟩ := x
  obtain ⟨⟨b⟩⟩ := y
  simpa using h
theorem ex_data (s : Txt) (a b : Nat) : (s.extract a b).data.toList = (s.data.toList.drop a).take (b - a) := Lib.extract_data s a b
theorem tail_data (s : Txt) (a : Nat) : (s.extract a s.size).data.toList = s.data.toList.drop a := Lib.extract_to_end s a
theorem ex_size (s : Txt) (a b : Nat) : (s.extract a b).size ≤ s.size := by
  rw [Lib.size_eq, ex_data, Lib.size_eq, List.length_take, List.length_drop]; omega
theorem ex_all (s : Txt) : s.extract 0 s.size = s := ext_of (by rw [tail_data, List.drop_zero])
theorem ix_tail (s : Txt) (a : Nat) : Lib.indexB (s.extract a s.size) slash = Lib.indexByte (s.data.toList.drop a) 47 := by
  show Lib.index (s.extract a s.size).data.toList [47] = _
  rw [tail_data, Lib.index_one]
theorem ix_none (l : List UInt8) (c : UInt8) (h : ∀ k : Nat, l[k]? ≠ some c) : Lib.indexByte l c = -1 := by
  have hg := Lib.indexByte_ge l c
  by_cases h1 : Lib.indexByte l c = -1
  · exact h1
  · obtain ⟨j, hj⟩ : ∃ j : Nat, Lib.indexByte l c = j := ⟨(Lib.indexByte l c).toNat, by omega⟩
    exact absurd (Lib.indexByte_some hj).1 (h j)
theorem ix_some (l : List UInt8) (c : UInt8) (o : Nat) (ho : l[o]? = some c) (h : ∀ k : Nat, k < o → l[k]? ≠ some c) : Lib.indexByte l c = o := by
  have hg := Lib.indexByte_ge l c
  by_cases h1 : Lib.indexByte l c = -1
  · exact absurd ho (Lib.indexByte_none h1 o)
  · obtain ⟨j, hj⟩ : ∃ j : Nat, Lib.indexByte l c = j := ⟨(Lib.indexByte l c).toNat, by omega⟩
    obtain ⟨h2, h3⟩ := Lib.indexByte_some hj
    rw [hj]
    by_cases h4 : j < o
    · exact absurd h2 (h j h4)
    · by_cases h5 : o < j
      · exact absurd ho (h3 o h5)
      · omega
theorem segs_miss (s : Txt) (a : Nat) (h : ∀ k : Nat, a ≤ k → s.data.toList[k]? ≠ some 47) : splitL (s.extract a s.size) slash = [s.extract a s.size] := by
  have hi : Lib.indexB (s.extract a s.size) slash = -1 := by
    rw [ix_tail]
    exact ix_none _ _ (fun k => by rw [List.getElem?_drop]; exact h _ (by omega))
  unfold splitL
  exact Lib.splitB_miss _ _ _ _ hi
theorem segs_hit (s : Txt) (a i : Nat) (ha : a ≤ i) (hi : i < s.size) (hs : s.data.toList[i]? = some 47) (h : ∀ k : Nat, a ≤ k → k < i → s.data.toList[k]? ≠ some 47) :
    splitL (s.extract a s.size) slash = s.extract a i :: splitL (s.extract (i + 1) s.size) slash := by
  have hx : Lib.indexB (s.extract a s.size) slash = ((i - a : Nat) : Int) := by
    rw [ix_tail]
    exact ix_some _ _ _ (by rw [List.getElem?_drop, show a + (i - a) = i by omega]; exact hs) (fun k hk => by rw [List.getElem?_drop]; exact h _ (by omega) (by omega))
  have e1 : (s.extract a s.size).extract 0 (i - a + 0) = s.extract a i := ext_of (by
    rw [ex_data, tail_data, ex_data, List.drop_zero]; congr 1)
  have e2 : (s.extract a s.size).extract (i - a + slash.size) (s.extract a s.size).size = s.extract (i + 1) s.size := ext_of (by
    rw [tail_data, tail_data, tail_data, List.drop_drop]
    congr 1
    show a + (i - a + 1) = i + 1
    omega)
  unfold splitL
  rw [Lib.countB_hit _ _ _ (by decide) hx, Nat.add_comm 1, Lib.splitB_hit _ _ _ _ _ hx, e1, e2]
theorem splitB_sizes (t : Txt) : ∀ (k : Nat) (s x : Txt), x ∈ Lib.splitB t 0 k s → x.size ≤ s.size
  | 0, s, x, h => by rw [Lib.splitB_zero, List.mem_singleton] at h; rw [h]; exact Nat.le_refl _
  | k + 1, s, x, h => by
    unfold Lib.splitB at h
    split at h
    · rw [List.mem_singleton] at h; rw [h]; exact Nat.le_refl _
    · rcases List.mem_cons.1 h with h | h
      · rw [h]; exact ex_size _ _ _
      · exact Nat.le_trans (splitB_sizes t k _ x h) (ex_size _ _ _)
theorem segs_len (s : Txt) : (splitL s slash).length = Lib.countB s slash + 1 := Lib.splitB_all slash (by decide) 0 _ s rfl
theorem segs_ok (s : Txt) (hs : s.size ≤ 100000) : LOk (splitL s slash) := by
  refine ⟨?_, fun x hx => ?_⟩
  · rw [segs_len]
    have := Lib.count_le s.data.toList slash.data.toList
    rw [← Lib.size_eq] at this
    simp only [top]
    show Lib.count _ _ + 1 ≤ _
    omega
  · have := splitB_sizes slash _ s x hx
    simp only [top]; omega

/-! ### Paths -/
def rightP (p : Txt) : Bool := decide (p.size ≤ 200) && (decide ((splitL p slash).length ≤ 16) && (splitL p slash).all rightB)
theorem pright_ok (p : Txt) (hp : p.size ≤ 100000) : cR 82 [RT.d .bool] [inj .str p] = some (rightP p) := by
  refine callT_of ((e82 p).trans ?_)
  rw [split_ok p _ (by omega) (by decide), Option.bind_some, List.take_length, cofB_ok _ (segs_ok p hp), Option.bind_some, any_not]
  unfold rightP
  simp only [ifs]
  by_cases h1 : p.size ≤ 200
  · have h1' : (p.size : Int) ≤ 200 := by omega
    by_cases h2 : (splitL p slash).length ≤ 16
    · have h2' : ((splitL p slash).length : Int) ≤ 16 := by omega
      simp [h1, h2, h1', h2']
    · have h2' : ¬ ((splitL p slash).length : Int) ≤ 16 := by omega
      simp [h1, h2, h1', h2']
  · have h1' : ¬ (p.size : Int) ≤ 200 := by omega
    simp [h1, h1']

def names (p : Txt) : List Txt := if rightP p then splitL p slash else []
theorem names_end (p : Txt) (hp : p.size ≤ 200) (out : List Txt) (x : Int) : l98_6 p x ((p.size : Int) + 1) out = some (injRs [RT.own 9 .str] (if out.length > 16 then [] else out)) := by
  refine cutG_step ((q98_6 p x ((p.size : Int) + 1) out).trans ?_)
  rw [ifs_neg (by simp; omega), List.take_length]
  by_cases h : out.length > 16
  · rw [ifs_pos (by simp; omega), if_pos h]
  · rw [ifs_neg (by simp; omega), if_neg h]
theorem names_loop (p : Txt) (hp : p.size ≤ 200) : ∀ (d a i : Nat) (out : List Txt), i ≤ p.size → p.size - i ≤ d → a ≤ i → out.length ≤ i → (∀ k : Nat, a ≤ k → k < i → p.data.toList[k]? ≠ some 47) →
    l98_6 p a i out = some (injRs [RT.own 9 .str] (if (splitL (p.extract a p.size) slash).all rightB then (if (out ++ splitL (p.extract a p.size) slash).length > 16 then [] else out ++ splitL (p.extract a p.size) slash) else []))
  | d, a, i, out, hi, hd, ha, hout, hno => by
    refine cutG_step ((q98_6 p a i out).trans ?_)
    have c0 : (0 : Int) ≤ i := by omega
    have c1 : (i : Int) ≤ (p.size : Int) := by omega
    have c2 : (0 : Int) ≤ (a : Int) ∧ (a : Int) ≤ (i : Int) := by omega
    have hsz : (p.extract a i).size ≤ top := Nat.le_trans (ex_size _ _ _) (by simp only [top]; omega)
    have hlen : (out.length + 1) * 16 ≤ 140737488355328 := by omega
    have hw : IntKind.i64.wrap ((i : Int) + 1) = (i : Int) + 1 := wr _ ⟨by omega, by omega⟩
    simp only [Int.toNat_natCast, right2_ok _ hsz, Option.bind_some, List.take_length, hw]
    by_cases h : i < p.size
    · have h' : (i : Int) < (p.size : Int) := by omega
      have hg : p.data.toList[i]? = some p[i] := Lib.data_getElem? p i h
      obtain ⟨d, rfl⟩ : ∃ e, d = e + 1 := ⟨d - 1, by omega⟩
      simp only [ifs, h', c0, c1, c2, hlen, decide_true, and_self, if_true, show p[i]? = some p[i] from Go.ByteArray.getElem?_lt' p i h, Option.bind_some]
      by_cases hs : p[i] = 47
      · have hs' : (p[i].toNat : Int) = 47 := by rw [hs]; rfl
        rw [segs_hit p a i ha h (by rw [hg, hs]) hno, List.all_cons]
        have ih := names_loop p hp d (i + 1) (i + 1) (out ++ [p.extract a i]) (by omega) (by omega) (Nat.le_refl _) (by simp; omega) (fun k h1 h2 => by omega)
        rw [show ((i + 1 : Nat) : Int) = (i : Int) + 1 by omega] at ih
        simp only [hs', bne_self_eq_false, Bool.false_eq_true, if_false]
        cases hr : rightB (p.extract a i) with
        | true =>
          simp only [Bool.not_true, Bool.false_eq_true, if_false, ih, List.append_assoc, List.cons_append, List.nil_append, Bool.true_and]
        | false => rfl
      · have hs' : ((p[i].toNat : Int) != 47) = true := by
          rw [bne_iff_ne]
          intro e
          exact hs (UInt8.toNat_inj.1 (by have : p[i].toNat = 47 := by omega
                                          rw [this]; rfl))
        simp only [hs', if_true]
        have ih := names_loop p hp d a (i + 1) out (by omega) (by omega) (by omega) (by omega) (fun k h1 h2 => by
          by_cases e : k = i
          · subst e; rw [hg]; exact fun e => hs (Option.some.inj e)
          · exact hno k h1 (by omega))
        rw [show ((i + 1 : Nat) : Int) = (i : Int) + 1 by omega] at ih
        exact ih
    · have hi' : i = p.size := by omega
      subst hi'
      have hmiss := segs_miss p a (fun k hk => by
        by_cases e : k < p.size
        · exact hno k hk e
        · rw [List.getElem?_eq_none (by rw [data_len]; omega)]; exact fun e => by cases e)
      rw [hmiss]
      have h' : ¬ (p.size : Int) < (p.size : Int) := by omega
      simp only [ifs, h', c0, c1, c2, hlen, decide_true, decide_false, and_self, if_true, Bool.false_eq_true, if_false, names_end p hp, Int.le_refl]
      cases hr : rightB (p.extract a p.size) with
      | true => simp [hr]
      | false => simp [hr]
theorem names5_ok (p : Txt) : cR 98 [RT.own 9 .str] [inj .str p] = some (names p) := by
  refine callT_of ((e98 p).trans ?_)
  unfold names rightP
  by_cases h : p.size ≤ 200
  · rw [ifs_neg (by simp; omega)]
    have := names_loop p h p.size 0 0 [] (Nat.zero_le _) (by omega) (Nat.le_refl _) (Nat.zero_le _) (fun k h1 h2 => by omega)
    refine this.trans ?_
    rw [ex_all, List.nil_append]
    by_cases h2 : (splitL p slash).length ≤ 16
    · rw [if_neg (show ¬ (splitL p slash).length > 16 by omega)]
      simp [h, h2]
    · rw [if_pos (show (splitL p slash).length > 16 by omega)]
      simp [h, h2]
  · rw [ifs_pos (by simp; omega)]
    simp [h]
theorem names_len (p : Txt) : decide ((names p).length > 0) = rightP p := by
  unfold names
  cases h : rightP p with
  | true => rw [if_pos rfl, segs_len]; simp
  | false => rfl
theorem right5_ok (p : Txt) : cR 79 [RT.d .bool] [inj .str p] = some (rightP p) := by
  refine callT_of ((e79 p).trans ?_)
  rw [names5_ok, Option.bind_some, ← names_len]
  exact congrArg (fun b => some (injRs [RT.d .bool] b)) (by rw [decide_eq_decide]; omega)

end Go.Proofs.YtokecnkjgoghhaaDoor.Sp
end
section
/- What some functions of the program and of the references come to, in plain words: which steps may be, what takes them back, lists put together. Conditions: lengths as they stand in each statement. -/
set_option linter.unusedVariables false
set_option linter.unusedSimpArgs false
namespace Go.Proofs.YtokecnkjgoghhaaDoor.Sp
open Go Go.Proofs.YtokecnkjgoghhaaDoor.Ab Go.Proofs.YtokecnkjgoghhaaDoor.Tb Go.Proofs.YtokecnkjgoghhaaDoor.EText

/-- A list of texts that is not far too great. -/
def LM (l : List Txt) : Prop := l.length ≤ 1000000 ∧ ∀ s ∈ l, s.size ≤ 100000
theorem LM.ok {l : List Txt} (h : LM l) : LOk l := ⟨Nat.le_trans h.1 (by decide), fun s hs => Nat.le_trans (h.2 s hs) (by decide)⟩
/-- A step that is not far too great. -/
structure Md (p : Prm) : Prop where
  path : p.2.1.size ≤ 100000
  dst : p.2.2.1.size ≤ 100000
  old : LM p.2.2.2.2.1
  new : LM p.2.2.2.2.2
theorem Md.pok {p : Prm} (h : Md p) : POk p := ⟨h.old.ok.1, h.new.ok.1⟩

/-! ### prim.Check -/
abbrev zt : Txt := { data := #[] }
def chk (p : Prm) : Int :=
  if p.1 < 1 ∨ 6 < p.1 ∨ (p.1 ≠ 5 ∧ p.2.2.1 ≠ zt) ∨ (p.1 ≠ 6 ∧ (p.2.2.2.1 ≠ 0 ∨ p.2.2.2.2.1.length + p.2.2.2.2.2.length ≠ 0)) then 2
  else if rightP p.2.1 = false ∨ (p.1 = 5 ∧ (rightP p.2.2.1 = false ∨ p.2.1 = p.2.2.1)) then 8
  else if p.1 = 6 ∧ (p.2.2.2.1 < 0 ∨ p.2.2.2.2.1.length + p.2.2.2.2.2.length = 0 ∨ checkL p.2.2.2.2.1 ≠ 0 ∨ checkL p.2.2.2.2.2 ≠ 0) then 6
  else 0
theorem eqc {α : Type} {a b : α} : (a = b) = (b = a) := propext ⟨fun h => h.symm, fun h => h.symm⟩
theorem pcheck_ok (p : Prm) (h : Md p) : cR 61 [RT.d (.int .i64)] [inj ty24 p] = some (chk p) := by
  refine callT_of ((e61 p).trans ?_)
  have hw : IntKind.i64.wrap ((p.2.2.2.2.1.length : Int) + (p.2.2.2.2.2.length : Int)) = ((p.2.2.2.2.1.length + p.2.2.2.2.2.length : Nat) : Int) := by
    have := h.old.1; have := h.new.1
    rw [wr _ ⟨by omega, by omega⟩]; omega
  simp only [hw, pright_ok _ h.path, pright_ok _ h.dst, lcheck_ok _ h.old.ok, lcheck_ok _ h.new.ok, Option.bind_some, bat]
  unfold chk
  obtain ⟨k, a, b, n, o, w⟩ := p
  simp only
  generalize o.length + w.length = L
  generalize checkL o = co
  generalize checkL w = cw
  generalize rightP a = ra
  generalize rightP b = rb
  clear h hw
  simp only [ifs]
  by_cases k1 : k < 1
  · simp [k1]
    repeat' split
    all_goals rfl
  by_cases k6 : 6 < k
  · simp [k1, k6]
  by_cases k5 : k = 5
  · subst k5
    by_cases hn : n = 0
    · by_cases hL : L = 0
      · cases ra <;> cases rb <;> simp [hn, hL, eqc (a := a)] <;> (split <;> rfl)
      · have : ¬ (L : Int) = 0 := by omega
        simp [hn, hL, this]
    · simp [hn]
  by_cases ks : k = 6
  · subst ks
    by_cases hb : b = zt
    · by_cases hn0 : n < 0
      · by_cases hn : n = 0
        · omega
        · cases ra <;> simp [hn, hb, hn0]
      · by_cases hL : L = 0
        · have : (L : Int) = 0 := by omega
          by_cases hn : n = 0 <;> cases ra <;> simp [hn, hb, hn0, hL, this]
        · have : ¬ (L : Int) = 0 := by omega
          by_cases hn : n = 0 <;> cases ra <;> by_cases hc : co = 0 <;> by_cases hd : cw = 0 <;> simp [hn, hb, hn0, hL, this, hc, hd]
    · by_cases hn : n = 0 <;> simp [hb, hn]
  by_cases hb : b = zt
  · by_cases hn : n = 0
    · by_cases hL : L = 0
      · have : (L : Int) = 0 := by omega
        cases ra <;> simp [k1, k6, k5, ks, hb, hn, hL]
      · have : ¬ (L : Int) = 0 := by omega
        simp [k1, k6, k5, ks, hb, hn, hL, this]
    · simp [k1, k6, k5, ks, hb, hn]
  · by_cases hn : n = 0 <;> simp [k1, k6, k5, ks, hb, hn]
theorem check7_ok (p : Prm) (h : Md p) : cR 67 [RT.d (.int .i64)] [inj ty24 p] = some (chk p) := by
  refine callT_of ((e67 p).trans ?_)
  have hw : IntKind.i64.wrap ((p.2.2.2.2.1.length : Int) + (p.2.2.2.2.2.length : Int)) = ((p.2.2.2.2.1.length + p.2.2.2.2.2.length : Nat) : Int) := by
    have := h.old.1; have := h.new.1
    rw [wr _ ⟨by omega, by omega⟩]; omega
  simp only [hw, right5_ok, check3_ok _ h.old.ok, check3_ok _ h.new.ok, Option.bind_some, bat]
  unfold chk
  obtain ⟨k, a, b, n, o, w⟩ := p
  simp only
  generalize o.length + w.length = L
  generalize checkL o = co
  generalize checkL w = cw
  generalize rightP a = ra
  generalize rightP b = rb
  clear h hw
  simp only [ifs]
  by_cases k1 : k < 1
  · simp [k1]
  by_cases k6 : 6 < k
  · simp [k1, k6]
  by_cases k5 : k = 5
  · subst k5
    by_cases hn : n = 0
    · by_cases hL : L = 0
      · cases ra <;> cases rb <;> simp [hn, hL] <;> (split <;> rfl)
      · have : 0 < L := by omega
        simp [hn, hL, this]
    · simp [hn]
  by_cases ks : k = 6
  · subst ks
    by_cases hb : b = zt
    · by_cases hn0 : n < 0
      · cases ra <;> simp [hb, hn0]
      · by_cases hL : L = 0
        · cases ra <;> simp [hb, hn0, hL]
        · have : ¬ (L : Int) = 0 := by omega
          cases ra <;> by_cases hc : co = 0 <;> by_cases hd : cw = 0 <;> simp [hb, hn0, hL, this, hc, hd]
    · simp [hb]
  by_cases hb : b = zt
  · by_cases hn : n = 0
    · by_cases hL : L = 0
      · cases ra <;> simp [k1, k6, k5, ks, hb, hn, hL]
      · have : 0 < L := by omega
        simp [k1, k6, k5, ks, hb, hn, hL, this]
    · simp [k1, k6, k5, ks, hb, hn]
  · simp [k1, k6, k5, ks, hb]

/-! ### What takes a step back -/
def othI (k : Int) : Int := if k = 1 then 2 else if k = 2 then 1 else if k = 3 then 4 else if k = 4 then 3 else k
theorem oth1_ok (a b k : Int) : cR 158 [RT.d (.int .i64)] [inj (.int .i64) a, inj (.int .i64) b, A.c (C.pt (Pt.sh (.int .i64) k 0))] = some (if k = a then b else a) := by
  refine callT_of ((e158 a b k).trans ?_)
  by_cases h : k = a
  · rw [ifs_pos (by simp [h]), if_pos h]
  · rw [ifs_neg (by simp [h]), if_neg h]
theorem oth_ok (k : Int) : cR 112 [RT.d (.int .i64)] [inj (.int .i64) k] = some (othI k) := by
  refine callT_of ((e112 k).trans ?_)
  simp only [oth1_ok, Option.bind_some, ifs]
  unfold othI
  by_cases h1 : k = 1
  · simp [h1]
  by_cases h2 : k = 2
  · simp [h2]
  by_cases h3 : k = 3
  · simp [h3]
  by_cases h4 : k = 4
  · simp [h4]
  simp [h1, h2, h3, h4]
def invP (p : Prm) : Prm := (othI p.1, if p.1 = 5 then p.2.2.1 else p.2.1, if p.1 = 5 then p.2.1 else p.2.2.1, p.2.2.2.1, p.2.2.2.2.2, p.2.2.2.2.1)
theorem inv_ok (p : Prm) (h : Md p) : cR 64 [RT.d ty24] [inj ty24 p] = some (invP p) := by
  refine callT_of ((e64 p).trans ?_)
  have h1 := h.old.1; have h2 := h.new.1
  rw [oth_ok, Option.bind_some, clone_ok _ (by omega), Option.bind_some, clone_ok _ (by omega), Option.bind_some, List.take_length, List.take_length]
  unfold invP
  by_cases h5 : p.1 = 5
  · rw [ifs_pos (by simp [h5]), if_pos h5, if_pos h5]
  · rw [ifs_neg (by simp [h5]), if_neg h5, if_neg h5]
theorem inv7_ok (p : Prm) : cR 68 [RT.d ty24] [inj ty24 p] = some (invP p) := by
  refine callT_of ((e68 p).trans ?_)
  obtain ⟨k, r⟩ := p
  unfold invP othI
  by_cases h1 : k = 1
  · subst h1; rfl
  by_cases h2 : k = 2
  · subst h2; rfl
  by_cases h3 : k = 3
  · subst h3; rfl
  by_cases h4 : k = 4
  · subst h4; rfl
  by_cases h5 : k = 5
  · subst h5; rfl
  by_cases h6 : k = 6
  · subst h6; rfl
  simp only [if_neg h1, if_neg h2, if_neg h3, if_neg h4, if_neg h5]
  by_cases h7 : k ≥ 1
  · rw [ifs_pos (by simpa using h7), ifs_neg (by simp; omega), ifs_neg (by simp [h5])]
  · rw [ifs_neg (by simpa using h7), ifs_neg (by simp [h5])]
theorem othI_back (k : Int) : othI (othI k) = k := by
  unfold othI
  repeat' split
  all_goals omega
theorem invP_back (p : Prm) : invP (invP p) = p := by
  obtain ⟨k, a, b, n, o, w⟩ := p
  have h5 : othI k = 5 ↔ k = 5 := by
    unfold othI
    repeat' split
    all_goals omega
  simp only [invP, othI_back, Prod.mk.injEq, h5, true_and, and_true]
  by_cases h : k = 5 <;> simp [h]
theorem Md.inv {p : Prm} (h : Md p) : Md (invP p) := by
  refine ⟨?_, ?_, h.new, h.old⟩
  · unfold invP; simp only; split
    · exact h.dst
    · exact h.path
  · unfold invP; simp only; split
    · exact h.path
    · exact h.dst

/-! ### slices.Concat -/
theorem imin_eq (x y : Int) : imin x y = min x y := by unfold imin; split <;> omega
theorem imax_eq (x y : Int) : imax x y = max x y := by unfold imax; split <;> omega
theorem grow_ok (n : Nat) (h : n * 16 < 140737488355328) : cR 116 [RT.own 9 .str] [A.c C.nl, inj (.int .i64) (n : Int)] = some [] :=
  callT_of (by
    show (if (0 : Int) ≤ (n : Int) ∧ (n : Int).toNat * 16 < 140737488355328 then some [RV.own 9 .str []] else none) = _
    rw [if_pos ⟨by omega, by rw [Int.toNat_natCast]; exact h⟩]; rfl)
theorem conc2_loop (ls : List (List Txt)) (hl : ls.length ≤ top) : ∀ i : Nat, i ≤ ls.length → ∀ acc : List Txt, (acc ++ (ls.drop i).flatten).length * 16 ≤ 140737488355328 → l70_11 ls ls.length i acc = some (injRs [RT.own 9 .str] (acc ++ (ls.drop i).flatten)) := by
  refine upTo (fun i hi ih acc hs => ?_) (fun acc hs => ?_)
  · refine cutG_step ((q70_11 ls ls.length i acc).trans ?_)
    rw [List.drop_eq_getElem_cons hi, List.flatten_cons] at hs ⊢
    rw [ifs_pos (by simpa using hi), ifs_pos (by omega), Int.toNat_natCast, List.getElem?_eq_getElem hi, Option.bind_some, ifs_pos (by simp only [List.length_append] at hs; show (acc.length + ls[i].length) * 16 ≤ 140737488355328; omega), List.take_length, wrS hi hl, ih _ (by rw [List.append_assoc]; exact hs), List.append_assoc]
  · refine cutG_step ((q70_11 ls ls.length ls.length acc).trans ?_)
    rw [ifs_neg (by simp), List.take_length, List.drop_length, List.flatten_nil, List.append_nil]
theorem conc1_loop (ls : List (List Txt)) (hl : ls.length ≤ top) (hs : ls.flatten.length * 16 < 140737488355328) : ∀ i : Nat, i ≤ ls.length → ∀ n : Nat, n + ((ls.drop i).flatten).length = ls.flatten.length →
    l70_3 ls n ls ls.length i = some (injRs [RT.own 9 .str] ls.flatten) := by
  refine upTo (fun i hi ih n hn => ?_) (fun n hn => ?_)
  · refine cutG_step ((q70_3 ls n ls ls.length i).trans ?_)
    rw [List.drop_eq_getElem_cons hi, List.flatten_cons, List.length_append] at hn
    have hw : IntKind.i64.wrap ((n : Int) + (ls[i].length : Int)) = ((n + ls[i].length : Nat) : Int) := by rw [wr _ ⟨by omega, by omega⟩]; omega
    rw [ifs_pos (by simpa using hi), ifs_pos (by omega), Int.toNat_natCast, List.getElem?_eq_getElem hi, Option.bind_some, hw, ifs_neg (by simp; omega), wrS hi hl, ih _ (by omega)]
  · refine cutG_step ((q70_3 ls n ls ls.length ls.length).trans ?_)
    rw [List.drop_length, List.flatten_nil, List.length_nil, Nat.add_zero] at hn
    rw [ifs_neg (by simp), grow_ok n (by omega), Option.bind_some]
    have := conc2_loop ls hl 0 (Nat.zero_le _) [] (by rw [List.drop_zero, List.nil_append]; omega)
    rw [List.drop_zero, List.nil_append] at this
    exact this
theorem conc_ok (ls : List (List Txt)) (hl : ls.length ≤ top) (hs : ls.flatten.length * 16 < 140737488355328) : cR 70 [RT.own 9 .str] [inj (.sl (.sl .str)) ls] = some ls.flatten :=
  callT_of ((e70 ls).trans (conc1_loop ls hl hs 0 (Nat.zero_le _) 0 (by rw [List.drop_zero, Nat.zero_add])))

end Go.Proofs.YtokecnkjgoghhaaDoor.Sp
end
section
/- Lists of lines put together, place by place: plain Lean, no program. -/
set_option linter.unusedVariables false
set_option linter.unusedSimpArgs false
namespace Go.Proofs.YtokecnkjgoghhaaDoor.Sp
open Go

theorem tk {α : Type} {l : List α} {a b : Nat} (h : min a l.length = min b l.length) : l.take a = l.take b := List.take_eq_take_iff.2 h
theorem dr {α : Type} {l : List α} {a b : Nat} (h : min a l.length = min b l.length) : l.drop a = l.drop b := by
  by_cases h1 : a ≤ l.length
  · by_cases h2 : b ≤ l.length
    · rw [show a = b by omega]
    · rw [List.drop_of_length_le (show l.length ≤ b by omega), List.drop_of_length_le (by omega)]
  · rw [List.drop_of_length_le (show l.length ≤ a by omega), List.drop_of_length_le (by omega)]

/-- The lines of l, that stand from S on, but those from A to A + c; ahead of what stands at A: M. As far as i. -/
def G {α : Type} (l : List α) (S : Int) (M : List α) (A c i : Int) : List α :=
  l.take (min i A - S).toNat ++ (if A < i then M else []) ++ (l.take (i - S).toNat).drop (A + c - S).toNat

theorem take_step {α : Type} (l : List α) (k : Nat) : l.take (k + 1) = l.take k ++ (l[k]?).toList := List.take_add_one ..

theorem G_start {α : Type} (l : List α) (S : Int) (M : List α) (A c i : Int) (h1 : i ≤ A) (h2 : i ≤ S) : G l S M A c i = [] := by
  unfold G
  rw [show (min i A - S).toNat = 0 by omega, show (i - S).toNat = 0 by omega, if_neg (by omega)]
  simp
theorem G_end {α : Type} (l : List α) (S : Int) (M : List α) (A c i : Int) (h1 : A < i) (h2 : S + l.length ≤ i) : G l S M A c i = l.take (A - S).toNat ++ M ++ l.drop (A + c - S).toNat := by
  unfold G
  rw [show min i A = A by omega, if_pos h1, List.take_of_length_le (show l.length ≤ (i - S).toNat by omega)]
theorem third_step {α : Type} (l : List α) (S i : Int) (k : Nat) : (l.take (i + 1 - S).toNat).drop k = (l.take (i - S).toNat).drop k ++ (if S ≤ i ∧ k ≤ (i - S).toNat then (l[(i - S).toNat]?).toList else []) := by
  by_cases h : S ≤ i
  · rw [show (i + 1 - S).toNat = (i - S).toNat + 1 by omega, take_step]
    by_cases hk : k ≤ (i - S).toNat
    · rw [if_pos ⟨h, hk⟩]
      by_cases hl : k ≤ l.length
      · rw [List.drop_append_of_le_length (by rw [List.length_take]; omega)]
      · rw [List.getElem?_eq_none (by omega)]
        simp
    · rw [if_neg (fun x => hk x.2), List.append_nil]
      rw [List.drop_of_length_le (by
        rw [List.length_append, List.length_take]
        have : (l[(i - S).toNat]?).toList.length ≤ 1 := by cases l[(i - S).toNat]? <;> simp
        omega), List.drop_of_length_le (by rw [List.length_take]; omega)]
  · rw [if_neg (fun x => h x.1), List.append_nil, show (i + 1 - S).toNat = 0 by omega, show (i - S).toNat = 0 by omega]
theorem G_step {α : Type} (l : List α) (S : Int) (M : List α) (A c i : Int) (hc : 0 ≤ c) (h1 : 0 ≤ A + c - S) (h2 : A - S ≤ l.length) (hi : A ≤ i ∨ S ≤ i) :
    G l S M A c (i + 1) = G l S M A c i ++ (if i = A then M else []) ++ (if S ≤ i ∧ ¬ (A ≤ i ∧ i < A + c) then (l[(i - S).toNat]?).toList else []) := by
  unfold G
  rw [third_step]
  by_cases hA : i < A
  · have hS : S ≤ i := by omega
    have e3 : ∀ j : Int, j ≤ i → (l.take (j - S).toNat).drop (A + c - S).toNat = [] := fun j hj => List.drop_of_length_le (by rw [List.length_take]; omega)
    rw [e3 i (Int.le_refl _), if_neg (show ¬ A < i + 1 by omega), if_neg (show ¬ A < i by omega), if_neg (show ¬ i = A by omega), if_neg (show ¬ (S ≤ i ∧ (A + c - S).toNat ≤ (i - S).toNat) by omega), if_pos (show S ≤ i ∧ ¬ (A ≤ i ∧ i < A + c) by omega)]
    rw [show (min (i + 1) A - S).toNat = (i - S).toNat + 1 by omega, show (min i A - S).toNat = (i - S).toNat by omega, take_step]
    simp
  · rw [show min (i + 1) A = A by omega, show min i A = A by omega, if_pos (show A < i + 1 by omega)]
    by_cases he : i = A
    · subst he
      rw [if_neg (show ¬ i < i by omega), if_pos rfl, List.append_nil]
      rw [show (l.take (i - S).toNat).drop (i + c - S).toNat = [] from List.drop_of_length_le (by rw [List.length_take]; omega)]
      by_cases hS : S ≤ i
      · by_cases hc0 : c = 0
        · rw [if_pos (show S ≤ i ∧ (i + c - S).toNat ≤ (i - S).toNat by omega), if_pos (show S ≤ i ∧ ¬ (i ≤ i ∧ i < i + c) by omega)]
          simp
        · rw [if_neg (show ¬ (S ≤ i ∧ (i + c - S).toNat ≤ (i - S).toNat) by omega), if_neg (show ¬ (S ≤ i ∧ ¬ (i ≤ i ∧ i < i + c)) by omega)]
          simp
      · rw [if_neg (show ¬ (S ≤ i ∧ (i + c - S).toNat ≤ (i - S).toNat) by omega), if_neg (show ¬ (S ≤ i ∧ ¬ (i ≤ i ∧ i < i + c)) by omega)]
        simp
    · rw [if_pos (show A < i by omega), if_neg he, List.append_nil]
      by_cases hx : S ≤ i ∧ A + c ≤ i
      · rw [if_pos (show S ≤ i ∧ (A + c - S).toNat ≤ (i - S).toNat by omega), if_pos (show S ≤ i ∧ ¬ (A ≤ i ∧ i < A + c) by omega)]
        simp
      · rw [if_neg (show ¬ (S ≤ i ∧ (A + c - S).toNat ≤ (i - S).toNat) by omega), if_neg (show ¬ (S ≤ i ∧ ¬ (A ≤ i ∧ i < A + c)) by omega)]
        simp

/-- Two lists that stand over one another are the same where both are. -/
theorem over_eq {α : Type} (l m : List α) (P Q : Int) (h1 : Q ≤ P + m.length) (h2 : P ≤ Q + l.length) :
    (l.take (P + m.length - Q).toNat).drop (P - Q).toNat = (m.take (Q + l.length - P).toNat).drop (Q - P).toNat ↔
      ∀ j : Int, P ≤ j → Q ≤ j → j < P + m.length → j < Q + l.length → m[(j - P).toNat]? = l[(j - Q).toNat]? := by
  constructor
  · intro h j hP hQ h3 h4
    have := congrArg (fun x => x[(j - max P Q).toNat]?) h
    simp only [List.getElem?_drop, List.getElem?_take] at this
    rw [if_pos (by omega), if_pos (by omega), show (P - Q).toNat + (j - max P Q).toNat = (j - Q).toNat by omega, show (Q - P).toNat + (j - max P Q).toNat = (j - P).toNat by omega] at this
    exact this.symm
  · intro h
    apply List.ext_getElem?
    intro k
    simp only [List.getElem?_drop, List.getElem?_take]
    by_cases c1 : max P Q + k < P + m.length
    · rw [if_pos (by omega)]
      by_cases c2 : max P Q + k < Q + l.length
      · rw [if_pos (by omega)]
        have := h (max P Q + k) (by omega) (by omega) c1 c2
        rw [show (max P Q + (k : Int) - P).toNat = (Q - P).toNat + k by omega, show (max P Q + (k : Int) - Q).toNat = (P - Q).toNat + k by omega] at this
        exact this.symm
      · rw [if_neg (by omega), List.getElem?_eq_none (by omega)]
    · rw [if_neg (by omega)]
      by_cases c2 : max P Q + k < Q + l.length
      · rw [if_pos (by omega), List.getElem?_eq_none (by omega)]
      · rw [if_neg (by omega)]

end Go.Proofs.YtokecnkjgoghhaaDoor.Sp
end
section
/- What some functions of the program and of the references come to, in plain words: two hunks that touch, and what they become. Conditions: lengths and places as they stand in each statement. -/
set_option linter.unusedVariables false
set_option linter.unusedSimpArgs false
namespace Go.Proofs.YtokecnkjgoghhaaDoor.Sp
open Go Go.Proofs.YtokecnkjgoghhaaDoor.Ab Go.Proofs.YtokecnkjgoghhaaDoor.Tb Go.Proofs.YtokecnkjgoghhaaDoor.EText

theorem chk_kind {p : Prm} (h : chk p = 0) : 1 ≤ p.1 ∧ p.1 ≤ 6 := by
  unfold chk at h
  split at h
  · cases h
  · omega
theorem chk_hunk {p : Prm} (h : chk p = 0) (h6 : p.1 = 6) : 0 ≤ p.2.2.2.1 ∧ p.2.2.2.2.1.length + p.2.2.2.2.2.length ≠ 0 ∧ checkL p.2.2.2.2.1 = 0 ∧ checkL p.2.2.2.2.2 = 0 := by
  unfold chk at h
  split at h
  · cases h
  · split at h
    · cases h
    · split at h
      · cases h
      · rename_i h3
        simp only [h6, true_and, not_or, Decidable.not_not, Int.not_lt] at h3
        omega
theorem checkL_len {l : List Txt} (h : checkL l = 0) : l.length ≤ 2000 := by
  unfold checkL at h
  split at h
  · cases h
  · omega

/-! ### Do two hunks touch? -/
def touchP (p q : Prm) : Bool :=
  decide (p.1 = 6) && decide (q.1 = 6) && decide (p.2.1 = q.2.1) && decide (chk p = 0) && decide (chk q = 0) && decide (q.2.2.2.1 ≤ p.2.2.2.1 + p.2.2.2.2.2.length) && decide (p.2.2.2.1 ≤ q.2.2.2.1 + q.2.2.2.2.1.length)
theorem ftouch_ok (p q : Prm) (hp : Md p) (hq : Md q) (fp : fits p.2.2.2.1) (fq : fits q.2.2.2.1) : cR 20 [RT.d .bool] [inj ty24 p, inj ty24 q] = some (touchP p q) := by
  refine callT_of ((e20 p q).trans ?_)
  rw [pcheck_ok p hp, pcheck_ok q hq, Option.bind_some, Option.bind_some, bat]
  unfold touchP
  simp only [ifs]
  by_cases c1 : p.1 = 6
  · by_cases c2 : q.1 = 6
    · by_cases c3 : p.2.1 = q.2.1
      · by_cases c4 : chk p = 0
        · by_cases c5 : chk q = 0
          · have h1 := chk_hunk c4 c1
            have h2 := chk_hunk c5 c2
            have hn := hp.new.1; have ho := hq.old.1
            have f1 := fp.2; have f2 := fq.2
            rw [wr _ ⟨by omega, by omega⟩, wr _ ⟨by omega, by omega⟩]
            by_cases c6 : q.2.2.2.1 ≤ p.2.2.2.1 + p.2.2.2.2.2.length
            · have c6' : q.2.2.2.1 - p.2.2.2.2.2.length ≤ p.2.2.2.1 := by omega
              have e : decide (p.2.2.2.1 - (q.2.2.2.2.1.length : Int) ≤ q.2.2.2.1) = decide (p.2.2.2.1 ≤ q.2.2.2.1 + q.2.2.2.2.1.length) := by rw [decide_eq_decide]; omega
              simp [c1, c2, c3, c4, c5, c6, c6', e]
            · have c6' : ¬ q.2.2.2.1 - p.2.2.2.2.2.length ≤ p.2.2.2.1 := by omega
              simp [c1, c2, c3, c4, c5, c6, c6']
          · simp [c1, c2, c3, c4, c5]
        · simp [c1, c2, c3, c4]
      · simp [c1, c2, c3]
    · simp [c1, c2]
  · simp [c1]
theorem touch9_ok (p q : Prm) (hp : Md p) (hq : Md q) (fp : fits p.2.2.2.1) (fq : fits q.2.2.2.1) : cR 21 [RT.d .bool] [inj ty24 p, inj ty24 q] = some (touchP p q) := by
  refine callT_of ((e21 p q).trans ?_)
  rw [check7_ok p hp, check7_ok q hq, Option.bind_some, Option.bind_some, bat]
  unfold touchP
  simp only [ifs]
  by_cases c1 : p.1 = 6
  · by_cases c2 : q.1 = 6
    · by_cases c3 : p.2.1 = q.2.1
      · by_cases c4 : chk p = 0
        · by_cases c5 : chk q = 0
          · have h1 := chk_hunk c4 c1
            have h2 := chk_hunk c5 c2
            have hn := hp.new.1; have ho := hq.old.1
            have f1 := fp.2; have f2 := fq.2
            rw [wr _ ⟨by omega, by omega⟩, wr _ ⟨by omega, by omega⟩]
            by_cases c6 : q.2.2.2.1 ≤ p.2.2.2.1 + p.2.2.2.2.2.length
            · have c6' : q.2.2.2.1 - p.2.2.2.1 ≤ p.2.2.2.2.2.length := by omega
              have e : decide (p.2.2.2.1 - q.2.2.2.1 ≤ (q.2.2.2.2.1.length : Int)) = decide (p.2.2.2.1 ≤ q.2.2.2.1 + q.2.2.2.2.1.length) := by rw [decide_eq_decide]; omega
              simp [c1, c2, c3, c4, c5, c6, c6', e]
            · have c6' : ¬ q.2.2.2.1 - p.2.2.2.1 ≤ p.2.2.2.2.2.length := by omega
              simp [c1, c2, c3, c4, c5, c6, c6']
          · simp [c1, c2, c3, c4, c5]
        · simp [c1, c2, c3, c4]
      · simp [c1, c2, c3]
    · simp [c1, c2]
  · simp [c1]

/-! ### What two hunks become -/
def hOld (p q : Prm) : List Txt := q.2.2.2.2.1.take (p.2.2.2.1 - q.2.2.2.1).toNat ++ p.2.2.2.2.1 ++ q.2.2.2.2.1.drop (p.2.2.2.1 + p.2.2.2.2.2.length - q.2.2.2.1).toNat
def hNew (p q : Prm) : List Txt := p.2.2.2.2.2.take (q.2.2.2.1 - p.2.2.2.1).toNat ++ q.2.2.2.2.2 ++ p.2.2.2.2.2.drop (q.2.2.2.1 + q.2.2.2.2.1.length - p.2.2.2.1).toNat
def agree (p q : Prm) : Bool :=
  decide ((q.2.2.2.2.1.take (p.2.2.2.1 + p.2.2.2.2.2.length - q.2.2.2.1).toNat).drop (p.2.2.2.1 - q.2.2.2.1).toNat = (p.2.2.2.2.2.take (q.2.2.2.1 + q.2.2.2.2.1.length - p.2.2.2.1).toNat).drop (q.2.2.2.1 - p.2.2.2.1).toNat)
abbrev zp : Prm := (0, zt, zt, 0, [], [])
def hunksP (p q : Prm) : Prm × Bool :=
  if touchP p q && agree p q then ((6, p.2.1, zt, min p.2.2.2.1 q.2.2.2.1, hOld p q, hNew p q), true) else (zp, false)
theorem touch_facts {p q : Prm} (h : touchP p q = true) : (p.1 = 6 ∧ q.1 = 6) ∧ p.2.1 = q.2.1 ∧ (chk p = 0 ∧ chk q = 0) ∧ q.2.2.2.1 ≤ p.2.2.2.1 + p.2.2.2.2.2.length ∧ p.2.2.2.1 ≤ q.2.2.2.1 + q.2.2.2.2.1.length := by
  unfold touchP at h
  simp only [Bool.and_eq_true, decide_eq_true_eq] at h
  obtain ⟨⟨⟨⟨⟨⟨h1, h2⟩, h3⟩, h4⟩, h5⟩, h6⟩, h7⟩ := h
  exact ⟨⟨h1, h2⟩, h3, ⟨h4, h5⟩, h6, h7⟩

theorem part_ok (a b : Int) (p : Prm) : cR 69 [RT.d (.sl .str)] [inj (.int .i64) a, inj (.int .i64) b, A.c (C.pt (Pt.sh ty24 p 0))] = some ((p.2.2.2.2.2.take b.toNat).drop a.toNat) := by
  refine callT_of ((e69 a b p).trans ?_)
  simp only [imin_eq, imax_eq]
  rw [ifs_pos (by omega), ifs_pos (by omega)]
  refine congrArg (fun x => some (injRs [RT.d (.sl .str)] x)) ?_
  generalize p.2.2.2.2.2 = l
  by_cases h1 : a ≤ b
  · by_cases h2 : a.toNat ≤ l.length
    · rw [show (min (max a 0) (l.length : Int)).toNat = a.toNat by omega]
      congr 1
      exact tk (by omega)
    · rw [List.drop_of_length_le (by rw [List.length_take]; omega), List.drop_of_length_le (by rw [List.length_take]; omega)]
  · rw [List.drop_of_length_le (by rw [List.length_take]; omega), List.drop_of_length_le (by rw [List.length_take]; omega)]

theorem fhunks_ok (p q : Prm) (hp : Md p) (hq : Md q) (fp : fits p.2.2.2.1) (fq : fits q.2.2.2.1) : cR 18 [RT.d ty24, RT.d .bool] [inj ty24 p, inj ty24 q] = some (hunksP p q) := by
  refine callT_of ((e18 p q).trans ?_)
  rw [ftouch_ok p q hp hq fp fq, Option.bind_some]
  unfold hunksP
  cases ht : touchP p q with
  | false => rfl
  | true =>
    obtain ⟨⟨k1, k2⟩, hpath, ⟨c1, c2⟩, t1, t2⟩ := touch_facts ht
    have h1 := chk_hunk c1 k1
    have h2 := chk_hunk c2 k2
    have f1 := fp.2; have f2 := fq.2
    have b1 := hp.new.1; have b2 := hq.old.1; have b3 := hp.old.1; have b4 := hq.new.1
    obtain ⟨P, hP⟩ : ∃ P, p.2.2.2.1 = P := ⟨_, rfl⟩
    obtain ⟨Q, hQ⟩ : ∃ Q, q.2.2.2.1 = Q := ⟨_, rfl⟩
    obtain ⟨n, hn⟩ : ∃ n, p.2.2.2.2.2.length = n := ⟨_, rfl⟩
    obtain ⟨o, ho⟩ : ∃ o, q.2.2.2.2.1.length = o := ⟨_, rfl⟩
    unfold agree hOld hNew
    simp only [hP, hQ, hn, ho]
    have w1 : IntKind.i64.wrap (Q - P) = Q - P := wr _ ⟨by omega, by omega⟩
    have w2 : IntKind.i64.wrap (Q - P + (o : Int)) = Q - P + o := wr _ ⟨by omega, by omega⟩
    have w3 : IntKind.i64.wrap (Q - P + (o : Int) - (n : Int)) = Q - P + o - n := wr _ ⟨by omega, by omega⟩
    have w4 : IntKind.i64.wrap (0 - (Q - P)) = P - Q := by rw [wr _ ⟨by omega, by omega⟩]; omega
    have w5 : IntKind.i64.wrap ((o : Int) - max (Q - P + (o : Int) - (n : Int)) 0) = (o : Int) - max (Q - P + (o : Int) - (n : Int)) 0 := wr _ ⟨by omega, by omega⟩
    have w6 : min (max (Q - P + (o : Int) - (n : Int)) 0) (o : Int) = max (Q - P + (o : Int) - (n : Int)) 0 := by omega
    have w7 : min (max (P - Q) 0) (o : Int) = max (P - Q) 0 := by omega
    simp only [w1, w2, w3, w4, imin_eq, imax_eq, w6, w5, w7]
    rw [ifs_neg (by simp), ifs_pos (by omega), ifs_pos (by omega), part_ok, Option.bind_some, lsame_ok _ _ (by rw [List.length_drop, List.length_take]; simp only [top]; omega), Option.bind_some]
    have e1 : (q.2.2.2.2.1.take ((o : Int) - max (Q - P + (o : Int) - (n : Int)) 0).toNat).drop (max (P - Q) 0).toNat = (q.2.2.2.2.1.take (P + n - Q).toNat).drop (P - Q).toNat := by
      rw [show (max (P - Q) 0).toNat = (P - Q).toNat by omega]
      congr 1
      exact tk (by omega)
    rw [e1, show (Q - P + (o : Int)).toNat = (Q + o - P).toNat by omega]
    by_cases hag : (q.2.2.2.2.1.take (P + n - Q).toNat).drop (P - Q).toNat = (p.2.2.2.2.2.take (Q + o - P).toNat).drop (Q - P).toNat
    · rw [decide_eq_true hag, ifs_neg (by simp), ifs_pos (by omega), ifs_pos (by omega), ifs_pos (by omega), ifs_pos (by omega)]
      rw [conc_ok _ (by simp [top]) (by
        simp only [List.flatten_cons, List.flatten_nil, List.length_append, List.length_take, List.length_drop, List.length_nil]; omega), Option.bind_some]
      have hpt : cR 69 [RT.d (.sl .str)] [inj (.int .i64) 0, inj (.int .i64) (Q - P), A.c (C.pt (Pt.sh ty24 p 0))] = some ((p.2.2.2.2.2.take (Q - P).toNat).drop 0) := part_ok _ _ _
      have hpt2 : cR 69 [RT.d (.sl .str)] [inj (.int .i64) (Q - P + o), inj (.int .i64) (n : Int), A.c (C.pt (Pt.sh ty24 p 0))] = some ((p.2.2.2.2.2.take n).drop (Q - P + o).toNat) := part_ok _ _ _
      rw [hpt, Option.bind_some, hpt2, Option.bind_some]
      rw [conc_ok _ (by simp [top]) (by
        simp only [List.flatten_cons, List.flatten_nil, List.length_append, List.length_take, List.length_drop, List.length_nil]; omega), Option.bind_some]
      simp only [List.flatten_cons, List.flatten_nil, List.append_nil, List.drop_zero, List.take_length, Bool.and_self, if_true]
      have e2 : q.2.2.2.2.1.take (max (P - Q) 0).toNat = q.2.2.2.2.1.take (P - Q).toNat := by rw [show (max (P - Q) 0).toNat = (P - Q).toNat by omega]
      have e3 : (q.2.2.2.2.1.take ((o : Int)).toNat).drop ((o : Int) - max (Q - P + (o : Int) - (n : Int)) 0).toNat = q.2.2.2.2.1.drop (P + n - Q).toNat := by
        rw [List.take_of_length_le (by omega)]
        exact dr (by omega)
      have e4 : (p.2.2.2.2.2.take n).drop (Q - P + (o : Int)).toNat = p.2.2.2.2.2.drop (Q + o - P).toNat := by
        rw [List.take_of_length_le (by omega), show (Q - P + (o : Int)).toNat = (Q + o - P).toNat by omega]
      rw [e2, e3, e4]
      simp only [List.append_assoc]
    · rw [decide_eq_false hag, ifs_pos (by simp)]
      simp

theorem low_ok (a b : Int) : cR 71 [RT.d (.int .i64)] [inj (.int .i64) a, inj (.int .i64) b] = some (min a b) := by
  refine callT_of ((e71 a b).trans ?_)
  by_cases h : a < b
  · rw [ifs_pos (by simpa using h), show min a b = a by omega]
  · rw [ifs_neg (by simpa using h), show min a b = b by omega]
theorem high_ok (a b : Int) : cR 72 [RT.d (.int .i64)] [inj (.int .i64) a, inj (.int .i64) b] = some (max a b) := by
  refine callT_of ((e72 a b).trans ?_)
  by_cases h : a > b
  · rw [ifs_pos (by simpa using h), show max a b = a by omega]
  · rw [ifs_neg (by simpa using h), show max a b = b by omega]

end Go.Proofs.YtokecnkjgoghhaaDoor.Sp
end
section
/- What some functions of the program and of the references come to, in plain words: the reference's two hunks, line by line. Conditions: lengths and places as they stand in each statement. -/
set_option linter.unusedVariables false
set_option linter.unusedSimpArgs false
namespace Go.Proofs.YtokecnkjgoghhaaDoor.Sp
open Go Go.Proofs.YtokecnkjgoghhaaDoor.Ab Go.Proofs.YtokecnkjgoghhaaDoor.Tb Go.Proofs.YtokecnkjgoghhaaDoor.EText

theorem G_len {α : Type} (l : List α) (S : Int) (M : List α) (A c i : Int) : (G l S M A c i).length ≤ l.length + M.length + l.length := by
  unfold G
  rw [List.length_append, List.length_append, List.length_take, List.length_drop, List.length_take]
  split
  · omega
  · simp only [List.length_nil]; omega

/-- From a place on, both lists have the same lines where both are. -/
def Agr (n1 o2 : List Txt) (P Q i : Int) : Prop := ∀ j : Int, i ≤ j → P ≤ j → Q ≤ j → j < P + n1.length → j < Q + o2.length → n1[(j - P).toNat]? = o2[(j - Q).toNat]?

theorem hunks9_loop (k1 : Int) (a1 b1 : Txt) (P : Int) (o1 n1 : List Txt) (k2 : Int) (a2 b2 : Txt) (Q : Int) (o2 n2 : List Txt) (x m : Int) (path : Txt) (hP : 0 ≤ P ∧ P ≤ 1099511627776) (hQ : 0 ≤ Q ∧ Q ≤ 1099511627776)
    (l1 : o1.length ≤ 1000000) (l2 : n1.length ≤ 1000000) (l3 : o2.length ≤ 1000000) (l4 : n2.length ≤ 1000000) (t1 : Q ≤ P + n1.length) (t2 : P ≤ Q + o2.length) :
    ∀ (d : Nat) (i : Int), P ≤ i ∨ Q ≤ i → 0 ≤ i → i ≤ max (P + n1.length) (Q + o2.length) + 1 → (max (P + n1.length) (Q + o2.length) + 1 - i).toNat ≤ d → ∀ B : Bool, (B = true ↔ Agr n1 o2 P Q i) →
      l19_8 (decide (P < i)) (decide (Q < i)) (max (P + n1.length) (Q + o2.length)) i k1 a1 b1 P o1 n1 k2 a2 b2 Q o2 n2 0 zt zt 0 x path zt m (G o2 Q o1 P n1.length i) (G n1 P n2 Q o2.length i) =
        some (injRs [RT.d ty24, RT.d .bool] (if B then ((x, path, zt, m, G o2 Q o1 P n1.length (max (P + n1.length) (Q + o2.length) + 1), G n1 P n2 Q o2.length (max (P + n1.length) (Q + o2.length) + 1)), true) else (zp, false)))
  | 0, i, hi, h0, hl, hd, B, hB => by
    have hi' : i = max (P + n1.length) (Q + o2.length) + 1 := by omega
    subst hi'
    refine cutG_step ((q19_8 ..).trans ?_)
    rw [ifs_neg (by simp; omega), List.take_length, List.take_length]
    have : B = true := hB.2 (fun j h1 h2 h3 h4 h5 => by omega)
    rw [this, if_pos rfl]
  | d + 1, i, hi, h0, hl, hd, B, hB => by
    by_cases hlast : ¬ i ≤ max (P + n1.length) (Q + o2.length)
    · exact hunks9_loop k1 a1 b1 P o1 n1 k2 a2 b2 Q o2 n2 x m path hP hQ l1 l2 l3 l4 t1 t2 d i hi h0 hl (by omega) B hB
    replace hlast := Decidable.not_not.1 hlast
    have g1 := G_step o2 Q o1 P n1.length i (by omega) (by omega) (by omega) hi
    have g2 := G_step n1 P n2 Q o2.length i (by omega) (by omega) (by omega) hi.symm
    have e1 := G_len o2 Q o1 P n1.length i
    have e2 := G_len n1 P n2 Q o2.length i
    have wi : IntKind.i64.wrap (i + 1) = i + 1 := wr _ ⟨by omega, by omega⟩
    have wP : IntKind.i64.wrap (P + (n1.length : Int)) = P + n1.length := wr _ ⟨by omega, by omega⟩
    have wQ : IntKind.i64.wrap (Q + (o2.length : Int)) = Q + o2.length := wr _ ⟨by omega, by omega⟩
    have viP : IntKind.i64.wrap (i - P) = i - P := wr _ ⟨by omega, by omega⟩
    have viQ : IntKind.i64.wrap (i - Q) = i - Q := wr _ ⟨by omega, by omega⟩
    obtain ⟨oA, hoA⟩ : ∃ oA, G o2 Q o1 P n1.length i ++ (if i = P then o1 else []) = oA := ⟨_, rfl⟩
    obtain ⟨nA, hnA⟩ : ∃ nA, G n1 P n2 Q o2.length i ++ (if i = Q then n2 else []) = nA := ⟨_, rfl⟩
    have lA : oA.length ≤ 4000000 := by
      rw [← hoA, List.length_append]
      split
      · omega
      · simp only [List.length_nil]; omega
    have lB : nA.length ≤ 4000000 := by
      rw [← hnA, List.length_append]
      split
      · omega
      · simp only [List.length_nil]; omega
    rw [hoA] at g1
    rw [hnA] at g2
    obtain ⟨mine, hmine⟩ : ∃ b : Bool, b = decide (P ≤ i ∧ i < P + n1.length) := ⟨_, rfl⟩
    obtain ⟨his, hhis⟩ : ∃ b : Bool, b = decide (Q ≤ i ∧ i < Q + o2.length) := ⟨_, rfl⟩
    have nP : (P ≤ i ∧ i < P + n1.length) ↔ mine = true := by rw [hmine, decide_eq_true_eq]
    have nQ : (Q ≤ i ∧ i < Q + o2.length) ↔ his = true := by rw [hhis, decide_eq_true_eq]
    obtain ⟨tO, htO⟩ : ∃ t : List Txt, (if Q ≤ i ∧ ¬ (P ≤ i ∧ i < P + n1.length) then (o2[(i - Q).toNat]?).toList else []) = t := ⟨_, rfl⟩
    obtain ⟨tN, htN⟩ : ∃ t : List Txt, (if P ≤ i ∧ ¬ (Q ≤ i ∧ i < Q + o2.length) then (n1[(i - P).toNat]?).toList else []) = t := ⟨_, rfl⟩
    rw [htO] at g1
    rw [htN] at g2
    have fO : tO = if (his && !mine) = true then (o2[(i - Q).toNat]?).toList else [] := by
      rw [← htO]
      cases hh : his with
      | false =>
        have : ¬ (Q ≤ i ∧ i < Q + o2.length) := fun h => by have := nQ.1 h; rw [hh] at this; cases this
        by_cases c : Q ≤ i
        · rw [List.getElem?_eq_none (by omega)]; simp
        · rw [if_neg (fun h => c h.1)]; rfl
      | true =>
        have c := nQ.2 hh
        cases hm : mine with
        | true => rw [if_neg (fun h => h.2 (nP.2 hm))]; rfl
        | false => rw [if_pos ⟨c.1, fun h => by have := nP.1 h; rw [hm] at this; cases this⟩]; rfl
    have fN : tN = if (mine && !his) = true then (n1[(i - P).toNat]?).toList else [] := by
      rw [← htN]
      cases hm : mine with
      | false =>
        have : ¬ (P ≤ i ∧ i < P + n1.length) := fun h => by have := nP.1 h; rw [hm] at this; cases this
        by_cases c : P ≤ i
        · rw [List.getElem?_eq_none (by omega)]; simp
        · rw [if_neg (fun h => c h.1)]; rfl
      | true =>
        have c := nP.2 hm
        cases hh : his with
        | true => rw [if_neg (fun h => h.2 (nQ.2 hh))]; rfl
        | false => rw [if_pos ⟨c.1, fun h => by have := nQ.1 h; rw [hh] at this; cases this⟩]; rfl
    obtain ⟨v, hv⟩ : ∃ v : Prm × Bool, (if B = true then (((x, path, zt, m, G o2 Q o1 P n1.length (max (P + n1.length) (Q + o2.length) + 1), G n1 P n2 Q o2.length (max (P + n1.length) (Q + o2.length) + 1)), true) : Prm × Bool) else (zp, false)) = v := ⟨_, rfl⟩
    rw [hv]
    -- from the lines' comparison on
    have h18 : l19_18 (decide (P < i + 1)) (decide (Q < i + 1)) (max (P + n1.length) (Q + o2.length)) i mine his k1 a1 b1 P o1 n1 k2 a2 b2 Q o2 n2 0 zt zt 0 x path zt m oA nA = some (injRs [RT.d ty24, RT.d .bool] v) := by
      refine cutG_step ((q19_18 ..).trans ?_)
      have cont : (mine = true → his = true → n1[(i - P).toNat]? = o2[(i - Q).toNat]?) → l19_20 (decide (P < i + 1)) (decide (Q < i + 1)) (max (P + n1.length) (Q + o2.length)) i mine his k1 a1 b1 P o1 n1 k2 a2 b2 Q o2 n2 0 zt zt 0 x path zt m oA nA = some (injRs [RT.d ty24, RT.d .bool] v) := by
        intro hsame
        have hB' : B = true ↔ Agr n1 o2 P Q (i + 1) := by
          rw [hB]
          constructor
          · exact fun h j h1 => h j (by omega)
          · intro h j h1 h2 h3 h4 h5
            by_cases e : j = i
            · subst e; exact hsame (nP.1 ⟨h2, h4⟩) (nQ.1 ⟨h3, h5⟩)
            · exact h j (by omega) h2 h3 h4 h5
        have IH := hunks9_loop k1 a1 b1 P o1 n1 k2 a2 b2 Q o2 n2 x m path hP hQ l1 l2 l3 l4 t1 t2 d (i + 1) (by omega) (by omega) (by omega) (by omega) B hB'
        rw [g1, g2, hv] at IH
        have h9 : l19_9 (decide (P < i + 1)) (decide (Q < i + 1)) (max (P + n1.length) (Q + o2.length)) i k1 a1 b1 P o1 n1 k2 a2 b2 Q o2 n2 0 zt zt 0 x path zt m (oA ++ tO) (nA ++ tN) = some (injRs [RT.d ty24, RT.d .bool] v) := by
          refine cutG_step ((q19_9 ..).trans ?_)
          rw [wi]; exact IH
        -- lines of the first one alone
        have h22 : l19_22 (decide (P < i + 1)) (decide (Q < i + 1)) (max (P + n1.length) (Q + o2.length)) i mine his k1 a1 b1 P o1 n1 k2 a2 b2 Q o2 n2 0 zt zt 0 x path zt m (oA ++ tO) nA = some (injRs [RT.d ty24, RT.d .bool] v) := by
          refine cutG_step ((q19_22 ..).trans ?_)
          rw [viP, List.take_length]
          rw [fN] at h9
          cases hm : mine with
          | true =>
            have c := nP.2 hm
            cases hh : his with
            | true =>
              rw [hm, hh, if_neg (by simp), List.append_nil] at h9
              rw [ifs_pos rfl, ifs_neg (by simp)]
              exact h9
            | false =>
              have hlt : (i - P).toNat < n1.length := by omega
              rw [hm, hh, if_pos (by simp), List.getElem?_eq_getElem hlt] at h9
              rw [ifs_pos rfl, ifs_pos (by simp), ifs_pos (by omega), List.getElem?_eq_getElem hlt, Option.bind_some, ifs_pos (show (nA.length + 1) * 16 ≤ 140737488355328 by omega)]
              exact h9
          | false =>
            rw [hm, if_neg (by simp), List.append_nil] at h9
            rw [ifs_neg (by simp)]
            exact h9
        refine cutG_step ((q19_20 ..).trans ?_)
        rw [viQ, List.take_length]
        rw [fO] at h22
        cases hh : his with
        | true =>
          have c := nQ.2 hh
          cases hm : mine with
          | true =>
            rw [hm, hh, if_neg (by simp), List.append_nil] at h22
            rw [ifs_pos rfl, ifs_neg (by simp)]
            exact h22
          | false =>
            have hlt : (i - Q).toNat < o2.length := by omega
            rw [hm, hh, if_pos (by simp), List.getElem?_eq_getElem hlt] at h22
            rw [ifs_pos rfl, ifs_pos (by simp), ifs_pos (by omega), List.getElem?_eq_getElem hlt, Option.bind_some, ifs_pos (show (oA.length + 1) * 16 ≤ 140737488355328 by omega)]
            exact h22
        | false =>
          rw [hh, if_neg (by simp), List.append_nil] at h22
          rw [ifs_neg (by simp)]
          exact h22
      rw [viP, viQ]
      cases hm : mine with
      | false => rw [ifs_neg (by simp)]; rw [hm] at cont; exact cont (fun h => by cases h)
      | true =>
        cases hh : his with
        | false => rw [ifs_pos rfl, ifs_neg (by simp)]; rw [hm, hh] at cont; exact cont (fun _ h => by cases h)
        | true =>
          have c1 := nP.2 hm
          have c2 := nQ.2 hh
          have q1 : (i - P).toNat < n1.length := by omega
          have q2 : (i - Q).toNat < o2.length := by omega
          rw [ifs_pos rfl, ifs_pos rfl, ifs_pos (by omega), List.getElem?_eq_getElem q1, Option.bind_some, ifs_pos (by omega), List.getElem?_eq_getElem q2, Option.bind_some, bat]
          by_cases hs : n1[(i - P).toNat] = o2[(i - Q).toNat]
          · rw [ifs_neg (by simp [hs])]
            rw [hm, hh] at cont
            exact cont (fun _ _ => by rw [List.getElem?_eq_getElem q1, List.getElem?_eq_getElem q2, hs])
          · rw [ifs_pos (by simp [hs])]
            have : B = false := by
              cases hb : B with
              | false => rfl
              | true =>
                have := hB.1 hb i (Int.le_refl _) c1.1 c2.1 c1.2 c2.2
                rw [List.getElem?_eq_getElem q1, List.getElem?_eq_getElem q2] at this
                exact absurd (Option.some.inj this) hs
            rw [this] at hv
            rw [← hv]
            rfl
    have h16 : l19_16 (decide (P < i + 1)) (decide (Q < i + 1)) (max (P + n1.length) (Q + o2.length)) i k1 a1 b1 P o1 n1 k2 a2 b2 Q o2 n2 0 zt zt 0 x path zt m oA nA = some (injRs [RT.d ty24, RT.d .bool] v) := by
      have h17 : l19_17 (decide (P < i + 1)) (decide (Q < i + 1)) (max (P + n1.length) (Q + o2.length)) i mine k1 a1 b1 P o1 n1 k2 a2 b2 Q o2 n2 0 zt zt 0 x path zt m oA nA = some (injRs [RT.d ty24, RT.d .bool] v) := by
        refine cutG_step ((q19_17 ..).trans ?_)
        rw [wQ]
        by_cases c : Q ≤ i
        · rw [ifs_pos (by simpa using c), show decide (i < Q + (o2.length : Int)) = his by rw [hhis, decide_eq_decide]; omega]; exact h18
        · rw [ifs_neg (by simpa using c), show false = his by rw [hhis]; simp [c]]; exact h18
      refine cutG_step ((q19_16 ..).trans ?_)
      rw [wP]
      by_cases c : P ≤ i
      · rw [ifs_pos (by simpa using c), show decide (i < P + (n1.length : Int)) = mine by rw [hmine, decide_eq_decide]; omega]; exact h17
      · rw [ifs_neg (by simpa using c), show false = mine by rw [hmine]; simp [c]]; exact h17
    have h13 : l19_13 (decide (P < i + 1)) (decide (Q < i)) (max (P + n1.length) (Q + o2.length)) i k1 a1 b1 P o1 n1 k2 a2 b2 Q o2 n2 0 zt zt 0 x path zt m oA (G n1 P n2 Q o2.length i) = some (injRs [RT.d ty24, RT.d .bool] v) := by
      refine cutG_step ((q19_13 ..).trans ?_)
      rw [List.take_length]
      by_cases c : i = Q
      · rw [ifs_pos (by simpa using c), ifs_pos (by simp; omega), ifs_pos (show ((G n1 P n2 Q o2.length i).length + n2.length) * 16 ≤ 140737488355328 by omega)]
        rw [if_pos c] at hnA
        rw [hnA, show true = decide (Q < i + 1) by simp; omega]
        exact h16
      · rw [ifs_neg (by simpa using c)]
        rw [if_neg c, List.append_nil] at hnA
        rw [hnA, show decide (Q < i) = decide (Q < i + 1) by rw [decide_eq_decide]; omega]
        exact h16
    refine cutG_step ((q19_8 ..).trans ?_)
    rw [ifs_pos (by simpa using hlast), List.take_length]
    by_cases c : i = P
    · rw [ifs_pos (by simpa using c), ifs_pos (by simp; omega), ifs_pos (show ((G o2 Q o1 P n1.length i).length + o1.length) * 16 ≤ 140737488355328 by omega)]
      rw [if_pos c] at hoA
      rw [hoA, show true = decide (P < i + 1) by simp; omega]
      exact h13
    · rw [ifs_neg (by simpa using c)]
      rw [if_neg c, List.append_nil] at hoA
      rw [hoA, show decide (P < i) = decide (P < i + 1) by rw [decide_eq_decide]; omega]
      exact h13

theorem hunks9_ok (p q : Prm) (hp : Md p) (hq : Md q) (fp : fits p.2.2.2.1) (fq : fits q.2.2.2.1) (ap : p.2.2.2.1 ≤ 1099511627776) (aq : q.2.2.2.1 ≤ 1099511627776) :
    cR 19 [RT.d ty24, RT.d .bool] [inj ty24 p, inj ty24 q] = some (hunksP p q) := by
  refine callT_of ((e19 p q).trans ?_)
  rw [touch9_ok p q hp hq fp fq, Option.bind_some]
  unfold hunksP
  cases ht : touchP p q with
  | false => rfl
  | true =>
    obtain ⟨⟨k1, k2⟩, hpath, ⟨c1, c2⟩, t1, t2⟩ := touch_facts ht
    have h1 := chk_hunk c1 k1
    have h2 := chk_hunk c2 k2
    have b1 := hp.new.1; have b2 := hq.old.1; have b3 := hp.old.1; have b4 := hq.new.1
    rw [ifs_neg (by simp), low_ok, Option.bind_some, wr _ ⟨by omega, by omega⟩, wr _ ⟨by omega, by omega⟩, high_ok, Option.bind_some]
    have hB : agree p q = true ↔ Agr p.2.2.2.2.2 q.2.2.2.2.1 p.2.2.2.1 q.2.2.2.1 (min p.2.2.2.1 q.2.2.2.1) := by
      unfold agree
      rw [decide_eq_true_eq, over_eq _ _ _ _ t1 t2]
      exact ⟨fun h j _ => h j, fun h j hP hQ => h j (by omega) hP hQ⟩
    have := hunks9_loop p.1 p.2.1 p.2.2.1 p.2.2.2.1 p.2.2.2.2.1 p.2.2.2.2.2 q.1 q.2.1 q.2.2.1 q.2.2.2.1 q.2.2.2.2.1 q.2.2.2.2.2 6 (min p.2.2.2.1 q.2.2.2.1) p.2.1 ⟨h1.1, ap⟩ ⟨h2.1, aq⟩ b3 b1 b2 b4 t1 t2 _ (min p.2.2.2.1 q.2.2.2.1) (by omega) (by omega) (by omega) (Nat.le_refl _) (agree p q) hB
    rw [G_start _ _ _ _ _ _ (by omega) (by omega), G_start _ _ _ _ _ _ (by omega) (by omega), show decide (p.2.2.2.1 < min p.2.2.2.1 q.2.2.2.1) = false by simp; omega, show decide (q.2.2.2.1 < min p.2.2.2.1 q.2.2.2.1) = false by simp; omega] at this
    refine this.trans ?_
    rw [G_end _ _ _ _ _ _ (by omega) (by omega), G_end _ _ _ _ _ _ (by omega) (by omega)]
    cases agree p q <;> rfl

end Go.Proofs.YtokecnkjgoghhaaDoor.Sp
end
section
/- What some functions of the program and of the references come to, in plain words: what two steps become, and a row of steps. Conditions: lengths and places as they stand in each statement. -/
set_option linter.unusedVariables false
set_option linter.unusedSimpArgs false
namespace Go.Proofs.YtokecnkjgoghhaaDoor.Sp
open Go Go.Proofs.YtokecnkjgoghhaaDoor.Ab Go.Proofs.YtokecnkjgoghhaaDoor.Tb Go.Proofs.YtokecnkjgoghhaaDoor.EText

/-! ### Two steps -/
def undoesP (p q : Prm) : Bool := (decide (p.1 = 1) || decide (p.1 = 3) || decide (p.1 = 5)) && decide (invP p = q)
theorem undoes_ok (p q : Prm) (hp : Md p) : cR 65 [RT.d .bool] [inj ty24 p, inj ty24 q] = some (undoesP p q) := by
  refine callT_of ((e65 p q).trans ?_)
  simp only [inv_ok p hp, psame_ok _ _ hp.inv.pok, Option.bind_some]
  unfold undoesP
  simp only [ifs]
  by_cases h1 : p.1 = 1
  · simp [h1]
  by_cases h3 : p.1 = 3
  · simp [h1, h3]
  by_cases h5 : p.1 = 5
  · simp [h1, h3, h5]
  simp [h1, h3, h5]

def pairP (p q : Prm) : List Prm × Bool :=
  if chk p ≠ 0 ∨ chk q ≠ 0 then ([], false)
  else if undoesP p q then ([], true)
  else if p.1 = 5 ∧ q.1 = 5 ∧ q.2.1 = p.2.2.1 then ([(5, p.2.1, q.2.2.1, 0, [], [])], true)
  else if (hunksP p q).2 = false then ([], false)
  else if (hunksP p q).1.2.2.2.2.1 = (hunksP p q).1.2.2.2.2.2 then ([], true)
  else ([(hunksP p q).1], true)

theorem hOld_len (p q : Prm) : (hOld p q).length ≤ q.2.2.2.2.1.length + p.2.2.2.2.1.length + q.2.2.2.2.1.length := by
  unfold hOld; simp only [List.length_append, List.length_take, List.length_drop]; omega
theorem hNew_len (p q : Prm) : (hNew p q).length ≤ p.2.2.2.2.2.length + q.2.2.2.2.2.length + p.2.2.2.2.2.length := by
  unfold hNew; simp only [List.length_append, List.length_take, List.length_drop]; omega
theorem hunksP_old (p q : Prm) (hp : Md p) (hq : Md q) : (hunksP p q).1.2.2.2.2.1.length ≤ top := by
  have := hOld_len p q; have := hp.old.1; have := hq.old.1
  unfold hunksP
  split
  · simp only [top]; omega
  · simp [top]
theorem hunksP_new (p q : Prm) (hp : Md p) (hq : Md q) : (hunksP p q).1.2.2.2.2.2.length ≤ top := by
  have := hNew_len p q; have := hp.new.1; have := hq.new.1
  unfold hunksP
  split
  · simp only [top]; omega
  · simp [top]
theorem fpair_ok (p q : Prm) (hp : Md p) (hq : Md q) (fp : fits p.2.2.2.1) (fq : fits q.2.2.2.1) : cR 16 [RT.own 24 ty24, RT.d .bool] [inj ty24 p, inj ty24 q] = some (pairP p q) := by
  refine callT_of ((e16 p q).trans ?_)
  simp only [pcheck_ok p hp, pcheck_ok q hq, undoes_ok p q hp, fhunks_ok p q hp hq fp fq, lsame_ok _ _ (hunksP_old p q hp hq), Option.bind_some, bat]
  unfold pairP
  simp only [ifs]
  generalize hunksP p q = h
  generalize undoesP p q = u
  by_cases c1 : chk p = 0
  · by_cases c2 : chk q = 0
    · cases u with
      | true => simp [c1, c2]
      | false =>
        have hend : ∀ (R : Option (List RV)), (R = if h.2 = false then some (injRs [RT.own 24 ty24, RT.d .bool] ([], false)) else if h.1.2.2.2.2.1 = h.1.2.2.2.2.2 then some (injRs [RT.own 24 ty24, RT.d .bool] ([], true)) else some (injRs [RT.own 24 ty24, RT.d .bool] ([h.1], true))) →
            R = some (injRs [RT.own 24 ty24, RT.d .bool] (if h.2 = false then ([], false) else if h.1.2.2.2.2.1 = h.1.2.2.2.2.2 then ([], true) else ([h.1], true))) := by
          intro R hR; rw [hR]; repeat' split
          all_goals rfl
        by_cases c3 : p.1 = 5
        · by_cases c4 : q.1 = 5
          · by_cases c5 : q.2.1 = p.2.2.1
            · simp [c1, c2, c3, c4, c5]
            · simp only [c1, c2, c3, c4, c5]
              simp [c3, c4, c5]
              exact hend _ (by cases h.2 <;> simp)
          · simp only [c1, c2, c3, c4]
            simp [c3, c4]
            exact hend _ (by cases h.2 <;> simp)
        · simp only [c1, c2, c3]
          simp [c3]
          exact hend _ (by cases h.2 <;> simp)
    · simp [c1, c2]
  · simp [c1]
theorem pair9_ok (p q : Prm) (hp : Md p) (hq : Md q) (fp : fits p.2.2.2.1) (fq : fits q.2.2.2.1) (ap : p.2.2.2.1 ≤ 1099511627776) (aq : q.2.2.2.1 ≤ 1099511627776) : cR 17 [RT.own 24 ty24, RT.d .bool] [inj ty24 p, inj ty24 q] = some (pairP p q) := by
  refine callT_of ((e17 p q).trans ?_)
  have hs : ∀ a b : Prm, POk a → cR 13 [RT.d .bool] [inj (.sl ty24) [a], inj (.sl ty24) [b]] = some (decide (a = b)) := fun a b ha => by
    rw [same7_ok [a] [b] (by simp [top]) (fun p hp => by rw [List.mem_singleton] at hp; rw [hp]; exact ha)]
    exact congrArg some (by rw [decide_eq_decide]; simp)
  simp only [check7_ok p hp, check7_ok q hq, inv7_ok p, hs _ _ hp.inv.pok, hunks9_ok p q hp hq fp fq ap aq, same1_ok _ _ (hunksP_old p q hp hq), Option.bind_some, bat]
  unfold pairP
  simp only [ifs]
  by_cases c1 : chk p = 0
  · have hk := chk_kind c1
    have hu : undoesP p q = (decide (p.1 ≠ 2) && decide (p.1 ≠ 4) && decide (p.1 ≠ 6) && decide (invP p = q)) := by
      unfold undoesP
      congr 1
      rw [Bool.eq_iff_iff]
      simp only [Bool.or_eq_true, Bool.and_eq_true, decide_eq_true_eq]
      omega
    rw [hu]
    generalize hunksP p q = h
    generalize decide (invP p = q) = u
    have hend : ∀ (R : Option (List RV)), (R = if h.2 = false then some (injRs [RT.own 24 ty24, RT.d .bool] ([], false)) else if h.1.2.2.2.2.1 = h.1.2.2.2.2.2 then some (injRs [RT.own 24 ty24, RT.d .bool] ([], true)) else some (injRs [RT.own 24 ty24, RT.d .bool] ([h.1], true))) →
        R = some (injRs [RT.own 24 ty24, RT.d .bool] (if h.2 = false then ([], false) else if h.1.2.2.2.2.1 = h.1.2.2.2.2.2 then ([], true) else ([h.1], true))) := by
      intro R hR; rw [hR]; repeat' split
      all_goals rfl
    by_cases c2 : chk q = 0
    · by_cases k2 : p.1 = 2
      · simp only [c1, c2, k2]
        simp [k2]
        exact hend _ (by cases h.2 <;> simp)
      by_cases k4 : p.1 = 4
      · simp only [c1, c2, k4]
        simp [k4]
        exact hend _ (by cases h.2 <;> simp)
      by_cases k6 : p.1 = 6
      · simp only [c1, c2, k6]
        simp [k6]
        exact hend _ (by cases h.2 <;> simp)
      cases u with
      | true => simp [c1, c2, k2, k4, k6]
      | false =>
        by_cases c3 : p.1 = 5
        · by_cases c4 : q.1 = 5
          · by_cases c5 : q.2.1 = p.2.2.1
            · simp [c1, c2, c3, c4, c5]
            · simp only [c1, c2, c3, c4, c5]
              simp [c3, c4, c5]
              exact hend _ (by cases h.2 <;> simp)
          · simp only [c1, c2, c3, c4]
            simp [c3, c4]
            exact hend _ (by cases h.2 <;> simp)
        · simp only [c1, c2, c3, k2, k4, k6]
          simp [c3, k2, k4, k6]
          exact hend _ (by cases h.2 <;> simp)
    · simp [c1, c2]
  · simp [c1]

end Go.Proofs.YtokecnkjgoghhaaDoor.Sp
end
section
/- What some functions of the program and of the references come to, in plain words: a row of steps, from the left on. Conditions: lengths and places as they stand in each statement. -/
set_option linter.unusedVariables false
set_option linter.unusedSimpArgs false
namespace Go.Proofs.YtokecnkjgoghhaaDoor.Sp
open Go Go.Proofs.YtokecnkjgoghhaaDoor.Ab Go.Proofs.YtokecnkjgoghhaaDoor.Tb Go.Proofs.YtokecnkjgoghhaaDoor.EText

/-- What lies behind, joined with what comes, as long as it can be. -/
def drain (out : List Prm) : Nat → List Prm → List Prm
  | 0, next => next
  | k + 1, next =>
    match next, out[k]? with
    | n :: r, some l => if (pairP l n).2 then drain out k (pairP l n).1 else out.take (k + 1) ++ n :: r
    | _, _ => out.take (k + 1) ++ next
def allP (l : List Prm) : List Prm := l.foldl (fun acc p => drain acc acc.length [p]) []

/-! ### What stays as it is, in steps that come to be -/
structure Pr (p : Prm) : Prop where
  path : p.2.1.size ≤ 300
  dst : p.2.2.1.size ≤ 300
  old : ∀ s ∈ p.2.2.2.2.1, s.size ≤ 300
  new : ∀ s ∈ p.2.2.2.2.2, s.size ≤ 300
  fit : fits p.2.2.2.1
  place : p.2.2.2.1 ≤ 1099511627776
def wt (p : Prm) : Nat := p.2.2.2.2.1.length + p.2.2.2.2.2.length
def Good (C : Nat) (l : List Prm) : Prop := (∀ p ∈ l, Pr p) ∧ (l.map wt).sum ≤ C
theorem Good.nil (C : Nat) : Good C [] := ⟨fun p h => (by cases h), Nat.zero_le _⟩
theorem Good.app {C D : Nat} {l m : List Prm} (h : Good C l) (k : Good D m) : Good (C + D) (l ++ m) :=
  ⟨fun p hp => (List.mem_append.1 hp).elim (h.1 p) (k.1 p), by rw [List.map_append, List.sum_append]; exact Nat.add_le_add h.2 k.2⟩
theorem Good.left {C : Nat} {l m : List Prm} (h : Good C (l ++ m)) : Good C l :=
  ⟨fun p hp => h.1 p (List.mem_append_left _ hp), by have := h.2; rw [List.map_append, List.sum_append] at this; omega⟩
theorem Good.right {C : Nat} {l m : List Prm} (h : Good C (l ++ m)) : Good C m :=
  ⟨fun p hp => h.1 p (List.mem_append_right _ hp), by have := h.2; rw [List.map_append, List.sum_append] at this; omega⟩
theorem le_sum_mem {n : Nat} : ∀ {l : List Nat}, n ∈ l → n ≤ l.sum
  | x :: l, h => by
    rw [List.sum_cons]
    rcases List.mem_cons.1 h with rfl | h
    · omega
    · have := le_sum_mem h; omega
theorem Good.md {C : Nat} {l : List Prm} (hC : C ≤ 100000) (h : Good C l) {p : Prm} (hp : p ∈ l) : Md p := by
  have hw : wt p ≤ C := Nat.le_trans (le_sum_mem (List.mem_map_of_mem hp)) h.2
  have hr := h.1 p hp
  unfold wt at hw
  exact ⟨by have := hr.path; omega, by have := hr.dst; omega, ⟨by omega, fun s hs => by have := hr.old s hs; omega⟩, ⟨by omega, fun s hs => by have := hr.new s hs; omega⟩⟩

theorem mem_old {p q : Prm} (h1 : ∀ s ∈ p.2.2.2.2.1, s.size ≤ 300) (h2 : ∀ s ∈ q.2.2.2.2.1, s.size ≤ 300) : ∀ s ∈ hOld p q, s.size ≤ 300 := by
  intro s hs
  unfold hOld at hs
  rcases List.mem_append.1 hs with hs | hs
  · rcases List.mem_append.1 hs with hs | hs
    · exact h2 s (List.mem_of_mem_take hs)
    · exact h1 s hs
  · exact h2 s (List.mem_of_mem_drop hs)
theorem mem_new {p q : Prm} (h1 : ∀ s ∈ p.2.2.2.2.2, s.size ≤ 300) (h2 : ∀ s ∈ q.2.2.2.2.2, s.size ≤ 300) : ∀ s ∈ hNew p q, s.size ≤ 300 := by
  intro s hs
  unfold hNew at hs
  rcases List.mem_append.1 hs with hs | hs
  · rcases List.mem_append.1 hs with hs | hs
    · exact h1 s (List.mem_of_mem_take hs)
    · exact h2 s hs
  · exact h1 s (List.mem_of_mem_drop hs)
theorem hunks_wt {p q : Prm} (h : (hunksP p q).2 = true) : Pr p → Pr q → Pr (hunksP p q).1 ∧ wt (hunksP p q).1 ≤ wt p + wt q := by
  intro hp hq
  unfold hunksP at h ⊢
  by_cases ht : (touchP p q && agree p q) = true
  · rw [if_pos ht]
    simp only [Bool.and_eq_true] at ht
    obtain ⟨⟨k1, k2⟩, hpath, ⟨c1, c2⟩, t1, t2⟩ := touch_facts ht.1
    have h1 := chk_hunk c1 k1
    have h2 := chk_hunk c2 k2
    refine ⟨⟨hp.path, by show zt.size ≤ 300; decide, mem_old hp.old hq.old, mem_new hp.new hq.new, ?_, ?_⟩, ?_⟩
    · have := hp.fit; have := hq.fit; unfold fits at *; simp only; omega
    · have := hp.place; have := hq.place; simp only; omega
    · -- what lies over one another goes
      unfold wt hOld hNew
      simp only [List.length_append, List.length_take, List.length_drop]
      omega
  · rw [if_neg ht] at h; cases h
theorem pair_good {C : Nat} {p q : Prm} (hg : Good C [p, q]) (h : (pairP p q).2 = true) : Good C (pairP p q).1 ∧ (pairP p q).1.length ≤ 1 := by
  have hp := hg.1 p (by simp)
  have hq := hg.1 q (by simp)
  have hw := hg.2
  simp only [List.map_cons, List.map_nil, List.sum_cons, List.sum_nil] at hw
  unfold pairP at h ⊢
  split
  · rename_i h1; rw [if_pos h1] at h; cases h
  · rename_i h1
    rw [if_neg h1] at h
    split
    · exact ⟨Good.nil _, by simp⟩
    · rename_i h2
      rw [if_neg h2] at h
      split
      · refine ⟨⟨fun r hr => ?_, ?_⟩, by simp⟩
        · rw [List.mem_singleton] at hr
          subst hr
          exact ⟨hp.path, hq.dst, fun s hs => (by cases hs), fun s hs => (by cases hs), (by show fits 0; unfold fits; omega), by show (0 : Int) ≤ _; omega⟩
        · simp [wt]
      · rename_i h3
        rw [if_neg h3] at h
        split
        · rename_i h4; rw [if_pos h4] at h; cases h
        · rename_i h4
          have h4' : (hunksP p q).2 = true := by simpa using h4
          obtain ⟨hr, hle⟩ := hunks_wt h4' hp hq
          split
          · exact ⟨Good.nil _, by simp⟩
          · refine ⟨⟨fun r hr' => by rw [List.mem_singleton] at hr'; subst hr'; exact hr, ?_⟩, by simp⟩
            simp only [List.map_cons, List.map_nil, List.sum_cons, List.sum_nil]
            omega

theorem take_last {α : Type} {out : List α} {k : Nat} {l : α} (h : out[k]? = some l) : out.take (k + 1) = out.take k ++ [l] := by
  rw [take_step, h]; rfl
theorem drain_good {C : Nat} (out : List Prm) : ∀ (k : Nat) (next : List Prm), k ≤ out.length → next.length ≤ 1 → Good C (out.take k ++ next) → Good C (drain out k next) ∧ (drain out k next).length ≤ k + 1
  | 0, next, hk, hn, hg => ⟨hg.right, by rw [drain]; omega⟩
  | k + 1, next, hk, hn, hg => by
    have hlt : k < out.length := by omega
    cases next with
    | nil =>
      rw [drain]
      · exact ⟨hg, by simp only [List.length_append, List.length_take, List.length_nil]; omega⟩
      · intro n r l h; cases h
    | cons n r =>
      have hr : r = [] := by cases r with | nil => rfl | cons a b => simp at hn
      subst hr
      have hl : out[k]? = some out[k] := List.getElem?_eq_getElem hlt
      rw [take_last hl, List.append_assoc] at hg
      simp only [drain, hl]
      split
      · rename_i hp
        obtain ⟨hg1, hl1⟩ := pair_good hg.right hp
        have hC : Good C (out.take k ++ (pairP out[k] n).1) := by
          refine ⟨fun p hp' => (List.mem_append.1 hp').elim (fun h => hg.1 p (List.mem_append_left _ h)) (hg1.1 p), ?_⟩
          -- the weight of the two is not passed
          have hg2 : Good (wt out[k] + wt n) [out[k], n] := ⟨hg.right.1, by simp⟩
          have := (pair_good hg2 hp).1.2
          have h0 := hg.2
          simp only [List.map_append, List.sum_append, List.map_cons, List.map_nil, List.sum_cons, List.sum_nil] at h0 ⊢
          omega
        obtain ⟨a, b⟩ := drain_good out k _ (by omega) hl1 hC
        exact ⟨a, by omega⟩
      · rw [take_last hl, List.append_assoc]
        exact ⟨hg, by simp only [List.length_append, List.length_take, List.length_cons, List.length_nil]; omega⟩

/-! ### fuse.All -/
theorem fall_drain {C : Nat} (hC : C ≤ 100000) (x0 : List Prm) (x1 x2 : Int) (out : List Prm) (ho : out.length ≤ 1000) (RES : List RV) :
    ∀ (k : Nat) (next : List Prm), k ≤ out.length → next.length ≤ 1 → Good C (out.take k ++ next) → l22_3 x0 x1 (IntKind.i64.wrap (x2 + 1)) (drain out k next) = some RES → l22_6 k next.length x0 x1 x2 out next = some RES := by
  intro k
  induction k with
  | zero =>
    intro next hk hn hg h
    refine cutG_step ((q22_6 ..).trans ?_)
    rw [drain] at h
    rw [List.take_length, List.take_zero, List.nil_append]
    have hsz : (0 + next.length) * 96 ≤ 140737488355328 := by omega
    by_cases hne : next.length > 0
    · rw [ifs_pos (by simpa using hne), ifs_neg (by simp), ifs_pos hsz]; exact h
    · rw [ifs_neg (by simpa using hne), ifs_pos hsz]; exact h
  | succ k ih =>
    intro next hk hn hg h
    refine cutG_step ((q22_6 ..).trans ?_)
    have hlt : k < out.length := by omega
    have hl : out[k]? = some out[k] := List.getElem?_eq_getElem hlt
    have hw : IntKind.i64.wrap (((k + 1 : Nat) : Int) - 1) = (k : Int) := by rw [wr _ ⟨by omega, by omega⟩]; omega
    have hsz : ((k + 1) + next.length) * 96 ≤ 140737488355328 := by omega
    rw [List.take_length, hw, Int.toNat_natCast, hl]
    cases next with
    | nil =>
      rw [drain] at h
      · rw [ifs_neg (by simp), ifs_pos hsz]; exact h
      · intro n r l h; cases h
    | cons n r =>
      have hr : r = [] := by cases r with | nil => rfl | cons a b => simp at hn
      subst hr
      have hg' := hg
      rw [take_last hl, List.append_assoc] at hg'
      have m1 := hg'.right.md hC (p := out[k]) (by simp)
      have m2 := hg'.right.md hC (p := n) (by simp)
      have r1 := hg'.right.1 out[k] (by simp)
      have r2 := hg'.right.1 n (by simp)
      have hn0 : ([n] : List Prm)[Int.toNat 0]? = some n := rfl
      rw [ifs_pos (by simp), ifs_pos (by rw [decide_eq_true_eq]; omega), ifs_pos (by omega), Option.bind_some, ifs_pos (by simp), hn0, Option.bind_some, fpair_ok _ _ m1 m2 r1.fit r2.fit, Option.bind_some]
      simp only [drain, hl] at h
      cases hp : (pairP out[k] n).2 with
      | true =>
        rw [hp, if_pos rfl] at h
        rw [ifs_neg (by simp), ifs_pos (by omega)]
        obtain ⟨hg1, hl1⟩ := pair_good hg'.right hp
        refine ih _ (by omega) hl1 ?_ h
        refine ⟨fun p hp' => (List.mem_append.1 hp').elim (fun h => hg'.1 p (List.mem_append_left _ h)) (hg1.1 p), ?_⟩
        have hg2 : Good (wt out[k] + wt n) [out[k], n] := ⟨hg'.right.1, by simp⟩
        have := (pair_good hg2 hp).1.2
        have h0 := hg'.2
        simp only [List.map_append, List.sum_append, List.map_cons, List.map_nil, List.sum_cons, List.sum_nil] at h0 ⊢
        omega
      | false =>
        rw [hp, if_neg (by simp)] at h
        rw [ifs_pos (by simp), ifs_pos hsz]
        exact h
theorem foldl_good {C : Nat} : ∀ (l acc : List Prm) (n : Nat), acc.length ≤ n → Good C (acc ++ l) → Good C (l.foldl (fun acc p => drain acc acc.length [p]) acc) ∧ (l.foldl (fun acc p => drain acc acc.length [p]) acc).length ≤ n + l.length
  | [], acc, n, hn, hg => by rw [List.append_nil] at hg; exact ⟨hg, by simpa using hn⟩
  | p :: l, acc, n, hn, hg => by
    rw [List.foldl_cons]
    have e : acc ++ p :: l = (acc ++ [p]) ++ l := by simp
    rw [e] at hg
    have hd := drain_good (C := ((acc ++ [p]).map wt).sum) acc acc.length [p] (Nat.le_refl _) (by simp) (by rw [List.take_length]; exact ⟨hg.left.1, Nat.le_refl _⟩)
    have := foldl_good (C := C) l (drain acc acc.length [p]) (n + 1) (by omega) ⟨fun q hq => (List.mem_append.1 hq).elim (hd.1.1 q) (hg.right.1 q), by
      have h0 := hg.2
      have h1 := hd.1.2
      rw [List.map_append, List.sum_append] at h0 ⊢
      omega⟩
    exact ⟨this.1, by rw [List.length_cons]; omega⟩
theorem fall_loop {C : Nat} (hC : C ≤ 100000) (l : List Prm) (hl : l.length ≤ 100) : ∀ (d i : Nat) (acc : List Prm), l.length - i = d → i ≤ l.length → acc.length ≤ i → Good C (acc ++ l.drop i) →
    l22_3 l l.length i acc = some (injRs [RT.own 24 ty24] ((l.drop i).foldl (fun acc p => drain acc acc.length [p]) acc))
  | 0, i, acc, hd, hi, ha, hg => by
    refine cutG_step ((q22_3 ..).trans ?_)
    rw [ifs_neg (by simp; omega), List.take_length, List.drop_of_length_le (by omega)]
    rfl
  | d + 1, i, acc, hd, hi, ha, hg => by
    have hlt : i < l.length := by omega
    refine cutG_step ((q22_3 ..).trans ?_)
    rw [List.drop_eq_getElem_cons hlt] at hg ⊢
    have e : acc ++ l[i] :: l.drop (i + 1) = (acc ++ [l[i]]) ++ l.drop (i + 1) := by simp
    rw [e] at hg
    have hm : Md l[i] := hg.left.right.md hC (by simp)
    rw [ifs_pos (by simpa using hlt), ifs_pos (by omega), Int.toNat_natCast, List.getElem?_eq_getElem hlt, Option.bind_some, inv_ok _ hm, Option.bind_some, inv_ok _ hm.inv, Option.bind_some, invP_back, List.foldl_cons]
    have hd1 := drain_good (C := ((acc ++ [l[i]]).map wt).sum) acc acc.length [l[i]] (Nat.le_refl _) (by simp) (by rw [List.take_length]; exact ⟨hg.left.1, Nat.le_refl _⟩)
    refine fall_drain hC l _ _ acc (by omega) _ acc.length [l[i]] (Nat.le_refl _) (by simp) (by rw [List.take_length]; exact hg.left) ?_
    have hw : IntKind.i64.wrap ((i : Int) + 1) = ((i + 1 : Nat) : Int) := by rw [wr _ ⟨by omega, by omega⟩]; omega
    rw [hw]
    refine fall_loop hC l hl d (i + 1) _ (by omega) (by omega) (by omega) ⟨fun q hq => (List.mem_append.1 hq).elim (hd1.1.1 q) (hg.right.1 q), ?_⟩
    have h0 := hg.2
    have h1 := hd1.1.2
    rw [List.map_append, List.sum_append] at h0 ⊢
    omega
theorem fall_ok {C : Nat} (hC : C ≤ 100000) (l : List Prm) (hl : l.length ≤ 100) (hg : Good C l) : cR 22 [RT.own 24 ty24] [inj (.sl ty24) l] = some (allP l) :=
  callT_of ((e22 l).trans (fall_loop hC l hl l.length 0 [] (by omega) (Nat.zero_le _) (by simp) (by simpa using hg)))

end Go.Proofs.YtokecnkjgoghhaaDoor.Sp
end
section
/- The laws FusePairs and FuseAll as plain Lean: each answers true. Conditions: lengths and numbers are those of the machine. -/
set_option linter.unusedVariables false
set_option linter.unusedSimpArgs false
namespace Go.Proofs.YtokecnkjgoghhaaDoor.Sp
open Go Go.Proofs.YtokecnkjgoghhaaDoor.Ab Go.Proofs.YtokecnkjgoghhaaDoor.Tb Go.Proofs.YtokecnkjgoghhaaDoor.EText

/-- An answer found by running the machine. -/
theorem callT_ofN {f : FuncId} {args : List A} {rts : List RT} {d : dens rts} (k : Nat) (h : callN W0 k f args = some (injRs rts d)) : cR f rts args = some d := by
  show (callW W0 f args).bind (prjRs rts) = some d
  have : callW W0 f args = some (injRs rts d) := limO_of (fun k q x hkq hx => callN_le hkq hx) h
  rw [this]
  exact prj_injRs rts d

set_option maxRecDepth 100000 in
theorem awake9_ok : cR 15 [RT.d .bool] [] = some true := callT_ofN 60 (by kernel_rfl)

/-- What every step that is handed in is. -/
def Arg (p : Prm) : Prop := POk p ∧ fits p.2.2.2.1
theorem light3_facts {l : List Txt} (h : light3 l = true) : l.length ≤ 60 ∧ ∀ s ∈ l, s.size ≤ 300 := by
  unfold light3 at h
  simp only [Bool.and_eq_true, List.all_eq_true, decide_eq_true_eq] at h
  exact ⟨h.2, h.1⟩
theorem light7_facts {l : List Prm} (h : light7 l = true) : l.length ≤ 40 ∧ ∀ p ∈ l, p.2.1.size ≤ 300 ∧ p.2.2.1.size ≤ 300 ∧ (p.2.2.2.2.1.length ≤ 60 ∧ ∀ s ∈ p.2.2.2.2.1, s.size ≤ 300) ∧ (p.2.2.2.2.2.length ≤ 60 ∧ ∀ s ∈ p.2.2.2.2.2, s.size ≤ 300) := by
  unfold light7 at h
  simp only [Bool.and_eq_true, List.all_eq_true, decide_eq_true_eq] at h
  refine ⟨h.2, fun p hp => ?_⟩
  have := h.1 p hp
  unfold lightP at this
  simp only [Bool.and_eq_true, decide_eq_true_eq] at this
  exact ⟨this.1.1.1, this.1.1.2, light3_facts this.1.2, light3_facts this.2⟩
theorem light9_good {l : List Prm} (h : light9 l = true) (ha : ∀ p ∈ l, Arg p) : l.length ≤ 40 ∧ Good 4800 l := by
  unfold light9 at h
  simp only [Bool.and_eq_true, List.all_eq_true, decide_eq_true_eq] at h
  obtain ⟨hl, hp⟩ := light7_facts h.2
  refine ⟨hl, fun p hpm => ?_, ?_⟩
  · obtain ⟨h1, h2, h3, h4⟩ := hp p hpm
    exact ⟨h1, h2, h3.2, h4.2, (ha p hpm).2, h.1 p hpm⟩
  · have : ∀ m : List Prm, (∀ p ∈ m, wt p ≤ 120) → (m.map wt).sum ≤ 120 * m.length := by
      intro m
      induction m with
      | nil => intro _; simp
      | cons a m ih =>
        intro hm
        have h1 := hm a (by simp)
        have h2 := ih (fun p hp => hm p (List.mem_cons_of_mem _ hp))
        simp only [List.map_cons, List.sum_cons, List.length_cons]
        omega
    have hw := this l (fun p hpm => by
      obtain ⟨h1, h2, h3, h4⟩ := hp p hpm
      unfold wt; omega)
    omega

/-! ### FuseAll -/
theorem law_drain {C : Nat} (hC : C ≤ 100000) (x0 : List Prm) (x2 : Int) (out : List Prm) (ho : out.length ≤ 1000) (RES : List RV) :
    ∀ (k : Nat) (next : List Prm), k ≤ out.length → next.length ≤ 1 → Good C (out.take k ++ next) → l5_5 x0 (IntKind.i64.wrap (x2 + 1)) (drain out k next) = some RES → l5_8v1 x0 k x2 next.length out next = some RES := by
  intro k
  induction k with
  | zero =>
    intro next hk hn hg h
    refine cutG_step ((q5_8v1 ..).trans ?_)
    rw [drain] at h
    simp only [List.take_length, List.take_zero, List.nil_append]
    have h1 : (0 + ([] : List Prm).length) * 96 ≤ 140737488355328 := by simp
    have h2 : (([] : List Prm).length + next.length) * 96 ≤ 140737488355328 := by simp only [List.length_nil]; omega
    by_cases hne : next.length > 0
    · rw [ifs_pos (by simpa using hne), ifs_neg (by simp), ifs_pos h1, ifs_pos h2]; exact h
    · rw [ifs_neg (by simpa using hne), ifs_pos h1, ifs_pos h2]; exact h
  | succ k ih =>
    intro next hk hn hg h
    refine cutG_step ((q5_8v1 ..).trans ?_)
    have hlt : k < out.length := by omega
    have hl : out[k]? = some out[k] := List.getElem?_eq_getElem hlt
    have hw : IntKind.i64.wrap (((k + 1 : Nat) : Int) - 1) = (k : Int) := by rw [wr _ ⟨by omega, by omega⟩]; omega
    have hlen : (out.take (k + 1)).length = k + 1 := by rw [List.length_take]; omega
    have h1 : (0 + (out.take (k + 1)).length) * 96 ≤ 140737488355328 := by omega
    have h2 : ((out.take (k + 1)).length + next.length) * 96 ≤ 140737488355328 := by omega
    simp only [List.take_length, List.nil_append, hw, Int.toNat_natCast, hl]
    cases next with
    | nil =>
      rw [drain] at h
      · rw [ifs_neg (by simp), ifs_pos h1, ifs_pos h2]; exact h
      · intro n r l h; cases h
    | cons n r =>
      have hr : r = [] := by cases r with | nil => rfl | cons a b => simp at hn
      subst hr
      have hg' := hg
      rw [take_last hl, List.append_assoc] at hg'
      have m1 := hg'.right.md hC (p := out[k]) (by simp)
      have m2 := hg'.right.md hC (p := n) (by simp)
      have r1 := hg'.right.1 out[k] (by simp)
      have r2 := hg'.right.1 n (by simp)
      have hn0 : ([n] : List Prm)[Int.toNat 0]? = some n := rfl
      rw [ifs_pos (by simp), ifs_pos (by rw [decide_eq_true_eq]; omega), ifs_pos (by omega), Option.bind_some, ifs_pos (by simp), hn0, Option.bind_some, pair9_ok _ _ m1 m2 r1.fit r2.fit r1.place r2.place, Option.bind_some]
      simp only [drain, hl] at h
      cases hp : (pairP out[k] n).2 with
      | true =>
        rw [hp, if_pos rfl] at h
        rw [ifs_neg (by simp), ifs_pos (by omega)]
        obtain ⟨hg1, hl1⟩ := pair_good hg'.right hp
        refine ih _ (by omega) hl1 ?_ h
        refine ⟨fun p hp' => (List.mem_append.1 hp').elim (fun h => hg'.1 p (List.mem_append_left _ h)) (hg1.1 p), ?_⟩
        have hg2 : Good (wt out[k] + wt n) [out[k], n] := ⟨hg'.right.1, by simp⟩
        have := (pair_good hg2 hp).1.2
        have h0 := hg'.2
        simp only [List.map_append, List.sum_append, List.map_cons, List.map_nil, List.sum_cons, List.sum_nil] at h0 ⊢
        omega
      | false =>
        rw [hp, if_neg (by simp)] at h
        rw [ifs_pos (by simp), ifs_pos h1, ifs_pos h2]
        exact h
theorem law_drain1 {C : Nat} (hC : C ≤ 100000) (x0 : List Prm) (x2 : Int) (out : List Prm) (ho : out.length ≤ 1000) (RES : List RV) (n : Prm) :
    ∀ (k : Nat), k ≤ out.length → Good C (out.take k ++ [n]) → l5_5 x0 (IntKind.i64.wrap (x2 + 1)) (drain out k [n]) = some RES → l5_8 x0 k x2 [n] out = some RES := by
  intro k hk hg h
  refine cutG_step ((q5_8 ..).trans ?_)
  cases k with
  | zero =>
    rw [drain] at h
    simp only [List.take_length, List.take_zero, List.nil_append]
    have h1 : (0 + ([] : List Prm).length) * 96 ≤ 140737488355328 := by simp
    have h2 : (([] : List Prm).length + [n].length) * 96 ≤ 140737488355328 := by simp
    rw [ifs_pos (by simp), ifs_neg (by simp), ifs_pos h1, ifs_pos h2]; exact h
  | succ k =>
    have hlt : k < out.length := by omega
    have hl : out[k]? = some out[k] := List.getElem?_eq_getElem hlt
    have hw : IntKind.i64.wrap (((k + 1 : Nat) : Int) - 1) = (k : Int) := by rw [wr _ ⟨by omega, by omega⟩]; omega
    have hlen : (out.take (k + 1)).length = k + 1 := by rw [List.length_take]; omega
    have h1 : (0 + (out.take (k + 1)).length) * 96 ≤ 140737488355328 := by omega
    have h2 : ((out.take (k + 1)).length + [n].length) * 96 ≤ 140737488355328 := by simp only [List.length_singleton]; omega
    simp only [List.take_length, List.nil_append, hw, Int.toNat_natCast, hl]
    have hg' := hg
    rw [take_last hl, List.append_assoc] at hg'
    have m1 := hg'.right.md hC (p := out[k]) (by simp)
    have m2 := hg'.right.md hC (p := n) (by simp)
    have r1 := hg'.right.1 out[k] (by simp)
    have r2 := hg'.right.1 n (by simp)
    have hn0 : ([n] : List Prm)[Int.toNat 0]? = some n := rfl
    rw [ifs_pos (by simp), ifs_pos (by rw [decide_eq_true_eq]; omega), ifs_pos (by omega), Option.bind_some, hn0, Option.bind_some, pair9_ok _ _ m1 m2 r1.fit r2.fit r1.place r2.place, Option.bind_some]
    simp only [drain, hl] at h
    cases hp : (pairP out[k] n).2 with
    | true =>
      rw [hp, if_pos rfl] at h
      rw [ifs_neg (by simp), ifs_pos (by omega)]
      obtain ⟨hg1, hl1⟩ := pair_good hg'.right hp
      refine law_drain hC x0 x2 out ho RES k _ (by omega) hl1 ?_ h
      refine ⟨fun p hp' => (List.mem_append.1 hp').elim (fun h => hg'.1 p (List.mem_append_left _ h)) (hg1.1 p), ?_⟩
      have hg2 : Good (wt out[k] + wt n) [out[k], n] := ⟨hg'.right.1, by simp⟩
      have := (pair_good hg2 hp).1.2
      have h0 := hg'.2
      simp only [List.map_append, List.sum_append, List.map_cons, List.map_nil, List.sum_cons, List.sum_nil] at h0 ⊢
      omega
    | false =>
      rw [hp, if_neg (by simp)] at h
      rw [ifs_pos (by simp), ifs_pos h1, ifs_pos h2]
      exact h
theorem law_loop (l : List Prm) (hl : l.length ≤ 40) (hgl : Good 4800 l) : ∀ (d i : Nat) (acc : List Prm), l.length - i = d → i ≤ l.length → acc.length ≤ i → Good 4800 (acc ++ l.drop i) → (l.drop i).foldl (fun acc p => drain acc acc.length [p]) acc = allP l →
    l5_5 l i acc = some (injRs [RT.d .bool] true)
  | 0, i, acc, hd, hi, ha, hg, he => by
    refine cutG_step ((q5_5 ..).trans ?_)
    rw [List.drop_of_length_le (show l.length ≤ i by omega), List.foldl_nil] at he
    subst he
    rw [ifs_neg (by simp; omega), awake9_ok, Option.bind_some, ifs_pos rfl, fall_ok (C := 4800) (by omega) l (by omega) hgl, Option.bind_some, List.take_length,
      same7_ok _ _ (by simp only [top]; omega) (fun p hp => (hg.left.md (by omega) hp).pok), Option.bind_some]
    simp
  | d + 1, i, acc, hd, hi, ha, hg, he => by
    have hlt : i < l.length := by omega
    refine cutG_step ((q5_5 ..).trans ?_)
    have hw : IntKind.i64.wrap ((i : Int) + 1) = ((i + 1 : Nat) : Int) := by rw [wr _ ⟨by omega, by omega⟩]; omega
    have hx : List.drop (Int.toNat (i : Int)) (List.take (Int.toNat ((i + 1 : Nat) : Int)) l) = [l[i]] := by
      rw [Int.toNat_natCast, Int.toNat_natCast, take_last (List.getElem?_eq_getElem hlt), List.drop_append_of_le_length (by rw [List.length_take]; omega), List.drop_of_length_le (by rw [List.length_take]; omega)]
      rfl
    rw [hw, hx, ifs_pos (by simpa using hlt), ifs_pos (by omega), ifs_pos (by omega)]
    rw [List.drop_eq_getElem_cons hlt] at hg he
    rw [List.foldl_cons] at he
    have e : acc ++ l[i] :: l.drop (i + 1) = (acc ++ [l[i]]) ++ l.drop (i + 1) := by simp
    rw [e] at hg
    have hd1 := drain_good (C := ((acc ++ [l[i]]).map wt).sum) acc acc.length [l[i]] (Nat.le_refl _) (by simp) (by rw [List.take_length]; exact ⟨hg.left.1, Nat.le_refl _⟩)
    refine law_drain1 (C := 4800) (by omega) l i acc (by omega) _ l[i] acc.length (Nat.le_refl _) (by rw [List.take_length]; exact hg.left) ?_
    rw [hw]
    refine law_loop l hl hgl d (i + 1) _ (by omega) (by omega) (by omega) ⟨fun q hq => (List.mem_append.1 hq).elim (hd1.1.1 q) (hg.right.1 q), ?_⟩ he
    have h0 := hg.2
    have h1 := hd1.1.2
    rw [List.map_append, List.sum_append] at h0 ⊢
    omega
theorem fuseAll_true (l : List Prm) (hl : l.length ≤ top) (ha : ∀ p ∈ l, Arg p) : callW W0 5 [inj (.sl ty24) l] = some (injRs [RT.d .bool] true) := by
  refine callG_step ((e5 l).trans ?_)
  rw [light9_ok l hl (fun p hp => (ha p hp).1), Option.bind_some]
  cases h : light9 l with
  | false => rw [ifs_pos (by simp), awake9_ok]; rfl
  | true =>
    obtain ⟨h1, h2⟩ := light9_good h ha
    rw [ifs_neg (by simp)]
    exact law_loop l h1 h2 l.length 0 [] (by omega) (Nat.zero_le _) (Nat.le_refl _) (by simpa using h2) rfl

/-! ### FusePairs -/
theorem pair_len (p q : Prm) : (pairP p q).1.length ≤ 1 := by
  unfold pairP
  repeat' split
  all_goals simp
theorem fusePairs_true (p q : Prm) (ap : Arg p) (aq : Arg q) : callW W0 4 [inj ty24 p, inj ty24 q] = some (injRs [RT.d .bool] true) := by
  refine callG_step ((e4 p q).trans ?_)
  have ha : ∀ r ∈ [p, q], Arg r := fun r hr => by
    rcases List.mem_cons.1 hr with rfl | hr
    · exact ap
    · rw [List.mem_singleton] at hr; subst hr; exact aq
  rw [light9_ok [p, q] (by simp [top]) (fun r hr => (ha r hr).1), Option.bind_some]
  cases h : light9 [p, q] with
  | false => rw [ifs_pos (by simp), awake9_ok]; rfl
  | true =>
    obtain ⟨h1, h2⟩ := light9_good h ha
    have mp := h2.md (by omega) (p := p) (by simp)
    have mq := h2.md (by omega) (p := q) (by simp)
    have rp := h2.1 p (by simp)
    have rq := h2.1 q (by simp)
    have hpok : ∀ r ∈ (pairP p q).1, POk r := fun r hr => by
      by_cases hp : (pairP p q).2 = true
      · exact ((pair_good h2 hp).1.md (by omega) hr).pok
      · exfalso
        unfold pairP at hp hr
        revert hp hr
        repeat' split
        all_goals simp
    have hhok : POk (hunksP p q).1 := ⟨hunksP_old p q mp mq, hunksP_new p q mp mq⟩
    rw [ifs_neg (by simp), fpair_ok p q mp mq ap.2 aq.2, Option.bind_some, pair9_ok p q mp mq ap.2 aq.2 rp.place rq.place, Option.bind_some, fhunks_ok p q mp mq ap.2 aq.2, Option.bind_some, hunks9_ok p q mp mq ap.2 aq.2 rp.place rq.place, Option.bind_some, awake9_ok, Option.bind_some, ifs_pos rfl, ifs_pos (by simp),
      same7_ok _ _ (by have := pair_len p q; rw [List.take_length]; simp only [top]; omega) (by rw [List.take_length]; exact hpok), Option.bind_some, ifs_pos (by simp), ifs_pos (by simp),
      same7_ok _ _ (by simp [top]) (fun r hr => by rw [List.mem_singleton] at hr; subst hr; exact hhok), Option.bind_some, ifs_pos (by simp), ftouch_ok p q mp mq ap.2 aq.2, Option.bind_some, touch9_ok p q mp mq ap.2 aq.2, Option.bind_some]
    simp

end Go.Proofs.YtokecnkjgoghhaaDoor.Sp
end
section
/- Proved: whatever reads as a datum of a type is a value of the print's kind for that type; for each make of type. No condition. -/
namespace Go.Proofs.YtokecnkjgoghhaaDoor.EOpen
open Go.ChangeShapes Go.Proofs.YtokecnkjgoghhaaDoorW.PrintWords

/-- What reads as a datum of type t is a value of kind d, and Q holds of it. -/
def Opens (P : Program) (t : TypeId) {α : Type} (d : Kd α) (Q : α → Prop) : Prop :=
  ∀ {H : Type} (enc : TypeId × Value → H) (w : World) (base : Nat) (sp : Nat → Bool) (held : Bool) (fuel : Nat) (cs : List Value) (x : DataW H × List MemPlace),
    DataW.trod enc P w base sp held fuel t cs = some x → ∃ a : α, d.K w a cs ∧ Q a

variable {P : Program} {t : TypeId}
theorem opens_int {k : IntKind} (ht : P.underlying t = some (.int k)) : Opens P t (Kd.int k) (fun n => (Lit.int k n).wf = true) := by
  intro H enc w base sp held fuel cs x h
  obtain ⟨n, rfl, _, hw⟩ := DataW.trod_int ht h
  exact ⟨n, rfl, hw⟩
theorem opens_bool (ht : P.underlying t = some .bool) : Opens P t Kd.bool (fun _ => True) := by
  intro H enc w base sp held fuel cs x h
  obtain ⟨b, rfl, _⟩ := DataW.trod_bool ht h
  exact ⟨b, rfl, trivial⟩
theorem opens_string (ht : P.underlying t = some .string) : Opens P t Kd.string (fun s => s.size ≤ maxLen) := by
  intro H enc w base sp held fuel cs x h
  obtain ⟨s, rfl, _, hs⟩ := DataW.trod_string ht h
  exact ⟨s, rfl, hs⟩

theorem mapM_get {β : Type} (f : Nat → Option β) : ∀ (n : Nat) (l : List β), (List.range n).mapM f = some l → l.length = n ∧ ∀ i, i < n → f i = l[i]? := by
  intro n
  induction n with
  | zero =>
    intro l h
    simp at h
    subst h
    exact ⟨rfl, fun i hi => absurd hi (by omega)⟩
  | succ n ih =>
    intro l h
    rw [List.range_succ, List.mapM_append] at h
    obtain ⟨l1, h1, h⟩ := Option.bind_eq_some_iff.1 h
    obtain ⟨l2, h2, h⟩ := Option.bind_eq_some_iff.1 h
    obtain ⟨hl, hg⟩ := ih l1 h1
    obtain ⟨y, hy, h2⟩ := Option.bind_eq_some_iff.1 (by simpa using h2)
    injection h with h
    subst h
    injection h2 with h2
    subst h2
    refine ⟨by simp [hl], fun i hi => ?_⟩
    by_cases hin : i < n
    · rw [hg i hin, List.getElem?_append_left (by omega)]
    · have : i = n := by omega
      subst this
      rw [hy, List.getElem?_append_right (by omega), hl]
      simp
theorem cells_get {w : World} {base : Nat} {a : Addr} {n : Nat} {cs : List Value} (h : w.cells? base a n = some cs) : cs.length = n ∧ ∀ i u, cs[i]? = some u → w.cell? (a.add i) = some u := by
  unfold World.cells? at h
  split at h
  · obtain ⟨hl, hg⟩ := mapM_get _ n cs h
    refine ⟨hl, fun i u hu => ?_⟩
    have hi : i < n := by have := (List.getElem?_eq_some_iff.1 hu).1; omega
    rw [hg i hi, hu]
  · cases h
theorem list_of {α : Type} (p : Nat → α → Prop) : ∀ n : Nat, (∀ i, i < n → ∃ a, p i a) → ∃ l : List α, l.length = n ∧ ∀ i a, l[i]? = some a → p i a := by
  intro n
  induction n with
  | zero => exact fun _ => ⟨[], rfl, fun i a h => by simp at h⟩
  | succ n ih =>
    intro h
    obtain ⟨l, hl, hg⟩ := ih (fun i hi => h i (by omega))
    obtain ⟨a, ha⟩ := h n (by omega)
    refine ⟨l ++ [a], by simp [hl], fun i b hb => ?_⟩
    by_cases hi : i < n
    · rw [List.getElem?_append_left (by omega)] at hb
      exact hg i b hb
    · have hlt := (List.getElem?_eq_some_iff.1 hb).1
      have : i = n := by simp at hlt; omega
      subst this
      rw [List.getElem?_append_right (by omega), hl] at hb
      simp at hb
      subst hb
      exact ha

theorem opens_slice {e : TypeId} {α : Type} {d : Kd α} {Q : α → Prop} (ht : P.underlying t = some (.slice e)) (hc : P.cellsOf e = d.sz) (h : Opens P e d Q) (e' : Nat) :
    Opens P t (Kd.slice e' d) (fun l => ∀ x ∈ l, Q x) := by
  intro H enc w base sp held fuel cs x hx
  rcases DataW.trod_slice ht hx with ⟨rfl, _⟩ | ⟨a, len, cap, elems, rest, n, _, rfl, _, hb, hl, hm, hlen, hel, _, _⟩
  · exact ⟨[], ⟨none, 0, rfl, Nat.le_refl _, Kd.C_nil _ _⟩, fun x hx => by cases hx⟩
  · obtain ⟨l, hll, hg⟩ := list_of (fun i a' => Q a' ∧ ∃ c, w.cells? base (a.add (i * P.cellsOf e)) (P.cellsOf e) = some c ∧ d.K w a' c) len (fun i hi => by
      have h1 := hel i hi
      rw [List.getElem?_eq_getElem (by omega)] at h1
      obtain ⟨c, hc1, hc2⟩ := Option.bind_eq_some_iff.1 h1
      obtain ⟨a', hk, hq⟩ := h enc w base sp held n c _ hc2
      exact ⟨a', hq, c, hc1, hk⟩)
    refine ⟨l, ⟨some a, cap, by rw [hll], by omega, rfl, ?_, fun _ => ⟨a, rfl, fun j p hj => ?_⟩⟩, fun y hy => ?_⟩
    · simp only [maxLen] at hm; omega
    · obtain ⟨_, c, hc1, hk⟩ := hg j p hj
      rw [hc] at hc1
      obtain ⟨hl1, hg1⟩ := cells_get hc1
      exact ⟨c, hl1, hk, fun i u hu => by rw [← add_add]; exact hg1 i u hu⟩
    · obtain ⟨i, hi⟩ := List.getElem?_of_mem hy
      exact (hg i y hi).1

/-- The same, with the bound on its length. -/
theorem opens_slice2 {e : TypeId} {α : Type} {d : Kd α} {Q : α → Prop} (ht : P.underlying t = some (.slice e)) (hc : P.cellsOf e = d.sz) (h : Opens P e d Q) (e' : Nat) :
    Opens P t (Kd.slice e' d) (fun l => l.length ≤ 9223372036854775807 ∧ ∀ x ∈ l, Q x) := by
  intro H enc w base sp held fuel cs x hx
  obtain ⟨l, ⟨A, c, e1, hle, hC⟩, hq⟩ := opens_slice ht hc h e' enc w base sp held fuel cs x hx
  exact ⟨l, ⟨A, c, e1, hle, hC⟩, hC.2.1, hq⟩
/-- A struct's fields, one at a time. -/
theorem struct_get {fs : Array Field} {H : Type} {enc : TypeId × Value → H} {w : World} {base : Nat} {sp : Nat → Bool} {held : Bool} {fuel : Nat} {cs : List Value} {x : DataW H × List MemPlace}
    (ht : P.underlying t = some (.struct fs)) (h : DataW.trod enc P w base sp held fuel t cs = some x) :
    cs.length = P.cellsOf t ∧ ∃ n, ∀ (i : Nat) (f : Field), fs[i]? = some f → ∃ y, DataW.trod enc P w base sp held n f.type ((cs.drop f.offset).take (P.cellsOf f.type)) = some y := by
  obtain ⟨xs, n, _, _, hl, hx, hg⟩ := DataW.trod_struct ht h
  refine ⟨hl, n, fun i f hf => ?_⟩
  have hi : i < xs.length := by have := (Array.getElem?_eq_some_iff.1 hf).1; omega
  rw [hg i f hf, List.getElem?_eq_getElem hi]
  exact ⟨_, rfl⟩
theorem pair_K {α β : Type} {a : Kd α} {b : Kd β} {w : World} {x : α} {y : β} {cs : List Value} (h0 : a.K w x (cs.take a.sz)) (h1 : b.K w y (cs.drop a.sz)) : (Kd.pair a b).K w (x, y) cs :=
  ⟨_, _, (List.take_append_drop _ _).symm, h0, h1⟩
end Go.Proofs.YtokecnkjgoghhaaDoor.EOpen
end
section
/- Proved: whatever reads as a datum of a type stands in memory as the machine's data of that kind; for each make of type. No condition. -/
set_option linter.unusedVariables false
namespace Go.Proofs.YtokecnkjgoghhaaDoor.AbO
open Go Go.ChangeShapes Go.WideShapes Go.Proofs.YtokecnkjgoghhaaDoor.Ab Go.Proofs.YtokecnkjgoghhaaDoor.EOpen Go.Proofs.YtokecnkjgoghhaaDoorW.PrintWords

/-- All that stands. -/
def old (w : World) : Stb := fun b _ => b < w.heap.size

/-- What reads as a datum of type t is data of kind T, and Q holds of it. -/
def Op (P : Program) (t : TypeId) (T : Ty) (Q : T.den → Prop) : Prop :=
  ∀ {H : Type} (enc : TypeId × Value → H) (w : World) (base : Nat) (sp : Nat → Bool) (held : Bool) (fuel : Nat) (cs : List Value) (x : DataW H × List MemPlace),
    DataW.trod enc P w base sp held fuel t cs = some x → ∃ d : T.den, RelT w (old w) T cs d ∧ Q d

variable {P : Program} {t : TypeId}
theorem op_int {k : IntKind} (ht : P.underlying t = some (.int k)) : Op P t (.int k) (fun n => (Lit.int k n).wf = true) := by
  intro H enc w base sp held fuel cs x h
  obtain ⟨n, rfl, _, hw⟩ := DataW.trod_int ht h
  exact ⟨n, rfl, hw⟩
theorem op_bool (ht : P.underlying t = some .bool) : Op P t .bool (fun _ => True) := by
  intro H enc w base sp held fuel cs x h
  obtain ⟨b, rfl, _⟩ := DataW.trod_bool ht h
  exact ⟨b, rfl, trivial⟩
theorem op_string (ht : P.underlying t = some .string) : Op P t .str (fun s => s.size ≤ maxLen) := by
  intro H enc w base sp held fuel cs x h
  obtain ⟨s, rfl, _, hs⟩ := DataW.trod_string ht h
  exact ⟨s, rfl, hs⟩
theorem op_slice {e : TypeId} {T : Ty} {Q : T.den → Prop} (ht : P.underlying t = some (.slice e)) (hc : P.cellsOf e = T.w) (hpos : 0 < T.w) (h : Op P e T Q) :
    Op P t (.sl T) (fun l : List T.den => l.length ≤ maxLen ∧ ∀ x ∈ l, Q x) := by
  intro H enc w base sp held fuel cs x hx
  rcases DataW.trod_slice ht hx with ⟨rfl, _⟩ | ⟨a, len, cap, elems, rest, n, _, rfl, _, hb, hl, hm, hlen, hel, _, _⟩
  · exact ⟨[], ⟨_, rfl, .inl ⟨rfl, rfl⟩⟩, Nat.zero_le _, fun x hx => by cases hx⟩
  · obtain ⟨l, hll, hg⟩ := list_of (α := T.den) (fun i a' => Q a' ∧ ∃ c, w.cells? base (a.add (i * P.cellsOf e)) (P.cellsOf e) = some c ∧ RelT w (old w) T c a') len (fun i hi => by
      have h1 := hel i hi
      rw [List.getElem?_eq_getElem (by omega)] at h1
      obtain ⟨c, hc1, hc2⟩ := Option.bind_eq_some_iff.1 h1
      obtain ⟨a', hk, hq⟩ := h enc w base sp held n c _ hc2
      exact ⟨a', hq, c, hc1, hk⟩)
    obtain ⟨b, o, s⟩ := a
    have hspot : 0 < len → s = none := fun hpl => by
      obtain ⟨_, c, hc1, hk⟩ := hg 0 _ (List.getElem?_eq_getElem (by omega))
      obtain ⟨hl1, hg1⟩ := cells_get hc1
      have := RelT.length T _ _ hk
      have h0 := hg1 0 _ (List.getElem?_eq_getElem (by omega))
      rw [Nat.zero_mul] at h0
      simp only [Addr.add, if_true] at h0
      unfold World.cell? at h0
      split at h0
      · split at h0
        · cases h0
        · rename_i hs; simpa using hs
      · cases h0
    refine ⟨l, ⟨_, rfl, .inr ⟨b, o, s, cap, by rw [hll], by omega, fun i x hi => ?_⟩⟩, by omega, fun y hy => ?_⟩
    · have hi' := (List.getElem?_eq_some_iff.1 hi).1
      obtain rfl := hspot (by omega)
      obtain ⟨_, c, hc1, hk⟩ := hg i x hi
      rw [hc] at hc1
      obtain ⟨hl1, hg1⟩ := cells_get hc1
      refine ⟨rfl, c, hk, fun j v hj => ?_⟩
      have := hg1 j v hj
      rw [add_add, Addr.add_lit, show o + (i * T.w + j) = o + i * T.w + j by omega] at this
      exact ⟨World.block_lt_of_cell? w _ this, this⟩
    · obtain ⟨i, hi⟩ := List.getElem?_of_mem hy
      exact (hg i y hi).1

/-- A struct's kind, from its fields': 'l' are the fields' types and cells in their order. -/
theorem pair_T {w : World} {a b : Ty} {x : a.den} {y : b.den} {cs : List Value} (h0 : RelT w (old w) a (cs.take a.w) x) (h1 : RelT w (old w) b (cs.drop a.w) y) : RelT w (old w) (.pair a b) cs (x, y) :=
  ⟨_, _, (List.take_append_drop _ _).symm, h0, h1⟩

/-- From a parameter's reading to the machine's argument. -/
theorem arg_rel {H : Type} {enc : TypeId × Value → H} {w : World} {base : Nat} {sp : Nat → Bool} {held : Bool} {v : Value} {d : DataW H} {p : List MemPlace} {T : Ty} {Q : T.den → Prop} (hO : Op P t T Q) (hv : if T.agg then v = .agg v.cells else v.cells.toList = [v])
    (h : DataW.Trod enc P w base sp held t v d p) : ∃ x : T.den, RelA w (old w) noQ noBet v (inj T x) ∧ Q x := by
  obtain ⟨fuel, hf⟩ := h
  obtain ⟨x, hx, hq⟩ := hO enc w base sp held fuel _ _ hf
  exact ⟨x, rel_injA hx (by
    cases hT : T.agg with
    | true => rw [hT] at hv; simpa using hv
    | false => rw [hT] at hv; simpa using hv), hq⟩
end Go.Proofs.YtokecnkjgoghhaaDoor.AbO
end
