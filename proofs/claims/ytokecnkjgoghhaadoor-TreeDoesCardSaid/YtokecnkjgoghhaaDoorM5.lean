/- What each function comes to on data: printed equations. No condition. What some functions of the program and of the references come to, in plain words: which lists are light, the same. Conditions: lengths as they stand in each statement. What some functions of the program and of the references come to, in plain words: names, lines, paths, which steps may be. Conditions: lengths as they stand in each statement. What some functions of the program and of the references come to, in plain words: paths, and which steps may be. Conditions: lengths as they stand in each statement. The parts of a text  -/
import Derived.Test.YtokecnkjgoghhaaDoorM4
import Derived.Test.YtokecnkjgoghhaaDoorM3
import Derived.IntWalk
import Derived.Lib.ValidLaws
import Derived.Lib.RuneCountTail
import Derived.Laws.RangeAny
import Derived.Laws.RangeString
import Derived.Shelf.Strings.Split
import Derived.Shelf.Unicode.Decode
section
/- What each function comes to on data: printed equations. No condition. -/
set_option linter.unusedVariables false
set_option maxRecDepth 100000
namespace Go.Proofs.YtokecnkjgoghhaaDoor.Tb
open Go Go.Proofs.YtokecnkjgoghhaaDoor.Ab
noncomputable def td33_2 : List Item := (findT (code Tryd.f33) [] 2).getD []
noncomputable def l33_2 (x0 : List ByteArray) (x1 : Int) : Option (List RV) := cutW W0 n33 td33_2 { fr := [((0 : Nat), F.a (A.c (C.sl Ty.str x0))), ((3 : Nat), F.a (A.c (C.sc (Go.Value.int Go.IntKind.i64 x1))))], mem := [], nx := (0 : Nat) }
theorem e33 (a0 : List ByteArray) : callG W0 (callW W0) (cutW W0) 33 [inj (Ty.sl Ty.str) a0] = l33_2 a0 (0 : Int) := by kernel_rfl
theorem q33_2 (x0 : List ByteArray) (x1 : Int) : cutG W0 (callW W0) (cutW W0) n33 td33_2 { fr := [((0 : Nat), F.a (A.c (C.sl Ty.str x0))), ((3 : Nat), F.a (A.c (C.sc (Go.Value.int Go.IntKind.i64 x1))))], mem := [], nx := (0 : Nat) } = ifs (decide (x1 < (↑(List.length x0) : Int)) = true) (ifs ((0 : Int) ≤ x1) (Option.bind x0[Int.toNat x1]? fun r => ifs (decide ((↑(ByteArray.size r) : Int) > (300 : Int)) = true) (some (injRs [RT.d Ty.bool] false)) (l33_2 x0 (Go.IntKind.wrap Go.IntKind.i64 (x1 + (1 : Int))))) none) (some (injRs [RT.d Ty.bool] (decide ((↑(List.length x0) : Int) ≤ (60 : Int))))) := by kernel_rfl
noncomputable def td10_2 : List Item := (findT (code Tryd.f10) [] 2).getD []
noncomputable def l10_2 (x0 : List (Int × ByteArray × ByteArray × Int × List ByteArray × List ByteArray)) (x1 : Int) : Option (List RV) := cutW W0 n10 td10_2 { fr := [((0 : Nat), F.a (A.c (C.sl ty24 x0))), ((3 : Nat), F.a (A.c (C.sc (Go.Value.int Go.IntKind.i64 x1))))], mem := [], nx := (0 : Nat) }
theorem e10 (a0 : List (Int × ByteArray × ByteArray × Int × List ByteArray × List ByteArray)) : callG W0 (callW W0) (cutW W0) 10 [inj (Ty.sl ty24) a0] = l10_2 a0 (0 : Int) := by kernel_rfl
theorem q10_2 (x0 : List (Int × ByteArray × ByteArray × Int × List ByteArray × List ByteArray)) (x1 : Int) : cutG W0 (callW W0) (cutW W0) n10 td10_2 { fr := [((0 : Nat), F.a (A.c (C.sl ty24 x0))), ((3 : Nat), F.a (A.c (C.sc (Go.Value.int Go.IntKind.i64 x1))))], mem := [], nx := (0 : Nat) } = ifs (decide (x1 < (↑(List.length x0) : Int)) = true) (ifs ((0 : Int) ≤ x1) (Option.bind x0[Int.toNat x1]? fun r => ifs (decide ((↑(ByteArray.size r.snd.fst) : Int) > (300 : Int)) = false) (ifs ((0 : Int) ≤ x1) (Option.bind x0[Int.toNat x1]? fun r => ifs (decide ((↑(ByteArray.size r.snd.snd.fst) : Int) > (300 : Int)) = false) (ifs ((0 : Int) ≤ x1) (Option.bind x0[Int.toNat x1]? fun r => Option.bind (cR (nat_lit 33) [RT.d Ty.bool] [inj (Ty.sl Ty.str) r.snd.snd.snd.snd.fst]) fun r => ifs ((!r) = false) (ifs ((0 : Int) ≤ x1) (Option.bind x0[Int.toNat x1]? fun r => Option.bind (cR (nat_lit 33) [RT.d Ty.bool] [inj (Ty.sl Ty.str) r.snd.snd.snd.snd.snd]) fun r => ifs ((!r) = true) (some (injRs [RT.d Ty.bool] false)) (l10_2 x0 (Go.IntKind.wrap Go.IntKind.i64 (x1 + (1 : Int))))) none) (some (injRs [RT.d Ty.bool] false))) none) (some (injRs [RT.d Ty.bool] false))) none) (some (injRs [RT.d Ty.bool] false))) none) (some (injRs [RT.d Ty.bool] (decide ((↑(List.length x0) : Int) ≤ (40 : Int))))) := by kernel_rfl
noncomputable def td14_2 : List Item := (findT (code Tryd.f14) [] 2).getD []
noncomputable def l14_2 (x0 : List (Int × ByteArray × ByteArray × Int × List ByteArray × List ByteArray)) (x1 : Int) : Option (List RV) := cutW W0 n14 td14_2 { fr := [((0 : Nat), F.a (A.c (C.sl ty24 x0))), ((3 : Nat), F.a (A.c (C.sc (Go.Value.int Go.IntKind.i64 x1))))], mem := [], nx := (0 : Nat) }
theorem e14 (a0 : List (Int × ByteArray × ByteArray × Int × List ByteArray × List ByteArray)) : callG W0 (callW W0) (cutW W0) 14 [inj (Ty.sl ty24) a0] = l14_2 a0 (0 : Int) := by kernel_rfl
theorem q14_2 (x0 : List (Int × ByteArray × ByteArray × Int × List ByteArray × List ByteArray)) (x1 : Int) : cutG W0 (callW W0) (cutW W0) n14 td14_2 { fr := [((0 : Nat), F.a (A.c (C.sl ty24 x0))), ((3 : Nat), F.a (A.c (C.sc (Go.Value.int Go.IntKind.i64 x1))))], mem := [], nx := (0 : Nat) } = ifs (decide (x1 < (↑(List.length x0) : Int)) = true) (ifs ((0 : Int) ≤ x1) (Option.bind x0[Int.toNat x1]? fun r => ifs (decide (r.snd.snd.snd.fst > (1099511627776 : Int)) = true) (some (injRs [RT.d Ty.bool] false)) (l14_2 x0 (Go.IntKind.wrap Go.IntKind.i64 (x1 + (1 : Int))))) none) (Option.bind (cR (nat_lit 10) [RT.d Ty.bool] [inj (Ty.sl ty24) x0]) fun r => some (injRs [RT.d Ty.bool] r)) := by kernel_rfl
noncomputable def td42_4 : List Item := (findT (code Tryd.f42) [] 4).getD []
noncomputable def l42_4 (x0 : List ByteArray) (x1 : List ByteArray) (x2 : Int) : Option (List RV) := cutW W0 n42 td42_4 { fr := [((0 : Nat), F.a (A.c (C.sl Ty.str x0))), ((1 : Nat), F.a (A.c (C.sl Ty.str x1))), ((5 : Nat), F.a (A.c (C.sc (Go.Value.int Go.IntKind.i64 x2))))], mem := [], nx := (0 : Nat) }
theorem e42 (a0 : List ByteArray) (a1 : List ByteArray) : callG W0 (callW W0) (cutW W0) 42 [inj (Ty.sl Ty.str) a0, inj (Ty.sl Ty.str) a1] = ifs (((↑(List.length a0) : Int) != (↑(List.length a1) : Int)) = true) (some (injRs [RT.d Ty.bool] false)) (l42_4 a0 a1 (0 : Int)) := by kernel_rfl
theorem q42_4 (x0 : List ByteArray) (x1 : List ByteArray) (x2 : Int) : cutG W0 (callW W0) (cutW W0) n42 td42_4 { fr := [((0 : Nat), F.a (A.c (C.sl Ty.str x0))), ((1 : Nat), F.a (A.c (C.sl Ty.str x1))), ((5 : Nat), F.a (A.c (C.sc (Go.Value.int Go.IntKind.i64 x2))))], mem := [], nx := (0 : Nat) } = ifs (decide (x2 < (↑(List.length x0) : Int)) = true) (ifs ((0 : Int) ≤ x2) (Option.bind x0[Int.toNat x2]? fun r => ifs ((0 : Int) ≤ x2) (Option.bind x1[Int.toNat x2]? fun r_1 => ifs ((!ByteArray.toList r == ByteArray.toList r_1) = true) (some (injRs [RT.d Ty.bool] false)) (l42_4 x0 x1 (Go.IntKind.wrap Go.IntKind.i64 (x2 + (1 : Int))))) none) none) (some (injRs [RT.d Ty.bool] true)) := by kernel_rfl
noncomputable def td13_4 : List Item := (findT (code Tryd.f13) [] 4).getD []
noncomputable def l13_4 (x0 : List (Int × ByteArray × ByteArray × Int × List ByteArray × List ByteArray)) (x1 : List (Int × ByteArray × ByteArray × Int × List ByteArray × List ByteArray)) (x2 : Int) : Option (List RV) := cutW W0 n13 td13_4 { fr := [((0 : Nat), F.a (A.c (C.sl ty24 x0))), ((1 : Nat), F.a (A.c (C.sl ty24 x1))), ((5 : Nat), F.a (A.c (C.sc (Go.Value.int Go.IntKind.i64 x2))))], mem := [], nx := (0 : Nat) }
theorem e13 (a0 : List (Int × ByteArray × ByteArray × Int × List ByteArray × List ByteArray)) (a1 : List (Int × ByteArray × ByteArray × Int × List ByteArray × List ByteArray)) : callG W0 (callW W0) (cutW W0) 13 [inj (Ty.sl ty24) a0, inj (Ty.sl ty24) a1] = ifs (((↑(List.length a0) : Int) != (↑(List.length a1) : Int)) = true) (some (injRs [RT.d Ty.bool] false)) (l13_4 a0 a1 (0 : Int)) := by kernel_rfl
theorem q13_4 (x0 : List (Int × ByteArray × ByteArray × Int × List ByteArray × List ByteArray)) (x1 : List (Int × ByteArray × ByteArray × Int × List ByteArray × List ByteArray)) (x2 : Int) : cutG W0 (callW W0) (cutW W0) n13 td13_4 { fr := [((0 : Nat), F.a (A.c (C.sl ty24 x0))), ((1 : Nat), F.a (A.c (C.sl ty24 x1))), ((5 : Nat), F.a (A.c (C.sc (Go.Value.int Go.IntKind.i64 x2))))], mem := [], nx := (0 : Nat) } = ifs (decide (x2 < (↑(List.length x0) : Int)) = true) (ifs ((0 : Int) ≤ x2) (Option.bind x0[Int.toNat x2]? fun r => ifs ((0 : Int) ≤ x2) (Option.bind x1[Int.toNat x2]? fun r_1 => ifs ((r.fst != r_1.fst) = false) (ifs ((0 : Int) ≤ x2) (Option.bind x0[Int.toNat x2]? fun r => ifs ((0 : Int) ≤ x2) (Option.bind x1[Int.toNat x2]? fun r_2 => ifs ((!ByteArray.toList r.snd.fst == ByteArray.toList r_2.snd.fst) = false) (ifs ((0 : Int) ≤ x2) (Option.bind x0[Int.toNat x2]? fun r => ifs ((0 : Int) ≤ x2) (Option.bind x1[Int.toNat x2]? fun r_3 => ifs ((!ByteArray.toList r.snd.snd.fst == ByteArray.toList r_3.snd.snd.fst) = false) (ifs ((0 : Int) ≤ x2) (Option.bind x0[Int.toNat x2]? fun r => ifs ((0 : Int) ≤ x2) (Option.bind x1[Int.toNat x2]? fun r_4 => ifs ((r.snd.snd.snd.fst != r_4.snd.snd.snd.fst) = false) (ifs ((0 : Int) ≤ x2) (Option.bind x0[Int.toNat x2]? fun r => ifs ((0 : Int) ≤ x2) (Option.bind x1[Int.toNat x2]? fun r_5 => Option.bind (cR (nat_lit 42) [RT.d Ty.bool] [inj (Ty.sl Ty.str) r.snd.snd.snd.snd.fst, inj (Ty.sl Ty.str) r_5.snd.snd.snd.snd.fst]) fun r => ifs ((!r) = false) (ifs ((0 : Int) ≤ x2) (Option.bind x0[Int.toNat x2]? fun r => ifs ((0 : Int) ≤ x2) (Option.bind x1[Int.toNat x2]? fun r_6 => Option.bind (cR (nat_lit 42) [RT.d Ty.bool] [inj (Ty.sl Ty.str) r.snd.snd.snd.snd.snd, inj (Ty.sl Ty.str) r_6.snd.snd.snd.snd.snd]) fun r => ifs ((!r) = true) (some (injRs [RT.d Ty.bool] false)) (l13_4 x0 x1 (Go.IntKind.wrap Go.IntKind.i64 (x2 + (1 : Int))))) none) none) (some (injRs [RT.d Ty.bool] false))) none) none) (some (injRs [RT.d Ty.bool] false))) none) none) (some (injRs [RT.d Ty.bool] false))) none) none) (some (injRs [RT.d Ty.bool] false))) none) none) (some (injRs [RT.d Ty.bool] false))) none) none) (some (injRs [RT.d Ty.bool] true)) := by kernel_rfl
noncomputable def td115_4 : List Item := (findT (code Tryd.f115) [] 4).getD []
noncomputable def l115_4 (x0 : List ByteArray) (x1 : List ByteArray) (x2 : Int) (x3 : Int) : Option (List RV) := cutW W0 n115 td115_4 { fr := [((0 : Nat), F.a (A.c (C.sl Ty.str x0))), ((1 : Nat), F.a (A.c (C.sl Ty.str x1))), ((12 : Nat), F.a (A.c (C.sc (Go.Value.int Go.IntKind.i64 x2)))), ((13 : Nat), F.a (A.c (C.sc (Go.Value.int Go.IntKind.i64 x3))))], mem := [], nx := (0 : Nat) }
theorem e115 (a0 : List ByteArray) (a1 : List ByteArray) : callG W0 (callW W0) (cutW W0) 115 [inj (Ty.sl Ty.str) a0, inj (Ty.sl Ty.str) a1] = ifs (((↑(List.length a0) : Int) != (↑(List.length a1) : Int)) = true) (some (injRs [RT.d Ty.bool] false)) (l115_4 a0 a1 (↑(List.length a0) : Int) (0 : Int)) := by kernel_rfl
theorem q115_4 (x0 : List ByteArray) (x1 : List ByteArray) (x2 : Int) (x3 : Int) : cutG W0 (callW W0) (cutW W0) n115 td115_4 { fr := [((0 : Nat), F.a (A.c (C.sl Ty.str x0))), ((1 : Nat), F.a (A.c (C.sl Ty.str x1))), ((12 : Nat), F.a (A.c (C.sc (Go.Value.int Go.IntKind.i64 x2)))), ((13 : Nat), F.a (A.c (C.sc (Go.Value.int Go.IntKind.i64 x3))))], mem := [], nx := (0 : Nat) } = ifs (decide (x3 < x2) = true) (ifs ((0 : Int) ≤ x3) (Option.bind x0[Int.toNat x3]? fun r => ifs ((0 : Int) ≤ x3) (Option.bind x1[Int.toNat x3]? fun r_1 => ifs ((!ByteArray.toList r == ByteArray.toList r_1) = true) (some (injRs [RT.d Ty.bool] false)) (l115_4 x0 x1 x2 (Go.IntKind.wrap Go.IntKind.i64 (x3 + (1 : Int))))) none) none) (some (injRs [RT.d Ty.bool] true)) := by kernel_rfl
theorem e66 (a0 : List ByteArray) (a1 : List ByteArray) : callG W0 (callW W0) (cutW W0) 66 [inj (Ty.sl Ty.str) a0, inj (Ty.sl Ty.str) a1] = Option.bind (cR (nat_lit 115) [RT.d Ty.bool] [inj (Ty.sl Ty.str) a0, inj (Ty.sl Ty.str) a1]) fun r => some (injRs [RT.d Ty.bool] r) := by kernel_rfl
theorem e156 (a0 : ByteArray) : callG W0 (callW W0) (cutW W0) 156 [inj Ty.str a0] = Option.bind (cR (nat_lit 157) [RT.d Ty.bool] [inj Ty.str a0]) fun r => some (injRs [RT.d Ty.bool] !r) := by kernel_rfl
theorem e130 (a0 : ByteArray) : callG W0 (callW W0) (cutW W0) 130 [inj Ty.str a0] = Option.bind (cR (nat_lit 131) [RT.d Ty.bool] [inj Ty.str a0]) fun r => some (injRs [RT.d Ty.bool] !r) := by kernel_rfl
noncomputable def td155a_2 : List Item := (findT (code Tryd.f155) [] 2).getD []
noncomputable def l155a_2 (x0 : List ByteArray) (x1 : Int) (x2 : Int) : Option (List RV) := cutW W0 n155 td155a_2 { fr := [((0 : Nat), F.a (A.c (C.sl Ty.str x0))), ((1 : Nat), F.a (A.c (C.cl (156 : Nat) []))), ((7 : Nat), F.a (A.c (C.sc (Go.Value.int Go.IntKind.i64 x1)))), ((8 : Nat), F.a (A.c (C.sc (Go.Value.int Go.IntKind.i64 x2))))], mem := [], nx := (0 : Nat) }
theorem e155a (a0 : List ByteArray) : callG W0 (callW W0) (cutW W0) 155 [inj (Ty.sl Ty.str) a0, A.c (C.cl (156 : Nat) [])] = l155a_2 a0 (↑(List.length a0) : Int) (0 : Int) := by kernel_rfl
theorem q155a_2 (x0 : List ByteArray) (x1 : Int) (x2 : Int) : cutG W0 (callW W0) (cutW W0) n155 td155a_2 { fr := [((0 : Nat), F.a (A.c (C.sl Ty.str x0))), ((1 : Nat), F.a (A.c (C.cl (156 : Nat) []))), ((7 : Nat), F.a (A.c (C.sc (Go.Value.int Go.IntKind.i64 x1)))), ((8 : Nat), F.a (A.c (C.sc (Go.Value.int Go.IntKind.i64 x2))))], mem := [], nx := (0 : Nat) } = ifs (decide (x2 < x1) = true) (ifs ((0 : Int) ≤ x2) (Option.bind x0[Int.toNat x2]? fun r => Option.bind (cR (nat_lit 156) [RT.d Ty.bool] [inj Ty.str r]) fun r => ifs (r = true) (some (injRs [RT.d (Ty.int Go.IntKind.i64)] x2)) (l155a_2 x0 x1 (Go.IntKind.wrap Go.IntKind.i64 (x2 + (1 : Int))))) none) (some (injRs [RT.d (Ty.int Go.IntKind.i64)] (-1 : Int))) := by kernel_rfl
theorem e109a (a0 : List ByteArray) : callG W0 (callW W0) (cutW W0) 109 [inj (Ty.sl Ty.str) a0, A.c (C.cl (156 : Nat) [])] = Option.bind (cR (nat_lit 155) [RT.d (Ty.int Go.IntKind.i64)] [inj (Ty.sl Ty.str) a0, A.c (C.cl (156 : Nat) [])]) fun r => some (injRs [RT.d Ty.bool] (decide (r ≥ (0 : Int)))) := by kernel_rfl
noncomputable def td155b_2 : List Item := (findT (code Tryd.f155) [] 2).getD []
noncomputable def l155b_2 (x0 : List ByteArray) (x1 : Int) (x2 : Int) : Option (List RV) := cutW W0 n155 td155b_2 { fr := [((0 : Nat), F.a (A.c (C.sl Ty.str x0))), ((1 : Nat), F.a (A.c (C.cl (130 : Nat) []))), ((7 : Nat), F.a (A.c (C.sc (Go.Value.int Go.IntKind.i64 x1)))), ((8 : Nat), F.a (A.c (C.sc (Go.Value.int Go.IntKind.i64 x2))))], mem := [], nx := (0 : Nat) }
theorem e155b (a0 : List ByteArray) : callG W0 (callW W0) (cutW W0) 155 [inj (Ty.sl Ty.str) a0, A.c (C.cl (130 : Nat) [])] = l155b_2 a0 (↑(List.length a0) : Int) (0 : Int) := by kernel_rfl
theorem q155b_2 (x0 : List ByteArray) (x1 : Int) (x2 : Int) : cutG W0 (callW W0) (cutW W0) n155 td155b_2 { fr := [((0 : Nat), F.a (A.c (C.sl Ty.str x0))), ((1 : Nat), F.a (A.c (C.cl (130 : Nat) []))), ((7 : Nat), F.a (A.c (C.sc (Go.Value.int Go.IntKind.i64 x1)))), ((8 : Nat), F.a (A.c (C.sc (Go.Value.int Go.IntKind.i64 x2))))], mem := [], nx := (0 : Nat) } = ifs (decide (x2 < x1) = true) (ifs ((0 : Int) ≤ x2) (Option.bind x0[Int.toNat x2]? fun r => Option.bind (cR (nat_lit 130) [RT.d Ty.bool] [inj Ty.str r]) fun r => ifs (r = true) (some (injRs [RT.d (Ty.int Go.IntKind.i64)] x2)) (l155b_2 x0 x1 (Go.IntKind.wrap Go.IntKind.i64 (x2 + (1 : Int))))) none) (some (injRs [RT.d (Ty.int Go.IntKind.i64)] (-1 : Int))) := by kernel_rfl
theorem e109b (a0 : List ByteArray) : callG W0 (callW W0) (cutW W0) 109 [inj (Ty.sl Ty.str) a0, A.c (C.cl (130 : Nat) [])] = Option.bind (cR (nat_lit 155) [RT.d (Ty.int Go.IntKind.i64)] [inj (Ty.sl Ty.str) a0, A.c (C.cl (130 : Nat) [])]) fun r => some (injRs [RT.d Ty.bool] (decide (r ≥ (0 : Int)))) := by kernel_rfl
theorem e82 (a0 : ByteArray) : callG W0 (callW W0) (cutW W0) 82 [inj Ty.str a0] = Option.bind (cR (nat_lit 129) [RT.own (9 : Go.TypeId) Ty.str] [inj Ty.str a0, inj Ty.str { data := #[(47 : UInt8)] }]) fun r => ifs (decide ((↑(ByteArray.size a0) : Int) ≤ (200 : Int)) = true) (ifs (decide ((↑(List.length r) : Int) ≤ (16 : Int)) = true) (Option.bind (cR (nat_lit 109) [RT.d Ty.bool] [inj (Ty.sl Ty.str) (List.take (List.length r) r), A.c (C.cl (130 : Nat) [])]) fun r => some (injRs [RT.d Ty.bool] !r)) (some (injRs [RT.d Ty.bool] false))) (some (injRs [RT.d Ty.bool] false)) := by kernel_rfl
theorem e111 (a0 : List ByteArray) : callG W0 (callW W0) (cutW W0) 111 [inj (Ty.sl Ty.str) a0] = ifs (decide ((↑(List.length a0) : Int) > (2000 : Int)) = true) (some (injRs [RT.d (Ty.int Go.IntKind.i64)] (4 : Int))) (Option.bind (cR (nat_lit 109) [RT.d Ty.bool] [inj (Ty.sl Ty.str) a0, A.c (C.cl (156 : Nat) [])]) fun r => ifs (r = true) (some (injRs [RT.d (Ty.int Go.IntKind.i64)] (6 : Int))) (some (injRs [RT.d (Ty.int Go.IntKind.i64)] (0 : Int)))) := by kernel_rfl
theorem e61 (a0 : Int × ByteArray × ByteArray × Int × List ByteArray × List ByteArray) : callG W0 (callW W0) (cutW W0) 61 [inj ty24 a0] = ifs ((a0.snd.snd.snd.fst == (0 : Int)) = true) (ifs (decide (a0.fst < (1 : Int)) = false) (ifs (decide (a0.fst > (6 : Int)) = false) (ifs ((a0.fst != (5 : Int)) = true) (ifs ((!ByteArray.toList a0.snd.snd.fst == ByteArray.toList { data := #[] }) = false) (ifs ((a0.fst != (6 : Int)) = true) (ifs ((!Go.IntKind.wrap Go.IntKind.i64 ((↑(List.length a0.snd.snd.snd.snd.fst) : Int) + (↑(List.length a0.snd.snd.snd.snd.snd) : Int)) == (0 : Int)) = true) (some (injRs [RT.d (Ty.int Go.IntKind.i64)] (2 : Int))) (Option.bind (cR (nat_lit 82) [RT.d Ty.bool] [inj Ty.str a0.snd.fst]) fun r => ifs ((!r) = false) (ifs ((a0.fst == (5 : Int)) = true) (Option.bind (cR (nat_lit 82) [RT.d Ty.bool] [inj Ty.str a0.snd.snd.fst]) fun r => ifs ((!r) = false) (ifs ((ByteArray.toList a0.snd.snd.fst == ByteArray.toList a0.snd.fst) = true) (some (injRs [RT.d (Ty.int Go.IntKind.i64)] (8 : Int))) (ifs ((a0.fst == (6 : Int)) = true) (ifs (decide (a0.snd.snd.snd.fst < (0 : Int)) = false) (ifs ((Go.IntKind.wrap Go.IntKind.i64 ((↑(List.length a0.snd.snd.snd.snd.fst) : Int) + (↑(List.length a0.snd.snd.snd.snd.snd) : Int)) == (0 : Int)) = false) (Option.bind (cR (nat_lit 111) [RT.d (Ty.int Go.IntKind.i64)] [inj (Ty.sl Ty.str) a0.snd.snd.snd.snd.fst]) fun r => ifs ((r != (0 : Int)) = false) (Option.bind (cR (nat_lit 111) [RT.d (Ty.int Go.IntKind.i64)] [inj (Ty.sl Ty.str) a0.snd.snd.snd.snd.snd]) fun r => ifs ((r != (0 : Int)) = true) (some (injRs [RT.d (Ty.int Go.IntKind.i64)] (6 : Int))) (some (injRs [RT.d (Ty.int Go.IntKind.i64)] (0 : Int)))) (some (injRs [RT.d (Ty.int Go.IntKind.i64)] (6 : Int)))) (some (injRs [RT.d (Ty.int Go.IntKind.i64)] (6 : Int)))) (some (injRs [RT.d (Ty.int Go.IntKind.i64)] (6 : Int)))) (some (injRs [RT.d (Ty.int Go.IntKind.i64)] (0 : Int))))) (some (injRs [RT.d (Ty.int Go.IntKind.i64)] (8 : Int)))) (ifs ((a0.fst == (6 : Int)) = true) (ifs (decide (a0.snd.snd.snd.fst < (0 : Int)) = false) (ifs ((Go.IntKind.wrap Go.IntKind.i64 ((↑(List.length a0.snd.snd.snd.snd.fst) : Int) + (↑(List.length a0.snd.snd.snd.snd.snd) : Int)) == (0 : Int)) = false) (Option.bind (cR (nat_lit 111) [RT.d (Ty.int Go.IntKind.i64)] [inj (Ty.sl Ty.str) a0.snd.snd.snd.snd.fst]) fun r => ifs ((r != (0 : Int)) = false) (Option.bind (cR (nat_lit 111) [RT.d (Ty.int Go.IntKind.i64)] [inj (Ty.sl Ty.str) a0.snd.snd.snd.snd.snd]) fun r => ifs ((r != (0 : Int)) = true) (some (injRs [RT.d (Ty.int Go.IntKind.i64)] (6 : Int))) (some (injRs [RT.d (Ty.int Go.IntKind.i64)] (0 : Int)))) (some (injRs [RT.d (Ty.int Go.IntKind.i64)] (6 : Int)))) (some (injRs [RT.d (Ty.int Go.IntKind.i64)] (6 : Int)))) (some (injRs [RT.d (Ty.int Go.IntKind.i64)] (6 : Int)))) (some (injRs [RT.d (Ty.int Go.IntKind.i64)] (0 : Int))))) (some (injRs [RT.d (Ty.int Go.IntKind.i64)] (8 : Int))))) (Option.bind (cR (nat_lit 82) [RT.d Ty.bool] [inj Ty.str a0.snd.fst]) fun r => ifs ((!r) = false) (ifs ((a0.fst == (5 : Int)) = true) (Option.bind (cR (nat_lit 82) [RT.d Ty.bool] [inj Ty.str a0.snd.snd.fst]) fun r => ifs ((!r) = false) (ifs ((ByteArray.toList a0.snd.snd.fst == ByteArray.toList a0.snd.fst) = true) (some (injRs [RT.d (Ty.int Go.IntKind.i64)] (8 : Int))) (ifs ((a0.fst == (6 : Int)) = true) (ifs (decide (a0.snd.snd.snd.fst < (0 : Int)) = false) (ifs ((Go.IntKind.wrap Go.IntKind.i64 ((↑(List.length a0.snd.snd.snd.snd.fst) : Int) + (↑(List.length a0.snd.snd.snd.snd.snd) : Int)) == (0 : Int)) = false) (Option.bind (cR (nat_lit 111) [RT.d (Ty.int Go.IntKind.i64)] [inj (Ty.sl Ty.str) a0.snd.snd.snd.snd.fst]) fun r => ifs ((r != (0 : Int)) = false) (Option.bind (cR (nat_lit 111) [RT.d (Ty.int Go.IntKind.i64)] [inj (Ty.sl Ty.str) a0.snd.snd.snd.snd.snd]) fun r => ifs ((r != (0 : Int)) = true) (some (injRs [RT.d (Ty.int Go.IntKind.i64)] (6 : Int))) (some (injRs [RT.d (Ty.int Go.IntKind.i64)] (0 : Int)))) (some (injRs [RT.d (Ty.int Go.IntKind.i64)] (6 : Int)))) (some (injRs [RT.d (Ty.int Go.IntKind.i64)] (6 : Int)))) (some (injRs [RT.d (Ty.int Go.IntKind.i64)] (6 : Int)))) (some (injRs [RT.d (Ty.int Go.IntKind.i64)] (0 : Int))))) (some (injRs [RT.d (Ty.int Go.IntKind.i64)] (8 : Int)))) (ifs ((a0.fst == (6 : Int)) = true) (ifs (decide (a0.snd.snd.snd.fst < (0 : Int)) = false) (ifs ((Go.IntKind.wrap Go.IntKind.i64 ((↑(List.length a0.snd.snd.snd.snd.fst) : Int) + (↑(List.length a0.snd.snd.snd.snd.snd) : Int)) == (0 : Int)) = false) (Option.bind (cR (nat_lit 111) [RT.d (Ty.int Go.IntKind.i64)] [inj (Ty.sl Ty.str) a0.snd.snd.snd.snd.fst]) fun r => ifs ((r != (0 : Int)) = false) (Option.bind (cR (nat_lit 111) [RT.d (Ty.int Go.IntKind.i64)] [inj (Ty.sl Ty.str) a0.snd.snd.snd.snd.snd]) fun r => ifs ((r != (0 : Int)) = true) (some (injRs [RT.d (Ty.int Go.IntKind.i64)] (6 : Int))) (some (injRs [RT.d (Ty.int Go.IntKind.i64)] (0 : Int)))) (some (injRs [RT.d (Ty.int Go.IntKind.i64)] (6 : Int)))) (some (injRs [RT.d (Ty.int Go.IntKind.i64)] (6 : Int)))) (some (injRs [RT.d (Ty.int Go.IntKind.i64)] (6 : Int)))) (some (injRs [RT.d (Ty.int Go.IntKind.i64)] (0 : Int))))) (some (injRs [RT.d (Ty.int Go.IntKind.i64)] (8 : Int))))) (some (injRs [RT.d (Ty.int Go.IntKind.i64)] (2 : Int)))) (ifs ((a0.fst != (6 : Int)) = true) (ifs ((!Go.IntKind.wrap Go.IntKind.i64 ((↑(List.length a0.snd.snd.snd.snd.fst) : Int) + (↑(List.length a0.snd.snd.snd.snd.snd) : Int)) == (0 : Int)) = true) (some (injRs [RT.d (Ty.int Go.IntKind.i64)] (2 : Int))) (Option.bind (cR (nat_lit 82) [RT.d Ty.bool] [inj Ty.str a0.snd.fst]) fun r => ifs ((!r) = false) (ifs ((a0.fst == (5 : Int)) = true) (Option.bind (cR (nat_lit 82) [RT.d Ty.bool] [inj Ty.str a0.snd.snd.fst]) fun r => ifs ((!r) = false) (ifs ((ByteArray.toList a0.snd.snd.fst == ByteArray.toList a0.snd.fst) = true) (some (injRs [RT.d (Ty.int Go.IntKind.i64)] (8 : Int))) (ifs ((a0.fst == (6 : Int)) = true) (ifs (decide (a0.snd.snd.snd.fst < (0 : Int)) = false) (ifs ((Go.IntKind.wrap Go.IntKind.i64 ((↑(List.length a0.snd.snd.snd.snd.fst) : Int) + (↑(List.length a0.snd.snd.snd.snd.snd) : Int)) == (0 : Int)) = false) (Option.bind (cR (nat_lit 111) [RT.d (Ty.int Go.IntKind.i64)] [inj (Ty.sl Ty.str) a0.snd.snd.snd.snd.fst]) fun r => ifs ((r != (0 : Int)) = false) (Option.bind (cR (nat_lit 111) [RT.d (Ty.int Go.IntKind.i64)] [inj (Ty.sl Ty.str) a0.snd.snd.snd.snd.snd]) fun r => ifs ((r != (0 : Int)) = true) (some (injRs [RT.d (Ty.int Go.IntKind.i64)] (6 : Int))) (some (injRs [RT.d (Ty.int Go.IntKind.i64)] (0 : Int)))) (some (injRs [RT.d (Ty.int Go.IntKind.i64)] (6 : Int)))) (some (injRs [RT.d (Ty.int Go.IntKind.i64)] (6 : Int)))) (some (injRs [RT.d (Ty.int Go.IntKind.i64)] (6 : Int)))) (some (injRs [RT.d (Ty.int Go.IntKind.i64)] (0 : Int))))) (some (injRs [RT.d (Ty.int Go.IntKind.i64)] (8 : Int)))) (ifs ((a0.fst == (6 : Int)) = true) (ifs (decide (a0.snd.snd.snd.fst < (0 : Int)) = false) (ifs ((Go.IntKind.wrap Go.IntKind.i64 ((↑(List.length a0.snd.snd.snd.snd.fst) : Int) + (↑(List.length a0.snd.snd.snd.snd.snd) : Int)) == (0 : Int)) = false) (Option.bind (cR (nat_lit 111) [RT.d (Ty.int Go.IntKind.i64)] [inj (Ty.sl Ty.str) a0.snd.snd.snd.snd.fst]) fun r => ifs ((r != (0 : Int)) = false) (Option.bind (cR (nat_lit 111) [RT.d (Ty.int Go.IntKind.i64)] [inj (Ty.sl Ty.str) a0.snd.snd.snd.snd.snd]) fun r => ifs ((r != (0 : Int)) = true) (some (injRs [RT.d (Ty.int Go.IntKind.i64)] (6 : Int))) (some (injRs [RT.d (Ty.int Go.IntKind.i64)] (0 : Int)))) (some (injRs [RT.d (Ty.int Go.IntKind.i64)] (6 : Int)))) (some (injRs [RT.d (Ty.int Go.IntKind.i64)] (6 : Int)))) (some (injRs [RT.d (Ty.int Go.IntKind.i64)] (6 : Int)))) (some (injRs [RT.d (Ty.int Go.IntKind.i64)] (0 : Int))))) (some (injRs [RT.d (Ty.int Go.IntKind.i64)] (8 : Int))))) (Option.bind (cR (nat_lit 82) [RT.d Ty.bool] [inj Ty.str a0.snd.fst]) fun r => ifs ((!r) = false) (ifs ((a0.fst == (5 : Int)) = true) (Option.bind (cR (nat_lit 82) [RT.d Ty.bool] [inj Ty.str a0.snd.snd.fst]) fun r => ifs ((!r) = false) (ifs ((ByteArray.toList a0.snd.snd.fst == ByteArray.toList a0.snd.fst) = true) (some (injRs [RT.d (Ty.int Go.IntKind.i64)] (8 : Int))) (ifs ((a0.fst == (6 : Int)) = true) (ifs (decide (a0.snd.snd.snd.fst < (0 : Int)) = false) (ifs ((Go.IntKind.wrap Go.IntKind.i64 ((↑(List.length a0.snd.snd.snd.snd.fst) : Int) + (↑(List.length a0.snd.snd.snd.snd.snd) : Int)) == (0 : Int)) = false) (Option.bind (cR (nat_lit 111) [RT.d (Ty.int Go.IntKind.i64)] [inj (Ty.sl Ty.str) a0.snd.snd.snd.snd.fst]) fun r => ifs ((r != (0 : Int)) = false) (Option.bind (cR (nat_lit 111) [RT.d (Ty.int Go.IntKind.i64)] [inj (Ty.sl Ty.str) a0.snd.snd.snd.snd.snd]) fun r => ifs ((r != (0 : Int)) = true) (some (injRs [RT.d (Ty.int Go.IntKind.i64)] (6 : Int))) (some (injRs [RT.d (Ty.int Go.IntKind.i64)] (0 : Int)))) (some (injRs [RT.d (Ty.int Go.IntKind.i64)] (6 : Int)))) (some (injRs [RT.d (Ty.int Go.IntKind.i64)] (6 : Int)))) (some (injRs [RT.d (Ty.int Go.IntKind.i64)] (6 : Int)))) (some (injRs [RT.d (Ty.int Go.IntKind.i64)] (0 : Int))))) (some (injRs [RT.d (Ty.int Go.IntKind.i64)] (8 : Int)))) (ifs ((a0.fst == (6 : Int)) = true) (ifs (decide (a0.snd.snd.snd.fst < (0 : Int)) = false) (ifs ((Go.IntKind.wrap Go.IntKind.i64 ((↑(List.length a0.snd.snd.snd.snd.fst) : Int) + (↑(List.length a0.snd.snd.snd.snd.snd) : Int)) == (0 : Int)) = false) (Option.bind (cR (nat_lit 111) [RT.d (Ty.int Go.IntKind.i64)] [inj (Ty.sl Ty.str) a0.snd.snd.snd.snd.fst]) fun r => ifs ((r != (0 : Int)) = false) (Option.bind (cR (nat_lit 111) [RT.d (Ty.int Go.IntKind.i64)] [inj (Ty.sl Ty.str) a0.snd.snd.snd.snd.snd]) fun r => ifs ((r != (0 : Int)) = true) (some (injRs [RT.d (Ty.int Go.IntKind.i64)] (6 : Int))) (some (injRs [RT.d (Ty.int Go.IntKind.i64)] (0 : Int)))) (some (injRs [RT.d (Ty.int Go.IntKind.i64)] (6 : Int)))) (some (injRs [RT.d (Ty.int Go.IntKind.i64)] (6 : Int)))) (some (injRs [RT.d (Ty.int Go.IntKind.i64)] (6 : Int)))) (some (injRs [RT.d (Ty.int Go.IntKind.i64)] (0 : Int))))) (some (injRs [RT.d (Ty.int Go.IntKind.i64)] (8 : Int)))))) (some (injRs [RT.d (Ty.int Go.IntKind.i64)] (2 : Int)))) (some (injRs [RT.d (Ty.int Go.IntKind.i64)] (2 : Int)))) (ifs (decide (a0.fst < (1 : Int)) = false) (ifs (decide (a0.fst > (6 : Int)) = false) (ifs ((a0.fst != (5 : Int)) = true) (ifs ((!ByteArray.toList a0.snd.snd.fst == ByteArray.toList { data := #[] }) = false) (ifs ((a0.fst != (6 : Int)) = true) (some (injRs [RT.d (Ty.int Go.IntKind.i64)] (2 : Int))) (Option.bind (cR (nat_lit 82) [RT.d Ty.bool] [inj Ty.str a0.snd.fst]) fun r => ifs ((!r) = false) (ifs ((a0.fst == (5 : Int)) = true) (Option.bind (cR (nat_lit 82) [RT.d Ty.bool] [inj Ty.str a0.snd.snd.fst]) fun r => ifs ((!r) = false) (ifs ((ByteArray.toList a0.snd.snd.fst == ByteArray.toList a0.snd.fst) = true) (some (injRs [RT.d (Ty.int Go.IntKind.i64)] (8 : Int))) (ifs ((a0.fst == (6 : Int)) = true) (ifs (decide (a0.snd.snd.snd.fst < (0 : Int)) = false) (ifs ((Go.IntKind.wrap Go.IntKind.i64 ((↑(List.length a0.snd.snd.snd.snd.fst) : Int) + (↑(List.length a0.snd.snd.snd.snd.snd) : Int)) == (0 : Int)) = false) (Option.bind (cR (nat_lit 111) [RT.d (Ty.int Go.IntKind.i64)] [inj (Ty.sl Ty.str) a0.snd.snd.snd.snd.fst]) fun r => ifs ((r != (0 : Int)) = false) (Option.bind (cR (nat_lit 111) [RT.d (Ty.int Go.IntKind.i64)] [inj (Ty.sl Ty.str) a0.snd.snd.snd.snd.snd]) fun r => ifs ((r != (0 : Int)) = true) (some (injRs [RT.d (Ty.int Go.IntKind.i64)] (6 : Int))) (some (injRs [RT.d (Ty.int Go.IntKind.i64)] (0 : Int)))) (some (injRs [RT.d (Ty.int Go.IntKind.i64)] (6 : Int)))) (some (injRs [RT.d (Ty.int Go.IntKind.i64)] (6 : Int)))) (some (injRs [RT.d (Ty.int Go.IntKind.i64)] (6 : Int)))) (some (injRs [RT.d (Ty.int Go.IntKind.i64)] (0 : Int))))) (some (injRs [RT.d (Ty.int Go.IntKind.i64)] (8 : Int)))) (ifs ((a0.fst == (6 : Int)) = true) (ifs (decide (a0.snd.snd.snd.fst < (0 : Int)) = false) (ifs ((Go.IntKind.wrap Go.IntKind.i64 ((↑(List.length a0.snd.snd.snd.snd.fst) : Int) + (↑(List.length a0.snd.snd.snd.snd.snd) : Int)) == (0 : Int)) = false) (Option.bind (cR (nat_lit 111) [RT.d (Ty.int Go.IntKind.i64)] [inj (Ty.sl Ty.str) a0.snd.snd.snd.snd.fst]) fun r => ifs ((r != (0 : Int)) = false) (Option.bind (cR (nat_lit 111) [RT.d (Ty.int Go.IntKind.i64)] [inj (Ty.sl Ty.str) a0.snd.snd.snd.snd.snd]) fun r => ifs ((r != (0 : Int)) = true) (some (injRs [RT.d (Ty.int Go.IntKind.i64)] (6 : Int))) (some (injRs [RT.d (Ty.int Go.IntKind.i64)] (0 : Int)))) (some (injRs [RT.d (Ty.int Go.IntKind.i64)] (6 : Int)))) (some (injRs [RT.d (Ty.int Go.IntKind.i64)] (6 : Int)))) (some (injRs [RT.d (Ty.int Go.IntKind.i64)] (6 : Int)))) (some (injRs [RT.d (Ty.int Go.IntKind.i64)] (0 : Int))))) (some (injRs [RT.d (Ty.int Go.IntKind.i64)] (8 : Int))))) (some (injRs [RT.d (Ty.int Go.IntKind.i64)] (2 : Int)))) (ifs ((a0.fst != (6 : Int)) = true) (some (injRs [RT.d (Ty.int Go.IntKind.i64)] (2 : Int))) (Option.bind (cR (nat_lit 82) [RT.d Ty.bool] [inj Ty.str a0.snd.fst]) fun r => ifs ((!r) = false) (ifs ((a0.fst == (5 : Int)) = true) (Option.bind (cR (nat_lit 82) [RT.d Ty.bool] [inj Ty.str a0.snd.snd.fst]) fun r => ifs ((!r) = false) (ifs ((ByteArray.toList a0.snd.snd.fst == ByteArray.toList a0.snd.fst) = true) (some (injRs [RT.d (Ty.int Go.IntKind.i64)] (8 : Int))) (ifs ((a0.fst == (6 : Int)) = true) (ifs (decide (a0.snd.snd.snd.fst < (0 : Int)) = false) (ifs ((Go.IntKind.wrap Go.IntKind.i64 ((↑(List.length a0.snd.snd.snd.snd.fst) : Int) + (↑(List.length a0.snd.snd.snd.snd.snd) : Int)) == (0 : Int)) = false) (Option.bind (cR (nat_lit 111) [RT.d (Ty.int Go.IntKind.i64)] [inj (Ty.sl Ty.str) a0.snd.snd.snd.snd.fst]) fun r => ifs ((r != (0 : Int)) = false) (Option.bind (cR (nat_lit 111) [RT.d (Ty.int Go.IntKind.i64)] [inj (Ty.sl Ty.str) a0.snd.snd.snd.snd.snd]) fun r => ifs ((r != (0 : Int)) = true) (some (injRs [RT.d (Ty.int Go.IntKind.i64)] (6 : Int))) (some (injRs [RT.d (Ty.int Go.IntKind.i64)] (0 : Int)))) (some (injRs [RT.d (Ty.int Go.IntKind.i64)] (6 : Int)))) (some (injRs [RT.d (Ty.int Go.IntKind.i64)] (6 : Int)))) (some (injRs [RT.d (Ty.int Go.IntKind.i64)] (6 : Int)))) (some (injRs [RT.d (Ty.int Go.IntKind.i64)] (0 : Int))))) (some (injRs [RT.d (Ty.int Go.IntKind.i64)] (8 : Int)))) (ifs ((a0.fst == (6 : Int)) = true) (ifs (decide (a0.snd.snd.snd.fst < (0 : Int)) = false) (ifs ((Go.IntKind.wrap Go.IntKind.i64 ((↑(List.length a0.snd.snd.snd.snd.fst) : Int) + (↑(List.length a0.snd.snd.snd.snd.snd) : Int)) == (0 : Int)) = false) (Option.bind (cR (nat_lit 111) [RT.d (Ty.int Go.IntKind.i64)] [inj (Ty.sl Ty.str) a0.snd.snd.snd.snd.fst]) fun r => ifs ((r != (0 : Int)) = false) (Option.bind (cR (nat_lit 111) [RT.d (Ty.int Go.IntKind.i64)] [inj (Ty.sl Ty.str) a0.snd.snd.snd.snd.snd]) fun r => ifs ((r != (0 : Int)) = true) (some (injRs [RT.d (Ty.int Go.IntKind.i64)] (6 : Int))) (some (injRs [RT.d (Ty.int Go.IntKind.i64)] (0 : Int)))) (some (injRs [RT.d (Ty.int Go.IntKind.i64)] (6 : Int)))) (some (injRs [RT.d (Ty.int Go.IntKind.i64)] (6 : Int)))) (some (injRs [RT.d (Ty.int Go.IntKind.i64)] (6 : Int)))) (some (injRs [RT.d (Ty.int Go.IntKind.i64)] (0 : Int))))) (some (injRs [RT.d (Ty.int Go.IntKind.i64)] (8 : Int)))))) (some (injRs [RT.d (Ty.int Go.IntKind.i64)] (2 : Int)))) (some (injRs [RT.d (Ty.int Go.IntKind.i64)] (2 : Int)))) := by kernel_rfl
theorem e20 (a0 : Int × ByteArray × ByteArray × Int × List ByteArray × List ByteArray) (a1 : Int × ByteArray × ByteArray × Int × List ByteArray × List ByteArray) : callG W0 (callW W0) (cutW W0) 20 [inj ty24 a0, inj ty24 a1] = ifs ((a0.fst == (6 : Int)) = true) (ifs ((a1.fst == (6 : Int)) = true) (ifs ((!ByteArray.toList a0.snd.fst == ByteArray.toList a1.snd.fst) = false) (Option.bind (cR (nat_lit 61) [RT.d (Ty.int Go.IntKind.i64)] [inj ty24 a0]) fun r => ifs ((r != (0 : Int)) = false) (Option.bind (cR (nat_lit 61) [RT.d (Ty.int Go.IntKind.i64)] [inj ty24 a1]) fun r => ifs ((r != (0 : Int)) = true) (some (injRs [RT.d Ty.bool] false)) (ifs (decide (Go.IntKind.wrap Go.IntKind.i64 (a1.snd.snd.snd.fst - (↑(List.length a0.snd.snd.snd.snd.snd) : Int)) ≤ a0.snd.snd.snd.fst) = true) (some (injRs [RT.d Ty.bool] (decide (Go.IntKind.wrap Go.IntKind.i64 (a0.snd.snd.snd.fst - (↑(List.length a1.snd.snd.snd.snd.fst) : Int)) ≤ a1.snd.snd.snd.fst)))) (some (injRs [RT.d Ty.bool] false)))) (some (injRs [RT.d Ty.bool] false))) (some (injRs [RT.d Ty.bool] false))) (some (injRs [RT.d Ty.bool] false))) (some (injRs [RT.d Ty.bool] false)) := by kernel_rfl
theorem e69 (a0 : Int) (a1 : Int) (a2 : Int × ByteArray × ByteArray × Int × List ByteArray × List ByteArray) : callG W0 (callW W0) (cutW W0) 69 [inj (Ty.int Go.IntKind.i64) a0, inj (Ty.int Go.IntKind.i64) a1, A.c (C.pt (Pt.sh ty24 a2 (0 : Nat)))] = ifs ((0 : Int) ≤ imin (imax a1 (imin (imax a0 (0 : Int)) (↑(List.length a2.snd.snd.snd.snd.snd) : Int))) (↑(List.length a2.snd.snd.snd.snd.snd) : Int) ∧ imin (imax a1 (imin (imax a0 (0 : Int)) (↑(List.length a2.snd.snd.snd.snd.snd) : Int))) (↑(List.length a2.snd.snd.snd.snd.snd) : Int) ≤ (↑(List.length a2.snd.snd.snd.snd.snd) : Int)) (ifs ((0 : Int) ≤ imin (imax a0 (0 : Int)) (↑(List.length a2.snd.snd.snd.snd.snd) : Int) ∧ imin (imax a0 (0 : Int)) (↑(List.length a2.snd.snd.snd.snd.snd) : Int) ≤ imin (imax a1 (imin (imax a0 (0 : Int)) (↑(List.length a2.snd.snd.snd.snd.snd) : Int))) (↑(List.length a2.snd.snd.snd.snd.snd) : Int)) (some (injRs [RT.d (Ty.sl Ty.str)] (List.drop (Int.toNat (imin (imax a0 (0 : Int)) (↑(List.length a2.snd.snd.snd.snd.snd) : Int))) (List.take (Int.toNat (imin (imax a1 (imin (imax a0 (0 : Int)) (↑(List.length a2.snd.snd.snd.snd.snd) : Int))) (↑(List.length a2.snd.snd.snd.snd.snd) : Int))) a2.snd.snd.snd.snd.snd)))) none) none := by kernel_rfl
noncomputable def td70_3 : List Item := (findT (code Tryd.f70) [] 3).getD []
noncomputable def l70_3 (x0 : List (List ByteArray)) (x1 : Int) (x2 : List (List ByteArray)) (x3 : Int) (x4 : Int) : Option (List RV) := cutW W0 n70 td70_3 { fr := [((0 : Nat), F.a (A.c (C.sl (Ty.sl Ty.str) x0))), ((3 : Nat), F.a (A.c (C.sc (Go.Value.int Go.IntKind.i64 x1)))), ((9 : Nat), F.a (A.c (C.sl (Ty.sl Ty.str) x2))), ((10 : Nat), F.a (A.c (C.sc (Go.Value.int Go.IntKind.i64 x3)))), ((11 : Nat), F.a (A.c (C.sc (Go.Value.int Go.IntKind.i64 x4))))], mem := [], nx := (0 : Nat) }
noncomputable def td70_11 : List Item := (findT (code Tryd.f70) [] 11).getD []
noncomputable def l70_11 (x0 : List (List ByteArray)) (x1 : Int) (x2 : Int) (x3 : List ByteArray) : Option (List RV) := cutW W0 n70 td70_11 { fr := [((6 : Nat), F.a (A.c (C.ow (0 : Nat) (List.length x3)))), ((25 : Nat), F.a (A.c (C.sl (Ty.sl Ty.str) x0))), ((26 : Nat), F.a (A.c (C.sc (Go.Value.int Go.IntKind.i64 x1)))), ((27 : Nat), F.a (A.c (C.sc (Go.Value.int Go.IntKind.i64 x2))))], mem := [some (Row.arr (9 : Nat) Ty.str x3 false)], nx := (1 : Nat) }
theorem e70 (a0 : List (List ByteArray)) : callG W0 (callW W0) (cutW W0) 70 [inj (Ty.sl (Ty.sl Ty.str)) a0] = l70_3 a0 (0 : Int) a0 (↑(List.length a0) : Int) (0 : Int) := by kernel_rfl
theorem q70_3 (x0 : List (List ByteArray)) (x1 : Int) (x2 : List (List ByteArray)) (x3 : Int) (x4 : Int) : cutG W0 (callW W0) (cutW W0) n70 td70_3 { fr := [((0 : Nat), F.a (A.c (C.sl (Ty.sl Ty.str) x0))), ((3 : Nat), F.a (A.c (C.sc (Go.Value.int Go.IntKind.i64 x1)))), ((9 : Nat), F.a (A.c (C.sl (Ty.sl Ty.str) x2))), ((10 : Nat), F.a (A.c (C.sc (Go.Value.int Go.IntKind.i64 x3)))), ((11 : Nat), F.a (A.c (C.sc (Go.Value.int Go.IntKind.i64 x4))))], mem := [], nx := (0 : Nat) } = ifs (decide (x4 < x3) = true) (ifs ((0 : Int) ≤ x4) (Option.bind x2[Int.toNat x4]? fun r => ifs (decide (Go.IntKind.wrap Go.IntKind.i64 (x1 + (↑(List.length r) : Int)) < (0 : Int)) = true) none (l70_3 x0 (Go.IntKind.wrap Go.IntKind.i64 (x1 + (↑(List.length r) : Int))) x2 x3 (Go.IntKind.wrap Go.IntKind.i64 (x4 + (1 : Int))))) none) (Option.bind (cR (nat_lit 116) [RT.own (9 : Go.TypeId) Ty.str] [A.c C.nl, inj (Ty.int Go.IntKind.i64) x1]) fun r => l70_11 x0 (↑(List.length x0) : Int) (0 : Int) r) := by kernel_rfl
theorem q70_11 (x0 : List (List ByteArray)) (x1 : Int) (x2 : Int) (x3 : List ByteArray) : cutG W0 (callW W0) (cutW W0) n70 td70_11 { fr := [((6 : Nat), F.a (A.c (C.ow (0 : Nat) (List.length x3)))), ((25 : Nat), F.a (A.c (C.sl (Ty.sl Ty.str) x0))), ((26 : Nat), F.a (A.c (C.sc (Go.Value.int Go.IntKind.i64 x1)))), ((27 : Nat), F.a (A.c (C.sc (Go.Value.int Go.IntKind.i64 x2))))], mem := [some (Row.arr (9 : Nat) Ty.str x3 false)], nx := (1 : Nat) } = ifs (decide (x2 < x1) = true) (ifs ((0 : Int) ≤ x2) (Option.bind x0[Int.toNat x2]? fun r => ifs ((List.length x3 + List.length r) * nat_lit 16 ≤ (140737488355328 : Nat)) (l70_11 x0 x1 (Go.IntKind.wrap Go.IntKind.i64 (x2 + (1 : Int))) (List.take (List.length x3) x3 ++ r)) none) none) (some (injRs [RT.own (9 : Go.TypeId) Ty.str] (List.take (List.length x3) x3))) := by kernel_rfl
theorem e18 (a0 : Int × ByteArray × ByteArray × Int × List ByteArray × List ByteArray) (a1 : Int × ByteArray × ByteArray × Int × List ByteArray × List ByteArray) : callG W0 (callW W0) (cutW W0) 18 [inj ty24 a0, inj ty24 a1] = Option.bind (cR (nat_lit 20) [RT.d Ty.bool] [inj ty24 a0, inj ty24 a1]) fun r => ifs ((!r) = true) (some (injRs [RT.d ty24, RT.d Ty.bool] (((0 : Int), { data := #[] }, { data := #[] }, (0 : Int), [], []), false))) (ifs ((0 : Int) ≤ Go.IntKind.wrap Go.IntKind.i64 ((↑(List.length a1.snd.snd.snd.snd.fst) : Int) - imin (imax (Go.IntKind.wrap Go.IntKind.i64 (Go.IntKind.wrap Go.IntKind.i64 (Go.IntKind.wrap Go.IntKind.i64 (a1.snd.snd.snd.fst - a0.snd.snd.snd.fst) + (↑(List.length a1.snd.snd.snd.snd.fst) : Int)) - (↑(List.length a0.snd.snd.snd.snd.snd) : Int))) (0 : Int)) (↑(List.length a1.snd.snd.snd.snd.fst) : Int)) ∧ Go.IntKind.wrap Go.IntKind.i64 ((↑(List.length a1.snd.snd.snd.snd.fst) : Int) - imin (imax (Go.IntKind.wrap Go.IntKind.i64 (Go.IntKind.wrap Go.IntKind.i64 (Go.IntKind.wrap Go.IntKind.i64 (a1.snd.snd.snd.fst - a0.snd.snd.snd.fst) + (↑(List.length a1.snd.snd.snd.snd.fst) : Int)) - (↑(List.length a0.snd.snd.snd.snd.snd) : Int))) (0 : Int)) (↑(List.length a1.snd.snd.snd.snd.fst) : Int)) ≤ (↑(List.length a1.snd.snd.snd.snd.fst) : Int)) (ifs ((0 : Int) ≤ imin (imax (Go.IntKind.wrap Go.IntKind.i64 ((0 : Int) - Go.IntKind.wrap Go.IntKind.i64 (a1.snd.snd.snd.fst - a0.snd.snd.snd.fst))) (0 : Int)) (↑(List.length a1.snd.snd.snd.snd.fst) : Int) ∧ imin (imax (Go.IntKind.wrap Go.IntKind.i64 ((0 : Int) - Go.IntKind.wrap Go.IntKind.i64 (a1.snd.snd.snd.fst - a0.snd.snd.snd.fst))) (0 : Int)) (↑(List.length a1.snd.snd.snd.snd.fst) : Int) ≤ Go.IntKind.wrap Go.IntKind.i64 ((↑(List.length a1.snd.snd.snd.snd.fst) : Int) - imin (imax (Go.IntKind.wrap Go.IntKind.i64 (Go.IntKind.wrap Go.IntKind.i64 (Go.IntKind.wrap Go.IntKind.i64 (a1.snd.snd.snd.fst - a0.snd.snd.snd.fst) + (↑(List.length a1.snd.snd.snd.snd.fst) : Int)) - (↑(List.length a0.snd.snd.snd.snd.snd) : Int))) (0 : Int)) (↑(List.length a1.snd.snd.snd.snd.fst) : Int))) (Option.bind (cR (nat_lit 69) [RT.d (Ty.sl Ty.str)] [inj (Ty.int Go.IntKind.i64) (Go.IntKind.wrap Go.IntKind.i64 (a1.snd.snd.snd.fst - a0.snd.snd.snd.fst)), inj (Ty.int Go.IntKind.i64) (Go.IntKind.wrap Go.IntKind.i64 (Go.IntKind.wrap Go.IntKind.i64 (a1.snd.snd.snd.fst - a0.snd.snd.snd.fst) + (↑(List.length a1.snd.snd.snd.snd.fst) : Int))), A.c (C.pt (Pt.sh ty24 a0 (0 : Nat)))]) fun r => Option.bind (cR (nat_lit 66) [RT.d Ty.bool] [inj (Ty.sl Ty.str) (List.drop (Int.toNat (imin (imax (Go.IntKind.wrap Go.IntKind.i64 ((0 : Int) - Go.IntKind.wrap Go.IntKind.i64 (a1.snd.snd.snd.fst - a0.snd.snd.snd.fst))) (0 : Int)) (↑(List.length a1.snd.snd.snd.snd.fst) : Int))) (List.take (Int.toNat (Go.IntKind.wrap Go.IntKind.i64 ((↑(List.length a1.snd.snd.snd.snd.fst) : Int) - imin (imax (Go.IntKind.wrap Go.IntKind.i64 (Go.IntKind.wrap Go.IntKind.i64 (Go.IntKind.wrap Go.IntKind.i64 (a1.snd.snd.snd.fst - a0.snd.snd.snd.fst) + (↑(List.length a1.snd.snd.snd.snd.fst) : Int)) - (↑(List.length a0.snd.snd.snd.snd.snd) : Int))) (0 : Int)) (↑(List.length a1.snd.snd.snd.snd.fst) : Int)))) a1.snd.snd.snd.snd.fst)), inj (Ty.sl Ty.str) r]) fun r => ifs ((!r) = true) (some (injRs [RT.d ty24, RT.d Ty.bool] (((0 : Int), { data := #[] }, { data := #[] }, (0 : Int), [], []), false))) (ifs ((0 : Int) ≤ imax (Go.IntKind.wrap Go.IntKind.i64 ((0 : Int) - Go.IntKind.wrap Go.IntKind.i64 (a1.snd.snd.snd.fst - a0.snd.snd.snd.fst))) (0 : Int) ∧ imax (Go.IntKind.wrap Go.IntKind.i64 ((0 : Int) - Go.IntKind.wrap Go.IntKind.i64 (a1.snd.snd.snd.fst - a0.snd.snd.snd.fst))) (0 : Int) ≤ (↑(List.length a1.snd.snd.snd.snd.fst) : Int)) (ifs ((0 : Int) ≤ (0 : Int) ∧ (0 : Int) ≤ imax (Go.IntKind.wrap Go.IntKind.i64 ((0 : Int) - Go.IntKind.wrap Go.IntKind.i64 (a1.snd.snd.snd.fst - a0.snd.snd.snd.fst))) (0 : Int)) (ifs ((0 : Int) ≤ (↑(List.length a1.snd.snd.snd.snd.fst) : Int) ∧ (↑(List.length a1.snd.snd.snd.snd.fst) : Int) ≤ (↑(List.length a1.snd.snd.snd.snd.fst) : Int)) (ifs ((0 : Int) ≤ Go.IntKind.wrap Go.IntKind.i64 ((↑(List.length a1.snd.snd.snd.snd.fst) : Int) - imax (Go.IntKind.wrap Go.IntKind.i64 (Go.IntKind.wrap Go.IntKind.i64 (Go.IntKind.wrap Go.IntKind.i64 (a1.snd.snd.snd.fst - a0.snd.snd.snd.fst) + (↑(List.length a1.snd.snd.snd.snd.fst) : Int)) - (↑(List.length a0.snd.snd.snd.snd.snd) : Int))) (0 : Int)) ∧ Go.IntKind.wrap Go.IntKind.i64 ((↑(List.length a1.snd.snd.snd.snd.fst) : Int) - imax (Go.IntKind.wrap Go.IntKind.i64 (Go.IntKind.wrap Go.IntKind.i64 (Go.IntKind.wrap Go.IntKind.i64 (a1.snd.snd.snd.fst - a0.snd.snd.snd.fst) + (↑(List.length a1.snd.snd.snd.snd.fst) : Int)) - (↑(List.length a0.snd.snd.snd.snd.snd) : Int))) (0 : Int)) ≤ (↑(List.length a1.snd.snd.snd.snd.fst) : Int)) (Option.bind (cR (nat_lit 70) [RT.own (9 : Go.TypeId) Ty.str] [inj (Ty.sl (Ty.sl Ty.str)) [List.take (Int.toNat (imax (Go.IntKind.wrap Go.IntKind.i64 ((0 : Int) - Go.IntKind.wrap Go.IntKind.i64 (a1.snd.snd.snd.fst - a0.snd.snd.snd.fst))) (0 : Int))) a1.snd.snd.snd.snd.fst, a0.snd.snd.snd.snd.fst, List.drop (Int.toNat (Go.IntKind.wrap Go.IntKind.i64 ((↑(List.length a1.snd.snd.snd.snd.fst) : Int) - imax (Go.IntKind.wrap Go.IntKind.i64 (Go.IntKind.wrap Go.IntKind.i64 (Go.IntKind.wrap Go.IntKind.i64 (a1.snd.snd.snd.fst - a0.snd.snd.snd.fst) + (↑(List.length a1.snd.snd.snd.snd.fst) : Int)) - (↑(List.length a0.snd.snd.snd.snd.snd) : Int))) (0 : Int)))) (List.take (Int.toNat (↑(List.length a1.snd.snd.snd.snd.fst) : Int)) a1.snd.snd.snd.snd.fst)]]) fun r => Option.bind (cR (nat_lit 69) [RT.d (Ty.sl Ty.str)] [inj (Ty.int Go.IntKind.i64) (0 : Int), inj (Ty.int Go.IntKind.i64) (Go.IntKind.wrap Go.IntKind.i64 (a1.snd.snd.snd.fst - a0.snd.snd.snd.fst)), A.c (C.pt (Pt.sh (Ty.pair (Ty.int Go.IntKind.i64) (Ty.pair Ty.str (Ty.pair Ty.str (Ty.pair (Ty.int Go.IntKind.i64) (Ty.pair (Ty.sl Ty.str) (Ty.sl Ty.str)))))) a0 (0 : Nat)))]) fun r_1 => Option.bind (cR (nat_lit 69) [RT.d (Ty.sl Ty.str)] [inj (Ty.int Go.IntKind.i64) (Go.IntKind.wrap Go.IntKind.i64 (Go.IntKind.wrap Go.IntKind.i64 (a1.snd.snd.snd.fst - a0.snd.snd.snd.fst) + (↑(List.length a1.snd.snd.snd.snd.fst) : Int))), inj (Ty.int Go.IntKind.i64) (↑(List.length a0.snd.snd.snd.snd.snd) : Int), A.c (C.pt (Pt.sh (Ty.pair (Ty.int Go.IntKind.i64) (Ty.pair Ty.str (Ty.pair Ty.str (Ty.pair (Ty.int Go.IntKind.i64) (Ty.pair (Ty.sl Ty.str) (Ty.sl Ty.str)))))) a0 (0 : Nat)))]) fun r_2 => Option.bind (cR (nat_lit 70) [RT.own (9 : Go.TypeId) Ty.str] [inj (Ty.sl (Ty.sl Ty.str)) [r_1, a1.snd.snd.snd.snd.snd, r_2]]) fun r_3 => some (injRs [RT.d ty24, RT.d Ty.bool] (((6 : Int), a0.snd.fst, { data := #[] }, imin a0.snd.snd.snd.fst a1.snd.snd.snd.fst, List.take (List.length r) r, List.take (List.length r_3) r_3), true))) none) none) none) none)) none) none) := by kernel_rfl
theorem e158 (a0 : Int) (a1 : Int) (a2 : Int) : callG W0 (callW W0) (cutW W0) 158 [inj (Ty.int Go.IntKind.i64) a0, inj (Ty.int Go.IntKind.i64) a1, A.c (C.pt (Pt.sh (Ty.int Go.IntKind.i64) a2 (0 : Nat)))] = ifs ((a2 == a0) = true) (some (injRs [RT.d (Ty.int Go.IntKind.i64)] a1)) (some (injRs [RT.d (Ty.int Go.IntKind.i64)] a0)) := by kernel_rfl
theorem e112 (a0 : Int) : callG W0 (callW W0) (cutW W0) 112 [inj (Ty.int Go.IntKind.i64) a0] = ifs ((a0 == (1 : Int)) = true) (Option.bind (cR (nat_lit 158) [RT.d (Ty.int Go.IntKind.i64)] [inj (Ty.int Go.IntKind.i64) (1 : Int), inj (Ty.int Go.IntKind.i64) (2 : Int), A.c (C.pt (Pt.sh (Ty.int Go.IntKind.i64) a0 (0 : Nat)))]) fun r => some (injRs [RT.d (Ty.int Go.IntKind.i64)] r)) (ifs ((a0 == (2 : Int)) = true) (Option.bind (cR (nat_lit 158) [RT.d (Ty.int Go.IntKind.i64)] [inj (Ty.int Go.IntKind.i64) (1 : Int), inj (Ty.int Go.IntKind.i64) (2 : Int), A.c (C.pt (Pt.sh (Ty.int Go.IntKind.i64) a0 (0 : Nat)))]) fun r => some (injRs [RT.d (Ty.int Go.IntKind.i64)] r)) (ifs ((a0 == (3 : Int)) = true) (Option.bind (cR (nat_lit 158) [RT.d (Ty.int Go.IntKind.i64)] [inj (Ty.int Go.IntKind.i64) (3 : Int), inj (Ty.int Go.IntKind.i64) (4 : Int), A.c (C.pt (Pt.sh (Ty.int Go.IntKind.i64) a0 (0 : Nat)))]) fun r => some (injRs [RT.d (Ty.int Go.IntKind.i64)] r)) (ifs ((a0 == (4 : Int)) = true) (Option.bind (cR (nat_lit 158) [RT.d (Ty.int Go.IntKind.i64)] [inj (Ty.int Go.IntKind.i64) (3 : Int), inj (Ty.int Go.IntKind.i64) (4 : Int), A.c (C.pt (Pt.sh (Ty.int Go.IntKind.i64) a0 (0 : Nat)))]) fun r => some (injRs [RT.d (Ty.int Go.IntKind.i64)] r)) (some (injRs [RT.d (Ty.int Go.IntKind.i64)] a0))))) := by kernel_rfl
theorem e64 (a0 : Int × ByteArray × ByteArray × Int × List ByteArray × List ByteArray) : callG W0 (callW W0) (cutW W0) 64 [inj ty24 a0] = Option.bind (cR (nat_lit 112) [RT.d (Ty.int Go.IntKind.i64)] [inj (Ty.int Go.IntKind.i64) a0.fst]) fun r => Option.bind (cR (nat_lit 113) [RT.own (9 : Go.TypeId) Ty.str] [inj (Ty.sl Ty.str) a0.snd.snd.snd.snd.snd]) fun r_1 => Option.bind (cR (nat_lit 113) [RT.own (9 : Go.TypeId) Ty.str] [inj (Ty.sl Ty.str) a0.snd.snd.snd.snd.fst]) fun r_2 => ifs ((a0.fst == (5 : Int)) = true) (some (injRs [RT.d ty24] (r, a0.snd.snd.fst, a0.snd.fst, a0.snd.snd.snd.fst, List.take (List.length r_1) r_1, List.take (List.length r_2) r_2))) (some (injRs [RT.d ty24] (r, a0.snd.fst, a0.snd.snd.fst, a0.snd.snd.snd.fst, List.take (List.length r_1) r_1, List.take (List.length r_2) r_2))) := by kernel_rfl
theorem e114 (a0 : Int × ByteArray × ByteArray × Int × List ByteArray × List ByteArray) (a1 : Int × ByteArray × ByteArray × Int × List ByteArray × List ByteArray) : callG W0 (callW W0) (cutW W0) 114 [inj ty24 a0, inj ty24 a1] = ifs ((a0.fst == a1.fst) = true) (ifs ((ByteArray.toList a0.snd.fst == ByteArray.toList a1.snd.fst) = true) (ifs ((ByteArray.toList a0.snd.snd.fst == ByteArray.toList a1.snd.snd.fst) = true) (ifs ((a0.snd.snd.snd.fst == a1.snd.snd.snd.fst) = true) (Option.bind (cR (nat_lit 66) [RT.d Ty.bool] [inj (Ty.sl Ty.str) a0.snd.snd.snd.snd.fst, inj (Ty.sl Ty.str) a1.snd.snd.snd.snd.fst]) fun r => ifs (r = true) (Option.bind (cR (nat_lit 66) [RT.d Ty.bool] [inj (Ty.sl Ty.str) a0.snd.snd.snd.snd.snd, inj (Ty.sl Ty.str) a1.snd.snd.snd.snd.snd]) fun r => some (injRs [RT.d Ty.bool] r)) (some (injRs [RT.d Ty.bool] false))) (some (injRs [RT.d Ty.bool] false))) (some (injRs [RT.d Ty.bool] false))) (some (injRs [RT.d Ty.bool] false))) (some (injRs [RT.d Ty.bool] false)) := by kernel_rfl
theorem e65 (a0 : Int × ByteArray × ByteArray × Int × List ByteArray × List ByteArray) (a1 : Int × ByteArray × ByteArray × Int × List ByteArray × List ByteArray) : callG W0 (callW W0) (cutW W0) 65 [inj ty24 a0, inj ty24 a1] = ifs ((a0.fst == (1 : Int)) = false) (ifs ((a0.fst == (3 : Int)) = false) (ifs ((a0.fst == (5 : Int)) = true) (Option.bind (cR (nat_lit 64) [RT.d ty24] [inj ty24 a0]) fun r => Option.bind (cR (nat_lit 114) [RT.d Ty.bool] [inj ty24 r, inj ty24 a1]) fun r => some (injRs [RT.d Ty.bool] r)) (some (injRs [RT.d Ty.bool] false))) (Option.bind (cR (nat_lit 64) [RT.d ty24] [inj ty24 a0]) fun r => Option.bind (cR (nat_lit 114) [RT.d Ty.bool] [inj ty24 r, inj ty24 a1]) fun r => some (injRs [RT.d Ty.bool] r))) (Option.bind (cR (nat_lit 64) [RT.d ty24] [inj ty24 a0]) fun r => Option.bind (cR (nat_lit 114) [RT.d Ty.bool] [inj ty24 r, inj ty24 a1]) fun r => some (injRs [RT.d Ty.bool] r)) := by kernel_rfl
theorem e16 (a0 : Int × ByteArray × ByteArray × Int × List ByteArray × List ByteArray) (a1 : Int × ByteArray × ByteArray × Int × List ByteArray × List ByteArray) : callG W0 (callW W0) (cutW W0) 16 [inj ty24 a0, inj ty24 a1] = Option.bind (cR (nat_lit 61) [RT.d (Ty.int Go.IntKind.i64)] [inj ty24 a0]) fun r => ifs ((r != (0 : Int)) = false) (Option.bind (cR (nat_lit 61) [RT.d (Ty.int Go.IntKind.i64)] [inj ty24 a1]) fun r => ifs ((r != (0 : Int)) = true) (some (injRs [RT.own (24 : Go.TypeId) ty24, RT.d Ty.bool] ([], false))) (Option.bind (cR (nat_lit 65) [RT.d Ty.bool] [inj ty24 a0, inj ty24 a1]) fun r => ifs (r = true) (some (injRs [RT.own (24 : Go.TypeId) ty24, RT.d Ty.bool] ([], true))) (ifs ((a0.fst == (5 : Int)) = true) (ifs ((a1.fst == (5 : Int)) = true) (ifs ((ByteArray.toList a1.snd.fst == ByteArray.toList a0.snd.snd.fst) = true) (some (injRs [RT.own (24 : Go.TypeId) ty24, RT.d Ty.bool] ([((5 : Int), a0.snd.fst, a1.snd.snd.fst, (0 : Int), [], [])], true))) (Option.bind (cR (nat_lit 18) [RT.d ty24, RT.d Ty.bool] [inj ty24 a0, inj ty24 a1]) fun r => ifs ((!r.snd) = true) (some (injRs [RT.own (24 : Go.TypeId) ty24, RT.d Ty.bool] ([], false))) (Option.bind (cR (nat_lit 66) [RT.d Ty.bool] [inj (Ty.sl Ty.str) r.fst.snd.snd.snd.snd.fst, inj (Ty.sl Ty.str) r.fst.snd.snd.snd.snd.snd]) fun r_1 => ifs (r_1 = true) (some (injRs [RT.own (24 : Go.TypeId) ty24, RT.d Ty.bool] ([], true))) (some (injRs [RT.own (24 : Go.TypeId) ty24, RT.d Ty.bool] ([r.fst], true)))))) (Option.bind (cR (nat_lit 18) [RT.d ty24, RT.d Ty.bool] [inj ty24 a0, inj ty24 a1]) fun r => ifs ((!r.snd) = true) (some (injRs [RT.own (24 : Go.TypeId) ty24, RT.d Ty.bool] ([], false))) (Option.bind (cR (nat_lit 66) [RT.d Ty.bool] [inj (Ty.sl Ty.str) r.fst.snd.snd.snd.snd.fst, inj (Ty.sl Ty.str) r.fst.snd.snd.snd.snd.snd]) fun r_1 => ifs (r_1 = true) (some (injRs [RT.own (24 : Go.TypeId) ty24, RT.d Ty.bool] ([], true))) (some (injRs [RT.own (24 : Go.TypeId) ty24, RT.d Ty.bool] ([r.fst], true)))))) (Option.bind (cR (nat_lit 18) [RT.d ty24, RT.d Ty.bool] [inj ty24 a0, inj ty24 a1]) fun r => ifs ((!r.snd) = true) (some (injRs [RT.own (24 : Go.TypeId) ty24, RT.d Ty.bool] ([], false))) (Option.bind (cR (nat_lit 66) [RT.d Ty.bool] [inj (Ty.sl Ty.str) r.fst.snd.snd.snd.snd.fst, inj (Ty.sl Ty.str) r.fst.snd.snd.snd.snd.snd]) fun r_1 => ifs (r_1 = true) (some (injRs [RT.own (24 : Go.TypeId) ty24, RT.d Ty.bool] ([], true))) (some (injRs [RT.own (24 : Go.TypeId) ty24, RT.d Ty.bool] ([r.fst], true)))))))) (some (injRs [RT.own (24 : Go.TypeId) ty24, RT.d Ty.bool] ([], false))) := by kernel_rfl
noncomputable def td22_3 : List Item := (findT (code Tryd.f22) [] 3).getD []
noncomputable def l22_3 (x0 : List (Int × ByteArray × ByteArray × Int × List ByteArray × List ByteArray)) (x1 : Int) (x2 : Int) (x3 : List (Int × ByteArray × ByteArray × Int × List ByteArray × List ByteArray)) : Option (List RV) := cutW W0 n22 td22_3 { fr := [((3 : Nat), F.a (A.c (C.ow (0 : Nat) (List.length x3)))), ((9 : Nat), F.a (A.c (C.sl ty24 x0))), ((10 : Nat), F.a (A.c (C.sc (Go.Value.int Go.IntKind.i64 x1)))), ((11 : Nat), F.a (A.c (C.sc (Go.Value.int Go.IntKind.i64 x2))))], mem := [some (Row.arr (24 : Nat) ty24 x3 false)], nx := (1 : Nat) }
noncomputable def td22_6 : List Item := (findT (code Tryd.f22) [] 6).getD []
noncomputable def l22_6 (x0 : Nat) (x1 : Nat) (x2 : List (Int × ByteArray × ByteArray × Int × List ByteArray × List ByteArray)) (x3 : Int) (x4 : Int) (x5 : List (Int × ByteArray × ByteArray × Int × List ByteArray × List ByteArray)) (x6 : List (Int × ByteArray × ByteArray × Int × List ByteArray × List ByteArray)) : Option (List RV) := cutW W0 n22 td22_6 { fr := [((3 : Nat), F.a (A.c (C.ow (0 : Nat) x0))), ((6 : Nat), F.a (A.c (C.ow (1 : Nat) x1))), ((9 : Nat), F.a (A.c (C.sl ty24 x2))), ((10 : Nat), F.a (A.c (C.sc (Go.Value.int Go.IntKind.i64 x3)))), ((11 : Nat), F.a (A.c (C.sc (Go.Value.int Go.IntKind.i64 x4))))], mem := [some (Row.arr (24 : Nat) ty24 x5 false), some (Row.arr (24 : Nat) ty24 x6 false)], nx := (2 : Nat) }
theorem e22 (a0 : List (Int × ByteArray × ByteArray × Int × List ByteArray × List ByteArray)) : callG W0 (callW W0) (cutW W0) 22 [inj (Ty.sl ty24) a0] = l22_3 a0 (↑(List.length a0) : Int) (0 : Int) [] := by kernel_rfl
theorem q22_3 (x0 : List (Int × ByteArray × ByteArray × Int × List ByteArray × List ByteArray)) (x1 : Int) (x2 : Int) (x3 : List (Int × ByteArray × ByteArray × Int × List ByteArray × List ByteArray)) : cutG W0 (callW W0) (cutW W0) n22 td22_3 { fr := [((3 : Nat), F.a (A.c (C.ow (0 : Nat) (List.length x3)))), ((9 : Nat), F.a (A.c (C.sl ty24 x0))), ((10 : Nat), F.a (A.c (C.sc (Go.Value.int Go.IntKind.i64 x1)))), ((11 : Nat), F.a (A.c (C.sc (Go.Value.int Go.IntKind.i64 x2))))], mem := [some (Row.arr (24 : Nat) ty24 x3 false)], nx := (1 : Nat) } = ifs (decide (x2 < x1) = true) (ifs ((0 : Int) ≤ x2) (Option.bind x0[Int.toNat x2]? fun r => Option.bind (cR (nat_lit 64) [RT.d ty24] [inj ty24 r]) fun r => Option.bind (cR (nat_lit 64) [RT.d ty24] [inj ty24 r]) fun r => l22_6 (List.length x3) (1 : Nat) x0 x1 x2 x3 [r]) none) (some (injRs [RT.own (24 : Go.TypeId) ty24] (List.take (List.length x3) x3))) := by kernel_rfl
theorem q22_6 (x0 : Nat) (x1 : Nat) (x2 : List (Int × ByteArray × ByteArray × Int × List ByteArray × List ByteArray)) (x3 : Int) (x4 : Int) (x5 : List (Int × ByteArray × ByteArray × Int × List ByteArray × List ByteArray)) (x6 : List (Int × ByteArray × ByteArray × Int × List ByteArray × List ByteArray)) : cutG W0 (callW W0) (cutW W0) n22 td22_6 { fr := [((3 : Nat), F.a (A.c (C.ow (0 : Nat) x0))), ((6 : Nat), F.a (A.c (C.ow (1 : Nat) x1))), ((9 : Nat), F.a (A.c (C.sl ty24 x2))), ((10 : Nat), F.a (A.c (C.sc (Go.Value.int Go.IntKind.i64 x3)))), ((11 : Nat), F.a (A.c (C.sc (Go.Value.int Go.IntKind.i64 x4))))], mem := [some (Row.arr (24 : Nat) ty24 x5 false), some (Row.arr (24 : Nat) ty24 x6 false)], nx := (2 : Nat) } = ifs (decide ((↑x1 : Int) > (0 : Int)) = true) (ifs (decide ((↑x0 : Int) > (0 : Int)) = true) (ifs ((0 : Int) ≤ Go.IntKind.wrap Go.IntKind.i64 ((↑x0 : Int) - (1 : Int)) ∧ Go.IntKind.wrap Go.IntKind.i64 ((↑x0 : Int) - (1 : Int)) < (↑x0 : Int)) (Option.bind x5[Int.toNat (Go.IntKind.wrap Go.IntKind.i64 ((↑x0 : Int) - (1 : Int)))]? fun r => ifs ((0 : Int) ≤ (0 : Int) ∧ (0 : Int) < (↑x1 : Int)) (Option.bind x6[Int.toNat (0 : Int)]? fun r_1 => Option.bind (cR (nat_lit 16) [RT.own (24 : Go.TypeId) ty24, RT.d Ty.bool] [inj ty24 r, inj ty24 r_1]) fun r => ifs ((!r.snd) = true) (ifs ((x0 + List.length (List.take x1 x6)) * nat_lit 96 ≤ (140737488355328 : Nat)) (l22_3 x2 x3 (Go.IntKind.wrap Go.IntKind.i64 (x4 + (1 : Int))) (List.take x0 x5 ++ List.take x1 x6)) none) (ifs ((0 : Int) ≤ Go.IntKind.wrap Go.IntKind.i64 ((↑x0 : Int) - (1 : Int)) ∧ Go.IntKind.wrap Go.IntKind.i64 ((↑x0 : Int) - (1 : Int)) ≤ (↑x0 : Int)) (l22_6 (Int.toNat (Go.IntKind.wrap Go.IntKind.i64 ((↑x0 : Int) - (1 : Int)))) (List.length r.fst) x2 x3 x4 x5 r.fst) none)) none) none) (ifs ((x0 + List.length (List.take x1 x6)) * nat_lit 96 ≤ (140737488355328 : Nat)) (l22_3 x2 x3 (Go.IntKind.wrap Go.IntKind.i64 (x4 + (1 : Int))) (List.take x0 x5 ++ List.take x1 x6)) none)) (ifs ((x0 + List.length (List.take x1 x6)) * nat_lit 96 ≤ (140737488355328 : Nat)) (l22_3 x2 x3 (Go.IntKind.wrap Go.IntKind.i64 (x4 + (1 : Int))) (List.take x0 x5 ++ List.take x1 x6)) none) := by kernel_rfl
noncomputable def td179_3 : List Item := (findT (code Tryd.f179) [] 3).getD []
noncomputable def l179_3 (x0 : Int) (x1 : ByteArray) (x2 : Int) : Option (List RV) := cutW W0 n179 td179_3 { fr := [((0 : Nat), F.a (A.c (C.sc (Go.Value.int Go.IntKind.u8 x0)))), ((3 : Nat), F.a (A.c (C.sc (Go.Value.string x1)))), ((4 : Nat), F.a (A.c (C.sc (Go.Value.int Go.IntKind.i64 x2))))], mem := [], nx := (0 : Nat) }
theorem e179 (a0 : Int) : callG W0 (callW W0) (cutW W0) 179 [inj (Ty.int Go.IntKind.u8) a0] = l179_3 a0 { data := #[(97 : UInt8), (98 : UInt8), (99 : UInt8), (100 : UInt8), (101 : UInt8), (102 : UInt8), (103 : UInt8), (104 : UInt8), (105 : UInt8), (106 : UInt8), (107 : UInt8), (108 : UInt8), (109 : UInt8), (110 : UInt8), (111 : UInt8), (112 : UInt8), (113 : UInt8), (114 : UInt8), (115 : UInt8), (116 : UInt8), (117 : UInt8), (118 : UInt8), (119 : UInt8), (120 : UInt8), (121 : UInt8), (122 : UInt8), (48 : UInt8), (49 : UInt8), (50 : UInt8), (51 : UInt8), (52 : UInt8), (53 : UInt8), (54 : UInt8), (55 : UInt8), (56 : UInt8), (57 : UInt8), (46 : UInt8), (95 : UInt8), (45 : UInt8)] } (0 : Int) := by kernel_rfl
theorem q179_3 (x0 : Int) (x1 : ByteArray) (x2 : Int) : cutG W0 (callW W0) (cutW W0) n179 td179_3 { fr := [((0 : Nat), F.a (A.c (C.sc (Go.Value.int Go.IntKind.u8 x0)))), ((3 : Nat), F.a (A.c (C.sc (Go.Value.string x1)))), ((4 : Nat), F.a (A.c (C.sc (Go.Value.int Go.IntKind.i64 x2))))], mem := [], nx := (0 : Nat) } = ifs (decide (x2 < (↑(ByteArray.size x1) : Int)) = true) (ifs ((0 : Int) ≤ x2) (Option.bind x1[Int.toNat x2]? fun r => ifs (((↑(UInt8.toNat r) : Int) == x0) = true) (some (injRs [RT.d Ty.bool] true)) (l179_3 x0 x1 (Go.IntKind.wrap Go.IntKind.i64 (x2 + (1 : Int))))) none) (some (injRs [RT.d Ty.bool] false)) := by kernel_rfl
noncomputable def td147_2 : List Item := (findT (code Tryd.f147) [] 2).getD []
noncomputable def l147_2 (x0 : ByteArray) (x1 : Int) : Option (List RV) := cutW W0 n147 td147_2 { fr := [((0 : Nat), F.a (A.c (C.sc (Go.Value.string x0)))), ((3 : Nat), F.a (A.c (C.sc (Go.Value.int Go.IntKind.i64 x1))))], mem := [], nx := (0 : Nat) }
theorem e147 (a0 : ByteArray) : callG W0 (callW W0) (cutW W0) 147 [inj Ty.str a0] = l147_2 a0 (0 : Int) := by kernel_rfl
theorem q147_2 (x0 : ByteArray) (x1 : Int) : cutG W0 (callW W0) (cutW W0) n147 td147_2 { fr := [((0 : Nat), F.a (A.c (C.sc (Go.Value.string x0)))), ((3 : Nat), F.a (A.c (C.sc (Go.Value.int Go.IntKind.i64 x1))))], mem := [], nx := (0 : Nat) } = ifs (decide (x1 < (↑(ByteArray.size x0) : Int)) = true) (ifs ((0 : Int) ≤ x1) (Option.bind x0[Int.toNat x1]? fun r => Option.bind (cR (nat_lit 179) [RT.d Ty.bool] [inj (Ty.int Go.IntKind.u8) (↑(UInt8.toNat r) : Int)]) fun r => ifs ((!r) = true) (some (injRs [RT.d Ty.bool] false)) (l147_2 x0 (Go.IntKind.wrap Go.IntKind.i64 (x1 + (1 : Int))))) none) (ifs (decide ((↑(ByteArray.size x0) : Int) ≥ (1 : Int)) = true) (ifs (decide ((↑(ByteArray.size x0) : Int) ≤ (40 : Int)) = true) (ifs ((!ByteArray.toList x0 == ByteArray.toList { data := #[(46 : UInt8)] }) = true) (some (injRs [RT.d Ty.bool] !ByteArray.toList x0 == ByteArray.toList { data := #[(46 : UInt8), (46 : UInt8)] })) (some (injRs [RT.d Ty.bool] false))) (some (injRs [RT.d Ty.bool] false))) (some (injRs [RT.d Ty.bool] false))) := by kernel_rfl
noncomputable def td98_6 : List Item := (findT (code Tryd.f98) [] 6).getD []
noncomputable def l98_6 (x0 : ByteArray) (x1 : Int) (x2 : Int) (x3 : List ByteArray) : Option (List RV) := cutW W0 n98 td98_6 { fr := [((0 : Nat), F.a (A.c (C.sc (Go.Value.string x0)))), ((3 : Nat), F.a (A.c (C.ow (0 : Nat) (List.length x3)))), ((4 : Nat), F.a (A.c (C.sc (Go.Value.int Go.IntKind.i64 x1)))), ((5 : Nat), F.a (A.c (C.sc (Go.Value.int Go.IntKind.i64 x2))))], mem := [some (Row.arr (9 : Nat) Ty.str x3 false)], nx := (1 : Nat) }
theorem e98 (a0 : ByteArray) : callG W0 (callW W0) (cutW W0) 98 [inj Ty.str a0] = ifs (decide ((↑(ByteArray.size a0) : Int) > (200 : Int)) = true) (some (injRs [RT.own (9 : Go.TypeId) Ty.str] [])) (l98_6 a0 (0 : Int) (0 : Int) []) := by kernel_rfl
theorem q98_6 (x0 : ByteArray) (x1 : Int) (x2 : Int) (x3 : List ByteArray) : cutG W0 (callW W0) (cutW W0) n98 td98_6 { fr := [((0 : Nat), F.a (A.c (C.sc (Go.Value.string x0)))), ((3 : Nat), F.a (A.c (C.ow (0 : Nat) (List.length x3)))), ((4 : Nat), F.a (A.c (C.sc (Go.Value.int Go.IntKind.i64 x1)))), ((5 : Nat), F.a (A.c (C.sc (Go.Value.int Go.IntKind.i64 x2))))], mem := [some (Row.arr (9 : Nat) Ty.str x3 false)], nx := (1 : Nat) } = ifs (decide (x2 ≤ (↑(ByteArray.size x0) : Int)) = true) (ifs (decide (x2 < (↑(ByteArray.size x0) : Int)) = true) (ifs ((0 : Int) ≤ x2) (Option.bind x0[Int.toNat x2]? fun r => ifs (((↑(UInt8.toNat r) : Int) != (47 : Int)) = true) (l98_6 x0 x1 (Go.IntKind.wrap Go.IntKind.i64 (x2 + (1 : Int))) x3) (ifs ((0 : Int) ≤ x2 ∧ x2 ≤ (↑(ByteArray.size x0) : Int)) (ifs ((0 : Int) ≤ x1 ∧ x1 ≤ x2) (Option.bind (cR (nat_lit 147) [RT.d Ty.bool] [inj Ty.str (ByteArray.extract x0 (Int.toNat x1) (Int.toNat x2))]) fun r => ifs ((!r) = true) (some (injRs [RT.own (9 : Go.TypeId) Ty.str] [])) (ifs ((0 : Int) ≤ x2 ∧ x2 ≤ (↑(ByteArray.size x0) : Int)) (ifs ((0 : Int) ≤ x1 ∧ x1 ≤ x2) (ifs ((List.length x3 + (1 : Nat)) * nat_lit 16 ≤ (140737488355328 : Nat)) (l98_6 x0 (Go.IntKind.wrap Go.IntKind.i64 (x2 + (1 : Int))) (Go.IntKind.wrap Go.IntKind.i64 (x2 + (1 : Int))) (List.take (List.length x3) x3 ++ [ByteArray.extract x0 (Int.toNat x1) (Int.toNat x2)])) none) none) none)) none) none)) none) (ifs ((0 : Int) ≤ x2 ∧ x2 ≤ (↑(ByteArray.size x0) : Int)) (ifs ((0 : Int) ≤ x1 ∧ x1 ≤ x2) (Option.bind (cR (nat_lit 147) [RT.d Ty.bool] [inj Ty.str (ByteArray.extract x0 (Int.toNat x1) (Int.toNat x2))]) fun r => ifs ((!r) = true) (some (injRs [RT.own (9 : Go.TypeId) Ty.str] [])) (ifs ((0 : Int) ≤ x2 ∧ x2 ≤ (↑(ByteArray.size x0) : Int)) (ifs ((0 : Int) ≤ x1 ∧ x1 ≤ x2) (ifs ((List.length x3 + (1 : Nat)) * nat_lit 16 ≤ (140737488355328 : Nat)) (l98_6 x0 (Go.IntKind.wrap Go.IntKind.i64 (x2 + (1 : Int))) (Go.IntKind.wrap Go.IntKind.i64 (x2 + (1 : Int))) (List.take (List.length x3) x3 ++ [ByteArray.extract x0 (Int.toNat x1) (Int.toNat x2)])) none) none) none)) none) none)) (ifs (decide ((↑(List.length x3) : Int) > (16 : Int)) = true) (some (injRs [RT.own (9 : Go.TypeId) Ty.str] [])) (some (injRs [RT.own (9 : Go.TypeId) Ty.str] (List.take (List.length x3) x3)))) := by kernel_rfl
theorem e79 (a0 : ByteArray) : callG W0 (callW W0) (cutW W0) 79 [inj Ty.str a0] = Option.bind (cR (nat_lit 98) [RT.own (9 : Go.TypeId) Ty.str] [inj Ty.str a0]) fun r => some (injRs [RT.d Ty.bool] (decide ((↑(List.length r) : Int) > (0 : Int)))) := by kernel_rfl
noncomputable def td144_4 : List Item := (findT (code Tryd.f144) [] 4).getD []
noncomputable def l144_4 (x0 : ByteArray) (x1 : Int) : Option (List RV) := cutW W0 n144 td144_4 { fr := [((0 : Nat), F.a (A.c (C.sc (Go.Value.string x0)))), ((3 : Nat), F.a (A.c (C.sc (Go.Value.int Go.IntKind.i64 x1))))], mem := [], nx := (0 : Nat) }
theorem e144 (a0 : ByteArray) : callG W0 (callW W0) (cutW W0) 144 [inj Ty.str a0] = ifs (decide ((↑(ByteArray.size a0) : Int) > (200 : Int)) = true) (some (injRs [RT.d Ty.bool] false)) (l144_4 a0 (0 : Int)) := by kernel_rfl
theorem q144_4 (x0 : ByteArray) (x1 : Int) : cutG W0 (callW W0) (cutW W0) n144 td144_4 { fr := [((0 : Nat), F.a (A.c (C.sc (Go.Value.string x0)))), ((3 : Nat), F.a (A.c (C.sc (Go.Value.int Go.IntKind.i64 x1))))], mem := [], nx := (0 : Nat) } = ifs (decide (x1 < (↑(ByteArray.size x0) : Int)) = true) (ifs ((0 : Int) ≤ (↑(ByteArray.size x0) : Int) ∧ (↑(ByteArray.size x0) : Int) ≤ (↑(ByteArray.size x0) : Int)) (ifs ((0 : Int) ≤ x1 ∧ x1 ≤ (↑(ByteArray.size x0) : Int)) (Option.bind (cR (nat_lit 177) [RT.d (Ty.int Go.IntKind.i32), RT.d (Ty.int Go.IntKind.i64)] [inj Ty.str (ByteArray.extract x0 (Int.toNat x1) (Int.toNat (↑(ByteArray.size x0) : Int)))]) fun r => ifs ((r.fst == (65533 : Int)) = true) (ifs ((r.snd == (1 : Int)) = false) (ifs (decide (r.fst < (32 : Int)) = true) (ifs ((r.fst != (9 : Int)) = true) (some (injRs [RT.d Ty.bool] false)) (l144_4 x0 (Go.IntKind.wrap Go.IntKind.i64 (x1 + r.snd)))) (l144_4 x0 (Go.IntKind.wrap Go.IntKind.i64 (x1 + r.snd)))) (some (injRs [RT.d Ty.bool] false))) (ifs (decide (r.fst < (32 : Int)) = true) (ifs ((r.fst != (9 : Int)) = true) (some (injRs [RT.d Ty.bool] false)) (l144_4 x0 (Go.IntKind.wrap Go.IntKind.i64 (x1 + r.snd)))) (l144_4 x0 (Go.IntKind.wrap Go.IntKind.i64 (x1 + r.snd))))) none) none) (some (injRs [RT.d Ty.bool] true)) := by kernel_rfl
noncomputable def td94_4 : List Item := (findT (code Tryd.f94) [] 4).getD []
noncomputable def l94_4 (x0 : List ByteArray) (x1 : Int) : Option (List RV) := cutW W0 n94 td94_4 { fr := [((0 : Nat), F.a (A.c (C.sl Ty.str x0))), ((3 : Nat), F.a (A.c (C.sc (Go.Value.int Go.IntKind.i64 x1))))], mem := [], nx := (0 : Nat) }
theorem e94 (a0 : List ByteArray) : callG W0 (callW W0) (cutW W0) 94 [inj (Ty.sl Ty.str) a0] = ifs (decide ((↑(List.length a0) : Int) > (2000 : Int)) = true) (some (injRs [RT.d (Ty.int Go.IntKind.i64)] (4 : Int))) (l94_4 a0 (0 : Int)) := by kernel_rfl
theorem q94_4 (x0 : List ByteArray) (x1 : Int) : cutG W0 (callW W0) (cutW W0) n94 td94_4 { fr := [((0 : Nat), F.a (A.c (C.sl Ty.str x0))), ((3 : Nat), F.a (A.c (C.sc (Go.Value.int Go.IntKind.i64 x1))))], mem := [], nx := (0 : Nat) } = ifs (decide (x1 < (↑(List.length x0) : Int)) = true) (ifs ((0 : Int) ≤ x1) (Option.bind x0[Int.toNat x1]? fun r => Option.bind (cR (nat_lit 144) [RT.d Ty.bool] [inj Ty.str r]) fun r => ifs ((!r) = true) (some (injRs [RT.d (Ty.int Go.IntKind.i64)] (6 : Int))) (l94_4 x0 (Go.IntKind.wrap Go.IntKind.i64 (x1 + (1 : Int))))) none) (some (injRs [RT.d (Ty.int Go.IntKind.i64)] (0 : Int))) := by kernel_rfl
theorem e67 (a0 : Int × ByteArray × ByteArray × Int × List ByteArray × List ByteArray) : callG W0 (callW W0) (cutW W0) 67 [inj ty24 a0] = ifs (decide (a0.fst < (1 : Int)) = false) (ifs (decide (a0.fst > (6 : Int)) = false) (ifs ((a0.fst != (5 : Int)) = true) (ifs ((!ByteArray.toList a0.snd.snd.fst == ByteArray.toList { data := #[] }) = false) (ifs ((a0.fst != (6 : Int)) = true) (ifs ((a0.snd.snd.snd.fst != (0 : Int)) = false) (ifs (decide (Go.IntKind.wrap Go.IntKind.i64 ((↑(List.length a0.snd.snd.snd.snd.fst) : Int) + (↑(List.length a0.snd.snd.snd.snd.snd) : Int)) > (0 : Int)) = true) (some (injRs [RT.d (Ty.int Go.IntKind.i64)] (2 : Int))) (Option.bind (cR (nat_lit 79) [RT.d Ty.bool] [inj Ty.str a0.snd.fst]) fun r => ifs ((!r) = false) (ifs ((a0.fst == (5 : Int)) = true) (Option.bind (cR (nat_lit 79) [RT.d Ty.bool] [inj Ty.str a0.snd.snd.fst]) fun r => ifs ((!r) = false) (ifs ((ByteArray.toList a0.snd.fst == ByteArray.toList a0.snd.snd.fst) = true) (some (injRs [RT.d (Ty.int Go.IntKind.i64)] (8 : Int))) (ifs ((a0.fst == (6 : Int)) = true) (ifs (decide (a0.snd.snd.snd.fst < (0 : Int)) = false) (ifs ((Go.IntKind.wrap Go.IntKind.i64 ((↑(List.length a0.snd.snd.snd.snd.fst) : Int) + (↑(List.length a0.snd.snd.snd.snd.snd) : Int)) == (0 : Int)) = false) (Option.bind (cR (nat_lit 94) [RT.d (Ty.int Go.IntKind.i64)] [inj (Ty.sl Ty.str) a0.snd.snd.snd.snd.fst]) fun r => ifs ((r != (0 : Int)) = false) (Option.bind (cR (nat_lit 94) [RT.d (Ty.int Go.IntKind.i64)] [inj (Ty.sl Ty.str) a0.snd.snd.snd.snd.snd]) fun r => ifs ((r != (0 : Int)) = true) (some (injRs [RT.d (Ty.int Go.IntKind.i64)] (6 : Int))) (some (injRs [RT.d (Ty.int Go.IntKind.i64)] (0 : Int)))) (some (injRs [RT.d (Ty.int Go.IntKind.i64)] (6 : Int)))) (some (injRs [RT.d (Ty.int Go.IntKind.i64)] (6 : Int)))) (some (injRs [RT.d (Ty.int Go.IntKind.i64)] (6 : Int)))) (some (injRs [RT.d (Ty.int Go.IntKind.i64)] (0 : Int))))) (some (injRs [RT.d (Ty.int Go.IntKind.i64)] (8 : Int)))) (ifs ((a0.fst == (6 : Int)) = true) (ifs (decide (a0.snd.snd.snd.fst < (0 : Int)) = false) (ifs ((Go.IntKind.wrap Go.IntKind.i64 ((↑(List.length a0.snd.snd.snd.snd.fst) : Int) + (↑(List.length a0.snd.snd.snd.snd.snd) : Int)) == (0 : Int)) = false) (Option.bind (cR (nat_lit 94) [RT.d (Ty.int Go.IntKind.i64)] [inj (Ty.sl Ty.str) a0.snd.snd.snd.snd.fst]) fun r => ifs ((r != (0 : Int)) = false) (Option.bind (cR (nat_lit 94) [RT.d (Ty.int Go.IntKind.i64)] [inj (Ty.sl Ty.str) a0.snd.snd.snd.snd.snd]) fun r => ifs ((r != (0 : Int)) = true) (some (injRs [RT.d (Ty.int Go.IntKind.i64)] (6 : Int))) (some (injRs [RT.d (Ty.int Go.IntKind.i64)] (0 : Int)))) (some (injRs [RT.d (Ty.int Go.IntKind.i64)] (6 : Int)))) (some (injRs [RT.d (Ty.int Go.IntKind.i64)] (6 : Int)))) (some (injRs [RT.d (Ty.int Go.IntKind.i64)] (6 : Int)))) (some (injRs [RT.d (Ty.int Go.IntKind.i64)] (0 : Int))))) (some (injRs [RT.d (Ty.int Go.IntKind.i64)] (8 : Int))))) (some (injRs [RT.d (Ty.int Go.IntKind.i64)] (2 : Int)))) (Option.bind (cR (nat_lit 79) [RT.d Ty.bool] [inj Ty.str a0.snd.fst]) fun r => ifs ((!r) = false) (ifs ((a0.fst == (5 : Int)) = true) (Option.bind (cR (nat_lit 79) [RT.d Ty.bool] [inj Ty.str a0.snd.snd.fst]) fun r => ifs ((!r) = false) (ifs ((ByteArray.toList a0.snd.fst == ByteArray.toList a0.snd.snd.fst) = true) (some (injRs [RT.d (Ty.int Go.IntKind.i64)] (8 : Int))) (ifs ((a0.fst == (6 : Int)) = true) (ifs (decide (a0.snd.snd.snd.fst < (0 : Int)) = false) (ifs ((Go.IntKind.wrap Go.IntKind.i64 ((↑(List.length a0.snd.snd.snd.snd.fst) : Int) + (↑(List.length a0.snd.snd.snd.snd.snd) : Int)) == (0 : Int)) = false) (Option.bind (cR (nat_lit 94) [RT.d (Ty.int Go.IntKind.i64)] [inj (Ty.sl Ty.str) a0.snd.snd.snd.snd.fst]) fun r => ifs ((r != (0 : Int)) = false) (Option.bind (cR (nat_lit 94) [RT.d (Ty.int Go.IntKind.i64)] [inj (Ty.sl Ty.str) a0.snd.snd.snd.snd.snd]) fun r => ifs ((r != (0 : Int)) = true) (some (injRs [RT.d (Ty.int Go.IntKind.i64)] (6 : Int))) (some (injRs [RT.d (Ty.int Go.IntKind.i64)] (0 : Int)))) (some (injRs [RT.d (Ty.int Go.IntKind.i64)] (6 : Int)))) (some (injRs [RT.d (Ty.int Go.IntKind.i64)] (6 : Int)))) (some (injRs [RT.d (Ty.int Go.IntKind.i64)] (6 : Int)))) (some (injRs [RT.d (Ty.int Go.IntKind.i64)] (0 : Int))))) (some (injRs [RT.d (Ty.int Go.IntKind.i64)] (8 : Int)))) (ifs ((a0.fst == (6 : Int)) = true) (ifs (decide (a0.snd.snd.snd.fst < (0 : Int)) = false) (ifs ((Go.IntKind.wrap Go.IntKind.i64 ((↑(List.length a0.snd.snd.snd.snd.fst) : Int) + (↑(List.length a0.snd.snd.snd.snd.snd) : Int)) == (0 : Int)) = false) (Option.bind (cR (nat_lit 94) [RT.d (Ty.int Go.IntKind.i64)] [inj (Ty.sl Ty.str) a0.snd.snd.snd.snd.fst]) fun r => ifs ((r != (0 : Int)) = false) (Option.bind (cR (nat_lit 94) [RT.d (Ty.int Go.IntKind.i64)] [inj (Ty.sl Ty.str) a0.snd.snd.snd.snd.snd]) fun r => ifs ((r != (0 : Int)) = true) (some (injRs [RT.d (Ty.int Go.IntKind.i64)] (6 : Int))) (some (injRs [RT.d (Ty.int Go.IntKind.i64)] (0 : Int)))) (some (injRs [RT.d (Ty.int Go.IntKind.i64)] (6 : Int)))) (some (injRs [RT.d (Ty.int Go.IntKind.i64)] (6 : Int)))) (some (injRs [RT.d (Ty.int Go.IntKind.i64)] (6 : Int)))) (some (injRs [RT.d (Ty.int Go.IntKind.i64)] (0 : Int))))) (some (injRs [RT.d (Ty.int Go.IntKind.i64)] (8 : Int))))) (some (injRs [RT.d (Ty.int Go.IntKind.i64)] (2 : Int)))) (ifs ((a0.fst != (6 : Int)) = true) (ifs ((a0.snd.snd.snd.fst != (0 : Int)) = false) (ifs (decide (Go.IntKind.wrap Go.IntKind.i64 ((↑(List.length a0.snd.snd.snd.snd.fst) : Int) + (↑(List.length a0.snd.snd.snd.snd.snd) : Int)) > (0 : Int)) = true) (some (injRs [RT.d (Ty.int Go.IntKind.i64)] (2 : Int))) (Option.bind (cR (nat_lit 79) [RT.d Ty.bool] [inj Ty.str a0.snd.fst]) fun r => ifs ((!r) = false) (ifs ((a0.fst == (5 : Int)) = true) (Option.bind (cR (nat_lit 79) [RT.d Ty.bool] [inj Ty.str a0.snd.snd.fst]) fun r => ifs ((!r) = false) (ifs ((ByteArray.toList a0.snd.fst == ByteArray.toList a0.snd.snd.fst) = true) (some (injRs [RT.d (Ty.int Go.IntKind.i64)] (8 : Int))) (ifs ((a0.fst == (6 : Int)) = true) (ifs (decide (a0.snd.snd.snd.fst < (0 : Int)) = false) (ifs ((Go.IntKind.wrap Go.IntKind.i64 ((↑(List.length a0.snd.snd.snd.snd.fst) : Int) + (↑(List.length a0.snd.snd.snd.snd.snd) : Int)) == (0 : Int)) = false) (Option.bind (cR (nat_lit 94) [RT.d (Ty.int Go.IntKind.i64)] [inj (Ty.sl Ty.str) a0.snd.snd.snd.snd.fst]) fun r => ifs ((r != (0 : Int)) = false) (Option.bind (cR (nat_lit 94) [RT.d (Ty.int Go.IntKind.i64)] [inj (Ty.sl Ty.str) a0.snd.snd.snd.snd.snd]) fun r => ifs ((r != (0 : Int)) = true) (some (injRs [RT.d (Ty.int Go.IntKind.i64)] (6 : Int))) (some (injRs [RT.d (Ty.int Go.IntKind.i64)] (0 : Int)))) (some (injRs [RT.d (Ty.int Go.IntKind.i64)] (6 : Int)))) (some (injRs [RT.d (Ty.int Go.IntKind.i64)] (6 : Int)))) (some (injRs [RT.d (Ty.int Go.IntKind.i64)] (6 : Int)))) (some (injRs [RT.d (Ty.int Go.IntKind.i64)] (0 : Int))))) (some (injRs [RT.d (Ty.int Go.IntKind.i64)] (8 : Int)))) (ifs ((a0.fst == (6 : Int)) = true) (ifs (decide (a0.snd.snd.snd.fst < (0 : Int)) = false) (ifs ((Go.IntKind.wrap Go.IntKind.i64 ((↑(List.length a0.snd.snd.snd.snd.fst) : Int) + (↑(List.length a0.snd.snd.snd.snd.snd) : Int)) == (0 : Int)) = false) (Option.bind (cR (nat_lit 94) [RT.d (Ty.int Go.IntKind.i64)] [inj (Ty.sl Ty.str) a0.snd.snd.snd.snd.fst]) fun r => ifs ((r != (0 : Int)) = false) (Option.bind (cR (nat_lit 94) [RT.d (Ty.int Go.IntKind.i64)] [inj (Ty.sl Ty.str) a0.snd.snd.snd.snd.snd]) fun r => ifs ((r != (0 : Int)) = true) (some (injRs [RT.d (Ty.int Go.IntKind.i64)] (6 : Int))) (some (injRs [RT.d (Ty.int Go.IntKind.i64)] (0 : Int)))) (some (injRs [RT.d (Ty.int Go.IntKind.i64)] (6 : Int)))) (some (injRs [RT.d (Ty.int Go.IntKind.i64)] (6 : Int)))) (some (injRs [RT.d (Ty.int Go.IntKind.i64)] (6 : Int)))) (some (injRs [RT.d (Ty.int Go.IntKind.i64)] (0 : Int))))) (some (injRs [RT.d (Ty.int Go.IntKind.i64)] (8 : Int))))) (some (injRs [RT.d (Ty.int Go.IntKind.i64)] (2 : Int)))) (Option.bind (cR (nat_lit 79) [RT.d Ty.bool] [inj Ty.str a0.snd.fst]) fun r => ifs ((!r) = false) (ifs ((a0.fst == (5 : Int)) = true) (Option.bind (cR (nat_lit 79) [RT.d Ty.bool] [inj Ty.str a0.snd.snd.fst]) fun r => ifs ((!r) = false) (ifs ((ByteArray.toList a0.snd.fst == ByteArray.toList a0.snd.snd.fst) = true) (some (injRs [RT.d (Ty.int Go.IntKind.i64)] (8 : Int))) (ifs ((a0.fst == (6 : Int)) = true) (ifs (decide (a0.snd.snd.snd.fst < (0 : Int)) = false) (ifs ((Go.IntKind.wrap Go.IntKind.i64 ((↑(List.length a0.snd.snd.snd.snd.fst) : Int) + (↑(List.length a0.snd.snd.snd.snd.snd) : Int)) == (0 : Int)) = false) (Option.bind (cR (nat_lit 94) [RT.d (Ty.int Go.IntKind.i64)] [inj (Ty.sl Ty.str) a0.snd.snd.snd.snd.fst]) fun r => ifs ((r != (0 : Int)) = false) (Option.bind (cR (nat_lit 94) [RT.d (Ty.int Go.IntKind.i64)] [inj (Ty.sl Ty.str) a0.snd.snd.snd.snd.snd]) fun r => ifs ((r != (0 : Int)) = true) (some (injRs [RT.d (Ty.int Go.IntKind.i64)] (6 : Int))) (some (injRs [RT.d (Ty.int Go.IntKind.i64)] (0 : Int)))) (some (injRs [RT.d (Ty.int Go.IntKind.i64)] (6 : Int)))) (some (injRs [RT.d (Ty.int Go.IntKind.i64)] (6 : Int)))) (some (injRs [RT.d (Ty.int Go.IntKind.i64)] (6 : Int)))) (some (injRs [RT.d (Ty.int Go.IntKind.i64)] (0 : Int))))) (some (injRs [RT.d (Ty.int Go.IntKind.i64)] (8 : Int)))) (ifs ((a0.fst == (6 : Int)) = true) (ifs (decide (a0.snd.snd.snd.fst < (0 : Int)) = false) (ifs ((Go.IntKind.wrap Go.IntKind.i64 ((↑(List.length a0.snd.snd.snd.snd.fst) : Int) + (↑(List.length a0.snd.snd.snd.snd.snd) : Int)) == (0 : Int)) = false) (Option.bind (cR (nat_lit 94) [RT.d (Ty.int Go.IntKind.i64)] [inj (Ty.sl Ty.str) a0.snd.snd.snd.snd.fst]) fun r => ifs ((r != (0 : Int)) = false) (Option.bind (cR (nat_lit 94) [RT.d (Ty.int Go.IntKind.i64)] [inj (Ty.sl Ty.str) a0.snd.snd.snd.snd.snd]) fun r => ifs ((r != (0 : Int)) = true) (some (injRs [RT.d (Ty.int Go.IntKind.i64)] (6 : Int))) (some (injRs [RT.d (Ty.int Go.IntKind.i64)] (0 : Int)))) (some (injRs [RT.d (Ty.int Go.IntKind.i64)] (6 : Int)))) (some (injRs [RT.d (Ty.int Go.IntKind.i64)] (6 : Int)))) (some (injRs [RT.d (Ty.int Go.IntKind.i64)] (6 : Int)))) (some (injRs [RT.d (Ty.int Go.IntKind.i64)] (0 : Int))))) (some (injRs [RT.d (Ty.int Go.IntKind.i64)] (8 : Int)))))) (some (injRs [RT.d (Ty.int Go.IntKind.i64)] (2 : Int)))) (some (injRs [RT.d (Ty.int Go.IntKind.i64)] (2 : Int))) := by kernel_rfl
theorem e21 (a0 : Int × ByteArray × ByteArray × Int × List ByteArray × List ByteArray) (a1 : Int × ByteArray × ByteArray × Int × List ByteArray × List ByteArray) : callG W0 (callW W0) (cutW W0) 21 [inj ty24 a0, inj ty24 a1] = ifs ((a0.fst != (6 : Int)) = false) (ifs ((a1.fst != (6 : Int)) = false) (ifs ((!ByteArray.toList a0.snd.fst == ByteArray.toList a1.snd.fst) = false) (Option.bind (cR (nat_lit 67) [RT.d (Ty.int Go.IntKind.i64)] [inj ty24 a0]) fun r => ifs ((r != (0 : Int)) = false) (Option.bind (cR (nat_lit 67) [RT.d (Ty.int Go.IntKind.i64)] [inj ty24 a1]) fun r => ifs ((r != (0 : Int)) = true) (some (injRs [RT.d Ty.bool] false)) (ifs (decide (Go.IntKind.wrap Go.IntKind.i64 (a1.snd.snd.snd.fst - a0.snd.snd.snd.fst) ≤ (↑(List.length a0.snd.snd.snd.snd.snd) : Int)) = true) (some (injRs [RT.d Ty.bool] (decide (Go.IntKind.wrap Go.IntKind.i64 (a0.snd.snd.snd.fst - a1.snd.snd.snd.fst) ≤ (↑(List.length a1.snd.snd.snd.snd.fst) : Int))))) (some (injRs [RT.d Ty.bool] false)))) (some (injRs [RT.d Ty.bool] false))) (some (injRs [RT.d Ty.bool] false))) (some (injRs [RT.d Ty.bool] false))) (some (injRs [RT.d Ty.bool] false)) := by kernel_rfl
theorem e71 (a0 : Int) (a1 : Int) : callG W0 (callW W0) (cutW W0) 71 [inj (Ty.int Go.IntKind.i64) a0, inj (Ty.int Go.IntKind.i64) a1] = ifs (decide (a0 < a1) = true) (some (injRs [RT.d (Ty.int Go.IntKind.i64)] a0)) (some (injRs [RT.d (Ty.int Go.IntKind.i64)] a1)) := by kernel_rfl
theorem e72 (a0 : Int) (a1 : Int) : callG W0 (callW W0) (cutW W0) 72 [inj (Ty.int Go.IntKind.i64) a0, inj (Ty.int Go.IntKind.i64) a1] = ifs (decide (a0 > a1) = true) (some (injRs [RT.d (Ty.int Go.IntKind.i64)] a0)) (some (injRs [RT.d (Ty.int Go.IntKind.i64)] a1)) := by kernel_rfl
theorem e68 (a0 : Int × ByteArray × ByteArray × Int × List ByteArray × List ByteArray) : callG W0 (callW W0) (cutW W0) 68 [inj ty24 a0] = ifs (decide (a0.fst ≥ (1 : Int)) = true) (ifs (decide (a0.fst ≤ (6 : Int)) = true) (ifs ((0 : Int) ≤ a0.fst ∧ a0.fst < (↑(7 : Nat) : Int)) (Option.bind [(0 : Int), (2 : Int), (1 : Int), (4 : Int), (3 : Int), (5 : Int), (6 : Int)][Int.toNat a0.fst]? fun r => ifs ((a0.fst == (5 : Int)) = true) (some (injRs [RT.d ty24] (r, a0.snd.snd.fst, a0.snd.fst, a0.snd.snd.snd.fst, a0.snd.snd.snd.snd.snd, a0.snd.snd.snd.snd.fst))) (some (injRs [RT.d ty24] (r, a0.snd.fst, a0.snd.snd.fst, a0.snd.snd.snd.fst, a0.snd.snd.snd.snd.snd, a0.snd.snd.snd.snd.fst)))) none) (ifs ((a0.fst == (5 : Int)) = true) (some (injRs [RT.d ty24] (a0.fst, a0.snd.snd.fst, a0.snd.fst, a0.snd.snd.snd.fst, a0.snd.snd.snd.snd.snd, a0.snd.snd.snd.snd.fst))) (some (injRs [RT.d ty24] (a0.fst, a0.snd.fst, a0.snd.snd.fst, a0.snd.snd.snd.fst, a0.snd.snd.snd.snd.snd, a0.snd.snd.snd.snd.fst))))) (ifs ((a0.fst == (5 : Int)) = true) (some (injRs [RT.d ty24] (a0.fst, a0.snd.snd.fst, a0.snd.fst, a0.snd.snd.snd.fst, a0.snd.snd.snd.snd.snd, a0.snd.snd.snd.snd.fst))) (some (injRs [RT.d ty24] (a0.fst, a0.snd.fst, a0.snd.snd.fst, a0.snd.snd.snd.fst, a0.snd.snd.snd.snd.snd, a0.snd.snd.snd.snd.fst)))) := by kernel_rfl
noncomputable def td19_8 : List Item := (findT (code Tryd.f19) [] 8).getD []
noncomputable def l19_8 (x0 : Bool) (x1 : Bool) (x2 : Int) (x3 : Int) (x4 : Int) (x5 : ByteArray) (x6 : ByteArray) (x7 : Int) (x8 : List ByteArray) (x9 : List ByteArray) (x10 : Int) (x11 : ByteArray) (x12 : ByteArray) (x13 : Int) (x14 : List ByteArray) (x15 : List ByteArray) (x16 : Int) (x17 : ByteArray) (x18 : ByteArray) (x19 : Int) (x20 : Int) (x21 : ByteArray) (x22 : ByteArray) (x23 : Int) (x24 : List ByteArray) (x25 : List ByteArray) : Option (List RV) := cutW W0 n19 td19_8 { fr := [((2 : Nat), F.a (A.c (C.pt (Pt.own (0 : Nat) (0 : Nat) (0 : Nat))))), ((3 : Nat), F.a (A.c (C.pt (Pt.own (1 : Nat) (0 : Nat) (0 : Nat))))), ((4 : Nat), F.a (A.c (C.pt (Pt.own (2 : Nat) (0 : Nat) (0 : Nat))))), ((6 : Nat), F.a (A.c (C.pt (Pt.own (3 : Nat) (0 : Nat) (0 : Nat))))), ((7 : Nat), F.a (A.c (C.sc (Go.Value.bool x0)))), ((8 : Nat), F.a (A.c (C.sc (Go.Value.bool x1)))), ((9 : Nat), F.a (A.c (C.sc (Go.Value.int Go.IntKind.i64 x2)))), ((10 : Nat), F.a (A.c (C.sc (Go.Value.int Go.IntKind.i64 x3))))], mem := [some (Row.box (24 : Nat) (some ty24) [C.sc (Go.Value.int Go.IntKind.i64 x4), C.sc (Go.Value.string x5), C.sc (Go.Value.string x6), C.sc (Go.Value.int Go.IntKind.i64 x7), C.sl Ty.str x8, C.sl Ty.str x9] false), some (Row.box (24 : Nat) (some ty24) [C.sc (Go.Value.int Go.IntKind.i64 x10), C.sc (Go.Value.string x11), C.sc (Go.Value.string x12), C.sc (Go.Value.int Go.IntKind.i64 x13), C.sl Ty.str x14, C.sl Ty.str x15] false), some (Row.box (24 : Nat) (some ty24) [C.sc (Go.Value.int Go.IntKind.i64 x16), C.sc (Go.Value.string x17), C.sc (Go.Value.string x18), C.sc (Go.Value.int Go.IntKind.i64 x19), C.nl, C.nl] false), some (Row.box (24 : Nat) (some ty24) [C.sc (Go.Value.int Go.IntKind.i64 x20), C.sc (Go.Value.string x21), C.sc (Go.Value.string x22), C.sc (Go.Value.int Go.IntKind.i64 x23), C.ow (4 : Nat) (List.length x24), C.ow (5 : Nat) (List.length x25)] false), some (Row.arr (9 : Nat) Ty.str x24 false), some (Row.arr (9 : Nat) Ty.str x25 false)], nx := (6 : Nat) }
noncomputable def td19_13 : List Item := (findT (code Tryd.f19) [] 13).getD []
noncomputable def l19_13 (x0 : Bool) (x1 : Bool) (x2 : Int) (x3 : Int) (x4 : Int) (x5 : ByteArray) (x6 : ByteArray) (x7 : Int) (x8 : List ByteArray) (x9 : List ByteArray) (x10 : Int) (x11 : ByteArray) (x12 : ByteArray) (x13 : Int) (x14 : List ByteArray) (x15 : List ByteArray) (x16 : Int) (x17 : ByteArray) (x18 : ByteArray) (x19 : Int) (x20 : Int) (x21 : ByteArray) (x22 : ByteArray) (x23 : Int) (x24 : List ByteArray) (x25 : List ByteArray) : Option (List RV) := cutW W0 n19 td19_13 { fr := [((2 : Nat), F.a (A.c (C.pt (Pt.own (0 : Nat) (0 : Nat) (0 : Nat))))), ((3 : Nat), F.a (A.c (C.pt (Pt.own (1 : Nat) (0 : Nat) (0 : Nat))))), ((4 : Nat), F.a (A.c (C.pt (Pt.own (2 : Nat) (0 : Nat) (0 : Nat))))), ((6 : Nat), F.a (A.c (C.pt (Pt.own (3 : Nat) (0 : Nat) (0 : Nat))))), ((7 : Nat), F.a (A.c (C.sc (Go.Value.bool x0)))), ((8 : Nat), F.a (A.c (C.sc (Go.Value.bool x1)))), ((9 : Nat), F.a (A.c (C.sc (Go.Value.int Go.IntKind.i64 x2)))), ((10 : Nat), F.a (A.c (C.sc (Go.Value.int Go.IntKind.i64 x3))))], mem := [some (Row.box (24 : Nat) (some ty24) [C.sc (Go.Value.int Go.IntKind.i64 x4), C.sc (Go.Value.string x5), C.sc (Go.Value.string x6), C.sc (Go.Value.int Go.IntKind.i64 x7), C.sl Ty.str x8, C.sl Ty.str x9] false), some (Row.box (24 : Nat) (some ty24) [C.sc (Go.Value.int Go.IntKind.i64 x10), C.sc (Go.Value.string x11), C.sc (Go.Value.string x12), C.sc (Go.Value.int Go.IntKind.i64 x13), C.sl Ty.str x14, C.sl Ty.str x15] false), some (Row.box (24 : Nat) (some ty24) [C.sc (Go.Value.int Go.IntKind.i64 x16), C.sc (Go.Value.string x17), C.sc (Go.Value.string x18), C.sc (Go.Value.int Go.IntKind.i64 x19), C.nl, C.nl] false), some (Row.box (24 : Nat) (some ty24) [C.sc (Go.Value.int Go.IntKind.i64 x20), C.sc (Go.Value.string x21), C.sc (Go.Value.string x22), C.sc (Go.Value.int Go.IntKind.i64 x23), C.ow (4 : Nat) (List.length x24), C.ow (5 : Nat) (List.length x25)] false), some (Row.arr (9 : Nat) Ty.str x24 false), some (Row.arr (9 : Nat) Ty.str x25 false)], nx := (6 : Nat) }
noncomputable def td19_16 : List Item := (findT (code Tryd.f19) [] 16).getD []
noncomputable def l19_16 (x0 : Bool) (x1 : Bool) (x2 : Int) (x3 : Int) (x4 : Int) (x5 : ByteArray) (x6 : ByteArray) (x7 : Int) (x8 : List ByteArray) (x9 : List ByteArray) (x10 : Int) (x11 : ByteArray) (x12 : ByteArray) (x13 : Int) (x14 : List ByteArray) (x15 : List ByteArray) (x16 : Int) (x17 : ByteArray) (x18 : ByteArray) (x19 : Int) (x20 : Int) (x21 : ByteArray) (x22 : ByteArray) (x23 : Int) (x24 : List ByteArray) (x25 : List ByteArray) : Option (List RV) := cutW W0 n19 td19_16 { fr := [((2 : Nat), F.a (A.c (C.pt (Pt.own (0 : Nat) (0 : Nat) (0 : Nat))))), ((3 : Nat), F.a (A.c (C.pt (Pt.own (1 : Nat) (0 : Nat) (0 : Nat))))), ((4 : Nat), F.a (A.c (C.pt (Pt.own (2 : Nat) (0 : Nat) (0 : Nat))))), ((6 : Nat), F.a (A.c (C.pt (Pt.own (3 : Nat) (0 : Nat) (0 : Nat))))), ((7 : Nat), F.a (A.c (C.sc (Go.Value.bool x0)))), ((8 : Nat), F.a (A.c (C.sc (Go.Value.bool x1)))), ((9 : Nat), F.a (A.c (C.sc (Go.Value.int Go.IntKind.i64 x2)))), ((10 : Nat), F.a (A.c (C.sc (Go.Value.int Go.IntKind.i64 x3))))], mem := [some (Row.box (24 : Nat) (some ty24) [C.sc (Go.Value.int Go.IntKind.i64 x4), C.sc (Go.Value.string x5), C.sc (Go.Value.string x6), C.sc (Go.Value.int Go.IntKind.i64 x7), C.sl Ty.str x8, C.sl Ty.str x9] false), some (Row.box (24 : Nat) (some ty24) [C.sc (Go.Value.int Go.IntKind.i64 x10), C.sc (Go.Value.string x11), C.sc (Go.Value.string x12), C.sc (Go.Value.int Go.IntKind.i64 x13), C.sl Ty.str x14, C.sl Ty.str x15] false), some (Row.box (24 : Nat) (some ty24) [C.sc (Go.Value.int Go.IntKind.i64 x16), C.sc (Go.Value.string x17), C.sc (Go.Value.string x18), C.sc (Go.Value.int Go.IntKind.i64 x19), C.nl, C.nl] false), some (Row.box (24 : Nat) (some ty24) [C.sc (Go.Value.int Go.IntKind.i64 x20), C.sc (Go.Value.string x21), C.sc (Go.Value.string x22), C.sc (Go.Value.int Go.IntKind.i64 x23), C.ow (4 : Nat) (List.length x24), C.ow (5 : Nat) (List.length x25)] false), some (Row.arr (9 : Nat) Ty.str x24 false), some (Row.arr (9 : Nat) Ty.str x25 false)], nx := (6 : Nat) }
noncomputable def td19_17 : List Item := (findT (code Tryd.f19) [] 17).getD []
noncomputable def l19_17 (x0 : Bool) (x1 : Bool) (x2 : Int) (x3 : Int) (x4 : Bool) (x5 : Int) (x6 : ByteArray) (x7 : ByteArray) (x8 : Int) (x9 : List ByteArray) (x10 : List ByteArray) (x11 : Int) (x12 : ByteArray) (x13 : ByteArray) (x14 : Int) (x15 : List ByteArray) (x16 : List ByteArray) (x17 : Int) (x18 : ByteArray) (x19 : ByteArray) (x20 : Int) (x21 : Int) (x22 : ByteArray) (x23 : ByteArray) (x24 : Int) (x25 : List ByteArray) (x26 : List ByteArray) : Option (List RV) := cutW W0 n19 td19_17 { fr := [((2 : Nat), F.a (A.c (C.pt (Pt.own (0 : Nat) (0 : Nat) (0 : Nat))))), ((3 : Nat), F.a (A.c (C.pt (Pt.own (1 : Nat) (0 : Nat) (0 : Nat))))), ((4 : Nat), F.a (A.c (C.pt (Pt.own (2 : Nat) (0 : Nat) (0 : Nat))))), ((6 : Nat), F.a (A.c (C.pt (Pt.own (3 : Nat) (0 : Nat) (0 : Nat))))), ((7 : Nat), F.a (A.c (C.sc (Go.Value.bool x0)))), ((8 : Nat), F.a (A.c (C.sc (Go.Value.bool x1)))), ((9 : Nat), F.a (A.c (C.sc (Go.Value.int Go.IntKind.i64 x2)))), ((10 : Nat), F.a (A.c (C.sc (Go.Value.int Go.IntKind.i64 x3)))), ((11 : Nat), F.a (A.c (C.sc (Go.Value.bool x4))))], mem := [some (Row.box (24 : Nat) (some ty24) [C.sc (Go.Value.int Go.IntKind.i64 x5), C.sc (Go.Value.string x6), C.sc (Go.Value.string x7), C.sc (Go.Value.int Go.IntKind.i64 x8), C.sl Ty.str x9, C.sl Ty.str x10] false), some (Row.box (24 : Nat) (some ty24) [C.sc (Go.Value.int Go.IntKind.i64 x11), C.sc (Go.Value.string x12), C.sc (Go.Value.string x13), C.sc (Go.Value.int Go.IntKind.i64 x14), C.sl Ty.str x15, C.sl Ty.str x16] false), some (Row.box (24 : Nat) (some ty24) [C.sc (Go.Value.int Go.IntKind.i64 x17), C.sc (Go.Value.string x18), C.sc (Go.Value.string x19), C.sc (Go.Value.int Go.IntKind.i64 x20), C.nl, C.nl] false), some (Row.box (24 : Nat) (some ty24) [C.sc (Go.Value.int Go.IntKind.i64 x21), C.sc (Go.Value.string x22), C.sc (Go.Value.string x23), C.sc (Go.Value.int Go.IntKind.i64 x24), C.ow (4 : Nat) (List.length x25), C.ow (5 : Nat) (List.length x26)] false), some (Row.arr (9 : Nat) Ty.str x25 false), some (Row.arr (9 : Nat) Ty.str x26 false)], nx := (6 : Nat) }
noncomputable def td19_18 : List Item := (findT (code Tryd.f19) [] 18).getD []
noncomputable def l19_18 (x0 : Bool) (x1 : Bool) (x2 : Int) (x3 : Int) (x4 : Bool) (x5 : Bool) (x6 : Int) (x7 : ByteArray) (x8 : ByteArray) (x9 : Int) (x10 : List ByteArray) (x11 : List ByteArray) (x12 : Int) (x13 : ByteArray) (x14 : ByteArray) (x15 : Int) (x16 : List ByteArray) (x17 : List ByteArray) (x18 : Int) (x19 : ByteArray) (x20 : ByteArray) (x21 : Int) (x22 : Int) (x23 : ByteArray) (x24 : ByteArray) (x25 : Int) (x26 : List ByteArray) (x27 : List ByteArray) : Option (List RV) := cutW W0 n19 td19_18 { fr := [((2 : Nat), F.a (A.c (C.pt (Pt.own (0 : Nat) (0 : Nat) (0 : Nat))))), ((3 : Nat), F.a (A.c (C.pt (Pt.own (1 : Nat) (0 : Nat) (0 : Nat))))), ((4 : Nat), F.a (A.c (C.pt (Pt.own (2 : Nat) (0 : Nat) (0 : Nat))))), ((6 : Nat), F.a (A.c (C.pt (Pt.own (3 : Nat) (0 : Nat) (0 : Nat))))), ((7 : Nat), F.a (A.c (C.sc (Go.Value.bool x0)))), ((8 : Nat), F.a (A.c (C.sc (Go.Value.bool x1)))), ((9 : Nat), F.a (A.c (C.sc (Go.Value.int Go.IntKind.i64 x2)))), ((10 : Nat), F.a (A.c (C.sc (Go.Value.int Go.IntKind.i64 x3)))), ((11 : Nat), F.a (A.c (C.sc (Go.Value.bool x4)))), ((12 : Nat), F.a (A.c (C.sc (Go.Value.bool x5))))], mem := [some (Row.box (24 : Nat) (some ty24) [C.sc (Go.Value.int Go.IntKind.i64 x6), C.sc (Go.Value.string x7), C.sc (Go.Value.string x8), C.sc (Go.Value.int Go.IntKind.i64 x9), C.sl Ty.str x10, C.sl Ty.str x11] false), some (Row.box (24 : Nat) (some ty24) [C.sc (Go.Value.int Go.IntKind.i64 x12), C.sc (Go.Value.string x13), C.sc (Go.Value.string x14), C.sc (Go.Value.int Go.IntKind.i64 x15), C.sl Ty.str x16, C.sl Ty.str x17] false), some (Row.box (24 : Nat) (some ty24) [C.sc (Go.Value.int Go.IntKind.i64 x18), C.sc (Go.Value.string x19), C.sc (Go.Value.string x20), C.sc (Go.Value.int Go.IntKind.i64 x21), C.nl, C.nl] false), some (Row.box (24 : Nat) (some ty24) [C.sc (Go.Value.int Go.IntKind.i64 x22), C.sc (Go.Value.string x23), C.sc (Go.Value.string x24), C.sc (Go.Value.int Go.IntKind.i64 x25), C.ow (4 : Nat) (List.length x26), C.ow (5 : Nat) (List.length x27)] false), some (Row.arr (9 : Nat) Ty.str x26 false), some (Row.arr (9 : Nat) Ty.str x27 false)], nx := (6 : Nat) }
noncomputable def td19_20 : List Item := (findT (code Tryd.f19) [] 20).getD []
noncomputable def l19_20 (x0 : Bool) (x1 : Bool) (x2 : Int) (x3 : Int) (x4 : Bool) (x5 : Bool) (x6 : Int) (x7 : ByteArray) (x8 : ByteArray) (x9 : Int) (x10 : List ByteArray) (x11 : List ByteArray) (x12 : Int) (x13 : ByteArray) (x14 : ByteArray) (x15 : Int) (x16 : List ByteArray) (x17 : List ByteArray) (x18 : Int) (x19 : ByteArray) (x20 : ByteArray) (x21 : Int) (x22 : Int) (x23 : ByteArray) (x24 : ByteArray) (x25 : Int) (x26 : List ByteArray) (x27 : List ByteArray) : Option (List RV) := cutW W0 n19 td19_20 { fr := [((2 : Nat), F.a (A.c (C.pt (Pt.own (0 : Nat) (0 : Nat) (0 : Nat))))), ((3 : Nat), F.a (A.c (C.pt (Pt.own (1 : Nat) (0 : Nat) (0 : Nat))))), ((4 : Nat), F.a (A.c (C.pt (Pt.own (2 : Nat) (0 : Nat) (0 : Nat))))), ((6 : Nat), F.a (A.c (C.pt (Pt.own (3 : Nat) (0 : Nat) (0 : Nat))))), ((7 : Nat), F.a (A.c (C.sc (Go.Value.bool x0)))), ((8 : Nat), F.a (A.c (C.sc (Go.Value.bool x1)))), ((9 : Nat), F.a (A.c (C.sc (Go.Value.int Go.IntKind.i64 x2)))), ((10 : Nat), F.a (A.c (C.sc (Go.Value.int Go.IntKind.i64 x3)))), ((11 : Nat), F.a (A.c (C.sc (Go.Value.bool x4)))), ((12 : Nat), F.a (A.c (C.sc (Go.Value.bool x5))))], mem := [some (Row.box (24 : Nat) (some ty24) [C.sc (Go.Value.int Go.IntKind.i64 x6), C.sc (Go.Value.string x7), C.sc (Go.Value.string x8), C.sc (Go.Value.int Go.IntKind.i64 x9), C.sl Ty.str x10, C.sl Ty.str x11] false), some (Row.box (24 : Nat) (some ty24) [C.sc (Go.Value.int Go.IntKind.i64 x12), C.sc (Go.Value.string x13), C.sc (Go.Value.string x14), C.sc (Go.Value.int Go.IntKind.i64 x15), C.sl Ty.str x16, C.sl Ty.str x17] false), some (Row.box (24 : Nat) (some ty24) [C.sc (Go.Value.int Go.IntKind.i64 x18), C.sc (Go.Value.string x19), C.sc (Go.Value.string x20), C.sc (Go.Value.int Go.IntKind.i64 x21), C.nl, C.nl] false), some (Row.box (24 : Nat) (some ty24) [C.sc (Go.Value.int Go.IntKind.i64 x22), C.sc (Go.Value.string x23), C.sc (Go.Value.string x24), C.sc (Go.Value.int Go.IntKind.i64 x25), C.ow (4 : Nat) (List.length x26), C.ow (5 : Nat) (List.length x27)] false), some (Row.arr (9 : Nat) Ty.str x26 false), some (Row.arr (9 : Nat) Ty.str x27 false)], nx := (6 : Nat) }
noncomputable def td19_22 : List Item := (findT (code Tryd.f19) [] 22).getD []
noncomputable def l19_22 (x0 : Bool) (x1 : Bool) (x2 : Int) (x3 : Int) (x4 : Bool) (x5 : Bool) (x6 : Int) (x7 : ByteArray) (x8 : ByteArray) (x9 : Int) (x10 : List ByteArray) (x11 : List ByteArray) (x12 : Int) (x13 : ByteArray) (x14 : ByteArray) (x15 : Int) (x16 : List ByteArray) (x17 : List ByteArray) (x18 : Int) (x19 : ByteArray) (x20 : ByteArray) (x21 : Int) (x22 : Int) (x23 : ByteArray) (x24 : ByteArray) (x25 : Int) (x26 : List ByteArray) (x27 : List ByteArray) : Option (List RV) := cutW W0 n19 td19_22 { fr := [((2 : Nat), F.a (A.c (C.pt (Pt.own (0 : Nat) (0 : Nat) (0 : Nat))))), ((3 : Nat), F.a (A.c (C.pt (Pt.own (1 : Nat) (0 : Nat) (0 : Nat))))), ((4 : Nat), F.a (A.c (C.pt (Pt.own (2 : Nat) (0 : Nat) (0 : Nat))))), ((6 : Nat), F.a (A.c (C.pt (Pt.own (3 : Nat) (0 : Nat) (0 : Nat))))), ((7 : Nat), F.a (A.c (C.sc (Go.Value.bool x0)))), ((8 : Nat), F.a (A.c (C.sc (Go.Value.bool x1)))), ((9 : Nat), F.a (A.c (C.sc (Go.Value.int Go.IntKind.i64 x2)))), ((10 : Nat), F.a (A.c (C.sc (Go.Value.int Go.IntKind.i64 x3)))), ((11 : Nat), F.a (A.c (C.sc (Go.Value.bool x4)))), ((12 : Nat), F.a (A.c (C.sc (Go.Value.bool x5))))], mem := [some (Row.box (24 : Nat) (some ty24) [C.sc (Go.Value.int Go.IntKind.i64 x6), C.sc (Go.Value.string x7), C.sc (Go.Value.string x8), C.sc (Go.Value.int Go.IntKind.i64 x9), C.sl Ty.str x10, C.sl Ty.str x11] false), some (Row.box (24 : Nat) (some ty24) [C.sc (Go.Value.int Go.IntKind.i64 x12), C.sc (Go.Value.string x13), C.sc (Go.Value.string x14), C.sc (Go.Value.int Go.IntKind.i64 x15), C.sl Ty.str x16, C.sl Ty.str x17] false), some (Row.box (24 : Nat) (some ty24) [C.sc (Go.Value.int Go.IntKind.i64 x18), C.sc (Go.Value.string x19), C.sc (Go.Value.string x20), C.sc (Go.Value.int Go.IntKind.i64 x21), C.nl, C.nl] false), some (Row.box (24 : Nat) (some ty24) [C.sc (Go.Value.int Go.IntKind.i64 x22), C.sc (Go.Value.string x23), C.sc (Go.Value.string x24), C.sc (Go.Value.int Go.IntKind.i64 x25), C.ow (4 : Nat) (List.length x26), C.ow (5 : Nat) (List.length x27)] false), some (Row.arr (9 : Nat) Ty.str x26 false), some (Row.arr (9 : Nat) Ty.str x27 false)], nx := (6 : Nat) }
noncomputable def td19_9 : List Item := (findT (code Tryd.f19) [] 9).getD []
noncomputable def l19_9 (x0 : Bool) (x1 : Bool) (x2 : Int) (x3 : Int) (x4 : Int) (x5 : ByteArray) (x6 : ByteArray) (x7 : Int) (x8 : List ByteArray) (x9 : List ByteArray) (x10 : Int) (x11 : ByteArray) (x12 : ByteArray) (x13 : Int) (x14 : List ByteArray) (x15 : List ByteArray) (x16 : Int) (x17 : ByteArray) (x18 : ByteArray) (x19 : Int) (x20 : Int) (x21 : ByteArray) (x22 : ByteArray) (x23 : Int) (x24 : List ByteArray) (x25 : List ByteArray) : Option (List RV) := cutW W0 n19 td19_9 { fr := [((2 : Nat), F.a (A.c (C.pt (Pt.own (0 : Nat) (0 : Nat) (0 : Nat))))), ((3 : Nat), F.a (A.c (C.pt (Pt.own (1 : Nat) (0 : Nat) (0 : Nat))))), ((4 : Nat), F.a (A.c (C.pt (Pt.own (2 : Nat) (0 : Nat) (0 : Nat))))), ((6 : Nat), F.a (A.c (C.pt (Pt.own (3 : Nat) (0 : Nat) (0 : Nat))))), ((7 : Nat), F.a (A.c (C.sc (Go.Value.bool x0)))), ((8 : Nat), F.a (A.c (C.sc (Go.Value.bool x1)))), ((9 : Nat), F.a (A.c (C.sc (Go.Value.int Go.IntKind.i64 x2)))), ((10 : Nat), F.a (A.c (C.sc (Go.Value.int Go.IntKind.i64 x3))))], mem := [some (Row.box (24 : Nat) (some ty24) [C.sc (Go.Value.int Go.IntKind.i64 x4), C.sc (Go.Value.string x5), C.sc (Go.Value.string x6), C.sc (Go.Value.int Go.IntKind.i64 x7), C.sl Ty.str x8, C.sl Ty.str x9] false), some (Row.box (24 : Nat) (some ty24) [C.sc (Go.Value.int Go.IntKind.i64 x10), C.sc (Go.Value.string x11), C.sc (Go.Value.string x12), C.sc (Go.Value.int Go.IntKind.i64 x13), C.sl Ty.str x14, C.sl Ty.str x15] false), some (Row.box (24 : Nat) (some ty24) [C.sc (Go.Value.int Go.IntKind.i64 x16), C.sc (Go.Value.string x17), C.sc (Go.Value.string x18), C.sc (Go.Value.int Go.IntKind.i64 x19), C.nl, C.nl] false), some (Row.box (24 : Nat) (some ty24) [C.sc (Go.Value.int Go.IntKind.i64 x20), C.sc (Go.Value.string x21), C.sc (Go.Value.string x22), C.sc (Go.Value.int Go.IntKind.i64 x23), C.ow (4 : Nat) (List.length x24), C.ow (5 : Nat) (List.length x25)] false), some (Row.arr (9 : Nat) Ty.str x24 false), some (Row.arr (9 : Nat) Ty.str x25 false)], nx := (6 : Nat) }
theorem e19 (a0 : Int × ByteArray × ByteArray × Int × List ByteArray × List ByteArray) (a1 : Int × ByteArray × ByteArray × Int × List ByteArray × List ByteArray) : callG W0 (callW W0) (cutW W0) 19 [inj ty24 a0, inj ty24 a1] = Option.bind (cR (nat_lit 21) [RT.d Ty.bool] [inj ty24 a0, inj ty24 a1]) fun r => ifs ((!r) = true) (some (injRs [RT.d ty24, RT.d Ty.bool] (((0 : Int), { data := #[] }, { data := #[] }, (0 : Int), [], []), false))) (Option.bind (cR (nat_lit 71) [RT.d (Ty.int Go.IntKind.i64)] [inj (Ty.int Go.IntKind.i64) a0.snd.snd.snd.fst, inj (Ty.int Go.IntKind.i64) a1.snd.snd.snd.fst]) fun r => Option.bind (cR (nat_lit 72) [RT.d (Ty.int Go.IntKind.i64)] [inj (Ty.int Go.IntKind.i64) (Go.IntKind.wrap Go.IntKind.i64 (a0.snd.snd.snd.fst + (↑(List.length a0.snd.snd.snd.snd.snd) : Int))), inj (Ty.int Go.IntKind.i64) (Go.IntKind.wrap Go.IntKind.i64 (a1.snd.snd.snd.fst + (↑(List.length a1.snd.snd.snd.snd.fst) : Int)))]) fun r_1 => l19_8 false false r_1 r a0.fst a0.snd.fst a0.snd.snd.fst a0.snd.snd.snd.fst a0.snd.snd.snd.snd.fst a0.snd.snd.snd.snd.snd a1.fst a1.snd.fst a1.snd.snd.fst a1.snd.snd.snd.fst a1.snd.snd.snd.snd.fst a1.snd.snd.snd.snd.snd (0 : Int) { data := #[] } { data := #[] } (0 : Int) (6 : Int) a0.snd.fst { data := #[] } r [] []) := by kernel_rfl
theorem q19_8 (x0 : Bool) (x1 : Bool) (x2 : Int) (x3 : Int) (x4 : Int) (x5 : ByteArray) (x6 : ByteArray) (x7 : Int) (x8 : List ByteArray) (x9 : List ByteArray) (x10 : Int) (x11 : ByteArray) (x12 : ByteArray) (x13 : Int) (x14 : List ByteArray) (x15 : List ByteArray) (x16 : Int) (x17 : ByteArray) (x18 : ByteArray) (x19 : Int) (x20 : Int) (x21 : ByteArray) (x22 : ByteArray) (x23 : Int) (x24 : List ByteArray) (x25 : List ByteArray) : cutG W0 (callW W0) (cutW W0) n19 td19_8 { fr := [((2 : Nat), F.a (A.c (C.pt (Pt.own (0 : Nat) (0 : Nat) (0 : Nat))))), ((3 : Nat), F.a (A.c (C.pt (Pt.own (1 : Nat) (0 : Nat) (0 : Nat))))), ((4 : Nat), F.a (A.c (C.pt (Pt.own (2 : Nat) (0 : Nat) (0 : Nat))))), ((6 : Nat), F.a (A.c (C.pt (Pt.own (3 : Nat) (0 : Nat) (0 : Nat))))), ((7 : Nat), F.a (A.c (C.sc (Go.Value.bool x0)))), ((8 : Nat), F.a (A.c (C.sc (Go.Value.bool x1)))), ((9 : Nat), F.a (A.c (C.sc (Go.Value.int Go.IntKind.i64 x2)))), ((10 : Nat), F.a (A.c (C.sc (Go.Value.int Go.IntKind.i64 x3))))], mem := [some (Row.box (24 : Nat) (some ty24) [C.sc (Go.Value.int Go.IntKind.i64 x4), C.sc (Go.Value.string x5), C.sc (Go.Value.string x6), C.sc (Go.Value.int Go.IntKind.i64 x7), C.sl Ty.str x8, C.sl Ty.str x9] false), some (Row.box (24 : Nat) (some ty24) [C.sc (Go.Value.int Go.IntKind.i64 x10), C.sc (Go.Value.string x11), C.sc (Go.Value.string x12), C.sc (Go.Value.int Go.IntKind.i64 x13), C.sl Ty.str x14, C.sl Ty.str x15] false), some (Row.box (24 : Nat) (some ty24) [C.sc (Go.Value.int Go.IntKind.i64 x16), C.sc (Go.Value.string x17), C.sc (Go.Value.string x18), C.sc (Go.Value.int Go.IntKind.i64 x19), C.nl, C.nl] false), some (Row.box (24 : Nat) (some ty24) [C.sc (Go.Value.int Go.IntKind.i64 x20), C.sc (Go.Value.string x21), C.sc (Go.Value.string x22), C.sc (Go.Value.int Go.IntKind.i64 x23), C.ow (4 : Nat) (List.length x24), C.ow (5 : Nat) (List.length x25)] false), some (Row.arr (9 : Nat) Ty.str x24 false), some (Row.arr (9 : Nat) Ty.str x25 false)], nx := (6 : Nat) } = ifs (decide (x3 ≤ x2) = true) (ifs ((x3 == x7) = true) (ifs ((!x0) = true) (ifs ((List.length x24 + List.length x8) * nat_lit 16 ≤ (140737488355328 : Nat)) (l19_13 true x1 x2 x3 x4 x5 x6 x7 x8 x9 x10 x11 x12 x13 x14 x15 x16 x17 x18 x19 x20 x21 x22 x23 (List.take (List.length x24) x24 ++ x8) x25) none) (l19_13 x0 x1 x2 x3 x4 x5 x6 x7 x8 x9 x10 x11 x12 x13 x14 x15 x16 x17 x18 x19 x20 x21 x22 x23 x24 x25)) (l19_13 x0 x1 x2 x3 x4 x5 x6 x7 x8 x9 x10 x11 x12 x13 x14 x15 x16 x17 x18 x19 x20 x21 x22 x23 x24 x25)) (some (injRs [RT.d ty24, RT.d Ty.bool] ((x20, x21, x22, x23, List.take (List.length x24) x24, List.take (List.length x25) x25), true))) := by kernel_rfl
theorem q19_13 (x0 : Bool) (x1 : Bool) (x2 : Int) (x3 : Int) (x4 : Int) (x5 : ByteArray) (x6 : ByteArray) (x7 : Int) (x8 : List ByteArray) (x9 : List ByteArray) (x10 : Int) (x11 : ByteArray) (x12 : ByteArray) (x13 : Int) (x14 : List ByteArray) (x15 : List ByteArray) (x16 : Int) (x17 : ByteArray) (x18 : ByteArray) (x19 : Int) (x20 : Int) (x21 : ByteArray) (x22 : ByteArray) (x23 : Int) (x24 : List ByteArray) (x25 : List ByteArray) : cutG W0 (callW W0) (cutW W0) n19 td19_13 { fr := [((2 : Nat), F.a (A.c (C.pt (Pt.own (0 : Nat) (0 : Nat) (0 : Nat))))), ((3 : Nat), F.a (A.c (C.pt (Pt.own (1 : Nat) (0 : Nat) (0 : Nat))))), ((4 : Nat), F.a (A.c (C.pt (Pt.own (2 : Nat) (0 : Nat) (0 : Nat))))), ((6 : Nat), F.a (A.c (C.pt (Pt.own (3 : Nat) (0 : Nat) (0 : Nat))))), ((7 : Nat), F.a (A.c (C.sc (Go.Value.bool x0)))), ((8 : Nat), F.a (A.c (C.sc (Go.Value.bool x1)))), ((9 : Nat), F.a (A.c (C.sc (Go.Value.int Go.IntKind.i64 x2)))), ((10 : Nat), F.a (A.c (C.sc (Go.Value.int Go.IntKind.i64 x3))))], mem := [some (Row.box (24 : Nat) (some ty24) [C.sc (Go.Value.int Go.IntKind.i64 x4), C.sc (Go.Value.string x5), C.sc (Go.Value.string x6), C.sc (Go.Value.int Go.IntKind.i64 x7), C.sl Ty.str x8, C.sl Ty.str x9] false), some (Row.box (24 : Nat) (some ty24) [C.sc (Go.Value.int Go.IntKind.i64 x10), C.sc (Go.Value.string x11), C.sc (Go.Value.string x12), C.sc (Go.Value.int Go.IntKind.i64 x13), C.sl Ty.str x14, C.sl Ty.str x15] false), some (Row.box (24 : Nat) (some ty24) [C.sc (Go.Value.int Go.IntKind.i64 x16), C.sc (Go.Value.string x17), C.sc (Go.Value.string x18), C.sc (Go.Value.int Go.IntKind.i64 x19), C.nl, C.nl] false), some (Row.box (24 : Nat) (some ty24) [C.sc (Go.Value.int Go.IntKind.i64 x20), C.sc (Go.Value.string x21), C.sc (Go.Value.string x22), C.sc (Go.Value.int Go.IntKind.i64 x23), C.ow (4 : Nat) (List.length x24), C.ow (5 : Nat) (List.length x25)] false), some (Row.arr (9 : Nat) Ty.str x24 false), some (Row.arr (9 : Nat) Ty.str x25 false)], nx := (6 : Nat) } = ifs ((x3 == x13) = true) (ifs ((!x1) = true) (ifs ((List.length x25 + List.length x15) * nat_lit 16 ≤ (140737488355328 : Nat)) (l19_16 x0 true x2 x3 x4 x5 x6 x7 x8 x9 x10 x11 x12 x13 x14 x15 x16 x17 x18 x19 x20 x21 x22 x23 x24 (List.take (List.length x25) x25 ++ x15)) none) (l19_16 x0 x1 x2 x3 x4 x5 x6 x7 x8 x9 x10 x11 x12 x13 x14 x15 x16 x17 x18 x19 x20 x21 x22 x23 x24 x25)) (l19_16 x0 x1 x2 x3 x4 x5 x6 x7 x8 x9 x10 x11 x12 x13 x14 x15 x16 x17 x18 x19 x20 x21 x22 x23 x24 x25) := by kernel_rfl
theorem q19_16 (x0 : Bool) (x1 : Bool) (x2 : Int) (x3 : Int) (x4 : Int) (x5 : ByteArray) (x6 : ByteArray) (x7 : Int) (x8 : List ByteArray) (x9 : List ByteArray) (x10 : Int) (x11 : ByteArray) (x12 : ByteArray) (x13 : Int) (x14 : List ByteArray) (x15 : List ByteArray) (x16 : Int) (x17 : ByteArray) (x18 : ByteArray) (x19 : Int) (x20 : Int) (x21 : ByteArray) (x22 : ByteArray) (x23 : Int) (x24 : List ByteArray) (x25 : List ByteArray) : cutG W0 (callW W0) (cutW W0) n19 td19_16 { fr := [((2 : Nat), F.a (A.c (C.pt (Pt.own (0 : Nat) (0 : Nat) (0 : Nat))))), ((3 : Nat), F.a (A.c (C.pt (Pt.own (1 : Nat) (0 : Nat) (0 : Nat))))), ((4 : Nat), F.a (A.c (C.pt (Pt.own (2 : Nat) (0 : Nat) (0 : Nat))))), ((6 : Nat), F.a (A.c (C.pt (Pt.own (3 : Nat) (0 : Nat) (0 : Nat))))), ((7 : Nat), F.a (A.c (C.sc (Go.Value.bool x0)))), ((8 : Nat), F.a (A.c (C.sc (Go.Value.bool x1)))), ((9 : Nat), F.a (A.c (C.sc (Go.Value.int Go.IntKind.i64 x2)))), ((10 : Nat), F.a (A.c (C.sc (Go.Value.int Go.IntKind.i64 x3))))], mem := [some (Row.box (24 : Nat) (some ty24) [C.sc (Go.Value.int Go.IntKind.i64 x4), C.sc (Go.Value.string x5), C.sc (Go.Value.string x6), C.sc (Go.Value.int Go.IntKind.i64 x7), C.sl Ty.str x8, C.sl Ty.str x9] false), some (Row.box (24 : Nat) (some ty24) [C.sc (Go.Value.int Go.IntKind.i64 x10), C.sc (Go.Value.string x11), C.sc (Go.Value.string x12), C.sc (Go.Value.int Go.IntKind.i64 x13), C.sl Ty.str x14, C.sl Ty.str x15] false), some (Row.box (24 : Nat) (some ty24) [C.sc (Go.Value.int Go.IntKind.i64 x16), C.sc (Go.Value.string x17), C.sc (Go.Value.string x18), C.sc (Go.Value.int Go.IntKind.i64 x19), C.nl, C.nl] false), some (Row.box (24 : Nat) (some ty24) [C.sc (Go.Value.int Go.IntKind.i64 x20), C.sc (Go.Value.string x21), C.sc (Go.Value.string x22), C.sc (Go.Value.int Go.IntKind.i64 x23), C.ow (4 : Nat) (List.length x24), C.ow (5 : Nat) (List.length x25)] false), some (Row.arr (9 : Nat) Ty.str x24 false), some (Row.arr (9 : Nat) Ty.str x25 false)], nx := (6 : Nat) } = ifs (decide (x3 ≥ x7) = true) (l19_17 x0 x1 x2 x3 (decide (x3 < Go.IntKind.wrap Go.IntKind.i64 (x7 + (↑(List.length x9) : Int)))) x4 x5 x6 x7 x8 x9 x10 x11 x12 x13 x14 x15 x16 x17 x18 x19 x20 x21 x22 x23 x24 x25) (l19_17 x0 x1 x2 x3 false x4 x5 x6 x7 x8 x9 x10 x11 x12 x13 x14 x15 x16 x17 x18 x19 x20 x21 x22 x23 x24 x25) := by kernel_rfl
theorem q19_17 (x0 : Bool) (x1 : Bool) (x2 : Int) (x3 : Int) (x4 : Bool) (x5 : Int) (x6 : ByteArray) (x7 : ByteArray) (x8 : Int) (x9 : List ByteArray) (x10 : List ByteArray) (x11 : Int) (x12 : ByteArray) (x13 : ByteArray) (x14 : Int) (x15 : List ByteArray) (x16 : List ByteArray) (x17 : Int) (x18 : ByteArray) (x19 : ByteArray) (x20 : Int) (x21 : Int) (x22 : ByteArray) (x23 : ByteArray) (x24 : Int) (x25 : List ByteArray) (x26 : List ByteArray) : cutG W0 (callW W0) (cutW W0) n19 td19_17 { fr := [((2 : Nat), F.a (A.c (C.pt (Pt.own (0 : Nat) (0 : Nat) (0 : Nat))))), ((3 : Nat), F.a (A.c (C.pt (Pt.own (1 : Nat) (0 : Nat) (0 : Nat))))), ((4 : Nat), F.a (A.c (C.pt (Pt.own (2 : Nat) (0 : Nat) (0 : Nat))))), ((6 : Nat), F.a (A.c (C.pt (Pt.own (3 : Nat) (0 : Nat) (0 : Nat))))), ((7 : Nat), F.a (A.c (C.sc (Go.Value.bool x0)))), ((8 : Nat), F.a (A.c (C.sc (Go.Value.bool x1)))), ((9 : Nat), F.a (A.c (C.sc (Go.Value.int Go.IntKind.i64 x2)))), ((10 : Nat), F.a (A.c (C.sc (Go.Value.int Go.IntKind.i64 x3)))), ((11 : Nat), F.a (A.c (C.sc (Go.Value.bool x4))))], mem := [some (Row.box (24 : Nat) (some ty24) [C.sc (Go.Value.int Go.IntKind.i64 x5), C.sc (Go.Value.string x6), C.sc (Go.Value.string x7), C.sc (Go.Value.int Go.IntKind.i64 x8), C.sl Ty.str x9, C.sl Ty.str x10] false), some (Row.box (24 : Nat) (some ty24) [C.sc (Go.Value.int Go.IntKind.i64 x11), C.sc (Go.Value.string x12), C.sc (Go.Value.string x13), C.sc (Go.Value.int Go.IntKind.i64 x14), C.sl Ty.str x15, C.sl Ty.str x16] false), some (Row.box (24 : Nat) (some ty24) [C.sc (Go.Value.int Go.IntKind.i64 x17), C.sc (Go.Value.string x18), C.sc (Go.Value.string x19), C.sc (Go.Value.int Go.IntKind.i64 x20), C.nl, C.nl] false), some (Row.box (24 : Nat) (some ty24) [C.sc (Go.Value.int Go.IntKind.i64 x21), C.sc (Go.Value.string x22), C.sc (Go.Value.string x23), C.sc (Go.Value.int Go.IntKind.i64 x24), C.ow (4 : Nat) (List.length x25), C.ow (5 : Nat) (List.length x26)] false), some (Row.arr (9 : Nat) Ty.str x25 false), some (Row.arr (9 : Nat) Ty.str x26 false)], nx := (6 : Nat) } = ifs (decide (x3 ≥ x14) = true) (l19_18 x0 x1 x2 x3 x4 (decide (x3 < Go.IntKind.wrap Go.IntKind.i64 (x14 + (↑(List.length x15) : Int)))) x5 x6 x7 x8 x9 x10 x11 x12 x13 x14 x15 x16 x17 x18 x19 x20 x21 x22 x23 x24 x25 x26) (l19_18 x0 x1 x2 x3 x4 false x5 x6 x7 x8 x9 x10 x11 x12 x13 x14 x15 x16 x17 x18 x19 x20 x21 x22 x23 x24 x25 x26) := by kernel_rfl
theorem q19_18 (x0 : Bool) (x1 : Bool) (x2 : Int) (x3 : Int) (x4 : Bool) (x5 : Bool) (x6 : Int) (x7 : ByteArray) (x8 : ByteArray) (x9 : Int) (x10 : List ByteArray) (x11 : List ByteArray) (x12 : Int) (x13 : ByteArray) (x14 : ByteArray) (x15 : Int) (x16 : List ByteArray) (x17 : List ByteArray) (x18 : Int) (x19 : ByteArray) (x20 : ByteArray) (x21 : Int) (x22 : Int) (x23 : ByteArray) (x24 : ByteArray) (x25 : Int) (x26 : List ByteArray) (x27 : List ByteArray) : cutG W0 (callW W0) (cutW W0) n19 td19_18 { fr := [((2 : Nat), F.a (A.c (C.pt (Pt.own (0 : Nat) (0 : Nat) (0 : Nat))))), ((3 : Nat), F.a (A.c (C.pt (Pt.own (1 : Nat) (0 : Nat) (0 : Nat))))), ((4 : Nat), F.a (A.c (C.pt (Pt.own (2 : Nat) (0 : Nat) (0 : Nat))))), ((6 : Nat), F.a (A.c (C.pt (Pt.own (3 : Nat) (0 : Nat) (0 : Nat))))), ((7 : Nat), F.a (A.c (C.sc (Go.Value.bool x0)))), ((8 : Nat), F.a (A.c (C.sc (Go.Value.bool x1)))), ((9 : Nat), F.a (A.c (C.sc (Go.Value.int Go.IntKind.i64 x2)))), ((10 : Nat), F.a (A.c (C.sc (Go.Value.int Go.IntKind.i64 x3)))), ((11 : Nat), F.a (A.c (C.sc (Go.Value.bool x4)))), ((12 : Nat), F.a (A.c (C.sc (Go.Value.bool x5))))], mem := [some (Row.box (24 : Nat) (some ty24) [C.sc (Go.Value.int Go.IntKind.i64 x6), C.sc (Go.Value.string x7), C.sc (Go.Value.string x8), C.sc (Go.Value.int Go.IntKind.i64 x9), C.sl Ty.str x10, C.sl Ty.str x11] false), some (Row.box (24 : Nat) (some ty24) [C.sc (Go.Value.int Go.IntKind.i64 x12), C.sc (Go.Value.string x13), C.sc (Go.Value.string x14), C.sc (Go.Value.int Go.IntKind.i64 x15), C.sl Ty.str x16, C.sl Ty.str x17] false), some (Row.box (24 : Nat) (some ty24) [C.sc (Go.Value.int Go.IntKind.i64 x18), C.sc (Go.Value.string x19), C.sc (Go.Value.string x20), C.sc (Go.Value.int Go.IntKind.i64 x21), C.nl, C.nl] false), some (Row.box (24 : Nat) (some ty24) [C.sc (Go.Value.int Go.IntKind.i64 x22), C.sc (Go.Value.string x23), C.sc (Go.Value.string x24), C.sc (Go.Value.int Go.IntKind.i64 x25), C.ow (4 : Nat) (List.length x26), C.ow (5 : Nat) (List.length x27)] false), some (Row.arr (9 : Nat) Ty.str x26 false), some (Row.arr (9 : Nat) Ty.str x27 false)], nx := (6 : Nat) } = ifs (x4 = true) (ifs (x5 = true) (ifs ((0 : Int) ≤ Go.IntKind.wrap Go.IntKind.i64 (x3 - x9)) (Option.bind x11[Int.toNat (Go.IntKind.wrap Go.IntKind.i64 (x3 - x9))]? fun r => ifs ((0 : Int) ≤ Go.IntKind.wrap Go.IntKind.i64 (x3 - x15)) (Option.bind x16[Int.toNat (Go.IntKind.wrap Go.IntKind.i64 (x3 - x15))]? fun r_1 => ifs ((!ByteArray.toList r == ByteArray.toList r_1) = true) (some (injRs [RT.d ty24, RT.d Ty.bool] (((0 : Int), { data := #[] }, { data := #[] }, (0 : Int), [], []), false))) (l19_20 x0 x1 x2 x3 x4 x5 x6 x7 x8 x9 x10 x11 x12 x13 x14 x15 x16 x17 x18 x19 x20 x21 x22 x23 x24 x25 x26 x27)) none) none) (l19_20 x0 x1 x2 x3 x4 x5 x6 x7 x8 x9 x10 x11 x12 x13 x14 x15 x16 x17 x18 x19 x20 x21 x22 x23 x24 x25 x26 x27)) (l19_20 x0 x1 x2 x3 x4 x5 x6 x7 x8 x9 x10 x11 x12 x13 x14 x15 x16 x17 x18 x19 x20 x21 x22 x23 x24 x25 x26 x27) := by kernel_rfl
theorem q19_20 (x0 : Bool) (x1 : Bool) (x2 : Int) (x3 : Int) (x4 : Bool) (x5 : Bool) (x6 : Int) (x7 : ByteArray) (x8 : ByteArray) (x9 : Int) (x10 : List ByteArray) (x11 : List ByteArray) (x12 : Int) (x13 : ByteArray) (x14 : ByteArray) (x15 : Int) (x16 : List ByteArray) (x17 : List ByteArray) (x18 : Int) (x19 : ByteArray) (x20 : ByteArray) (x21 : Int) (x22 : Int) (x23 : ByteArray) (x24 : ByteArray) (x25 : Int) (x26 : List ByteArray) (x27 : List ByteArray) : cutG W0 (callW W0) (cutW W0) n19 td19_20 { fr := [((2 : Nat), F.a (A.c (C.pt (Pt.own (0 : Nat) (0 : Nat) (0 : Nat))))), ((3 : Nat), F.a (A.c (C.pt (Pt.own (1 : Nat) (0 : Nat) (0 : Nat))))), ((4 : Nat), F.a (A.c (C.pt (Pt.own (2 : Nat) (0 : Nat) (0 : Nat))))), ((6 : Nat), F.a (A.c (C.pt (Pt.own (3 : Nat) (0 : Nat) (0 : Nat))))), ((7 : Nat), F.a (A.c (C.sc (Go.Value.bool x0)))), ((8 : Nat), F.a (A.c (C.sc (Go.Value.bool x1)))), ((9 : Nat), F.a (A.c (C.sc (Go.Value.int Go.IntKind.i64 x2)))), ((10 : Nat), F.a (A.c (C.sc (Go.Value.int Go.IntKind.i64 x3)))), ((11 : Nat), F.a (A.c (C.sc (Go.Value.bool x4)))), ((12 : Nat), F.a (A.c (C.sc (Go.Value.bool x5))))], mem := [some (Row.box (24 : Nat) (some ty24) [C.sc (Go.Value.int Go.IntKind.i64 x6), C.sc (Go.Value.string x7), C.sc (Go.Value.string x8), C.sc (Go.Value.int Go.IntKind.i64 x9), C.sl Ty.str x10, C.sl Ty.str x11] false), some (Row.box (24 : Nat) (some ty24) [C.sc (Go.Value.int Go.IntKind.i64 x12), C.sc (Go.Value.string x13), C.sc (Go.Value.string x14), C.sc (Go.Value.int Go.IntKind.i64 x15), C.sl Ty.str x16, C.sl Ty.str x17] false), some (Row.box (24 : Nat) (some ty24) [C.sc (Go.Value.int Go.IntKind.i64 x18), C.sc (Go.Value.string x19), C.sc (Go.Value.string x20), C.sc (Go.Value.int Go.IntKind.i64 x21), C.nl, C.nl] false), some (Row.box (24 : Nat) (some ty24) [C.sc (Go.Value.int Go.IntKind.i64 x22), C.sc (Go.Value.string x23), C.sc (Go.Value.string x24), C.sc (Go.Value.int Go.IntKind.i64 x25), C.ow (4 : Nat) (List.length x26), C.ow (5 : Nat) (List.length x27)] false), some (Row.arr (9 : Nat) Ty.str x26 false), some (Row.arr (9 : Nat) Ty.str x27 false)], nx := (6 : Nat) } = ifs (x5 = true) (ifs ((!x4) = true) (ifs ((0 : Int) ≤ Go.IntKind.wrap Go.IntKind.i64 (x3 - x15)) (Option.bind x16[Int.toNat (Go.IntKind.wrap Go.IntKind.i64 (x3 - x15))]? fun r => ifs ((List.length x26 + (1 : Nat)) * nat_lit 16 ≤ (140737488355328 : Nat)) (l19_22 x0 x1 x2 x3 x4 x5 x6 x7 x8 x9 x10 x11 x12 x13 x14 x15 x16 x17 x18 x19 x20 x21 x22 x23 x24 x25 (List.take (List.length x26) x26 ++ [r]) x27) none) none) (l19_22 x0 x1 x2 x3 x4 x5 x6 x7 x8 x9 x10 x11 x12 x13 x14 x15 x16 x17 x18 x19 x20 x21 x22 x23 x24 x25 x26 x27)) (l19_22 x0 x1 x2 x3 x4 x5 x6 x7 x8 x9 x10 x11 x12 x13 x14 x15 x16 x17 x18 x19 x20 x21 x22 x23 x24 x25 x26 x27) := by kernel_rfl
theorem q19_22 (x0 : Bool) (x1 : Bool) (x2 : Int) (x3 : Int) (x4 : Bool) (x5 : Bool) (x6 : Int) (x7 : ByteArray) (x8 : ByteArray) (x9 : Int) (x10 : List ByteArray) (x11 : List ByteArray) (x12 : Int) (x13 : ByteArray) (x14 : ByteArray) (x15 : Int) (x16 : List ByteArray) (x17 : List ByteArray) (x18 : Int) (x19 : ByteArray) (x20 : ByteArray) (x21 : Int) (x22 : Int) (x23 : ByteArray) (x24 : ByteArray) (x25 : Int) (x26 : List ByteArray) (x27 : List ByteArray) : cutG W0 (callW W0) (cutW W0) n19 td19_22 { fr := [((2 : Nat), F.a (A.c (C.pt (Pt.own (0 : Nat) (0 : Nat) (0 : Nat))))), ((3 : Nat), F.a (A.c (C.pt (Pt.own (1 : Nat) (0 : Nat) (0 : Nat))))), ((4 : Nat), F.a (A.c (C.pt (Pt.own (2 : Nat) (0 : Nat) (0 : Nat))))), ((6 : Nat), F.a (A.c (C.pt (Pt.own (3 : Nat) (0 : Nat) (0 : Nat))))), ((7 : Nat), F.a (A.c (C.sc (Go.Value.bool x0)))), ((8 : Nat), F.a (A.c (C.sc (Go.Value.bool x1)))), ((9 : Nat), F.a (A.c (C.sc (Go.Value.int Go.IntKind.i64 x2)))), ((10 : Nat), F.a (A.c (C.sc (Go.Value.int Go.IntKind.i64 x3)))), ((11 : Nat), F.a (A.c (C.sc (Go.Value.bool x4)))), ((12 : Nat), F.a (A.c (C.sc (Go.Value.bool x5))))], mem := [some (Row.box (24 : Nat) (some ty24) [C.sc (Go.Value.int Go.IntKind.i64 x6), C.sc (Go.Value.string x7), C.sc (Go.Value.string x8), C.sc (Go.Value.int Go.IntKind.i64 x9), C.sl Ty.str x10, C.sl Ty.str x11] false), some (Row.box (24 : Nat) (some ty24) [C.sc (Go.Value.int Go.IntKind.i64 x12), C.sc (Go.Value.string x13), C.sc (Go.Value.string x14), C.sc (Go.Value.int Go.IntKind.i64 x15), C.sl Ty.str x16, C.sl Ty.str x17] false), some (Row.box (24 : Nat) (some ty24) [C.sc (Go.Value.int Go.IntKind.i64 x18), C.sc (Go.Value.string x19), C.sc (Go.Value.string x20), C.sc (Go.Value.int Go.IntKind.i64 x21), C.nl, C.nl] false), some (Row.box (24 : Nat) (some ty24) [C.sc (Go.Value.int Go.IntKind.i64 x22), C.sc (Go.Value.string x23), C.sc (Go.Value.string x24), C.sc (Go.Value.int Go.IntKind.i64 x25), C.ow (4 : Nat) (List.length x26), C.ow (5 : Nat) (List.length x27)] false), some (Row.arr (9 : Nat) Ty.str x26 false), some (Row.arr (9 : Nat) Ty.str x27 false)], nx := (6 : Nat) } = ifs (x4 = true) (ifs ((!x5) = true) (ifs ((0 : Int) ≤ Go.IntKind.wrap Go.IntKind.i64 (x3 - x9)) (Option.bind x11[Int.toNat (Go.IntKind.wrap Go.IntKind.i64 (x3 - x9))]? fun r => ifs ((List.length x27 + (1 : Nat)) * nat_lit 16 ≤ (140737488355328 : Nat)) (l19_9 x0 x1 x2 x3 x6 x7 x8 x9 x10 x11 x12 x13 x14 x15 x16 x17 x18 x19 x20 x21 x22 x23 x24 x25 x26 (List.take (List.length x27) x27 ++ [r])) none) none) (l19_9 x0 x1 x2 x3 x6 x7 x8 x9 x10 x11 x12 x13 x14 x15 x16 x17 x18 x19 x20 x21 x22 x23 x24 x25 x26 x27)) (l19_9 x0 x1 x2 x3 x6 x7 x8 x9 x10 x11 x12 x13 x14 x15 x16 x17 x18 x19 x20 x21 x22 x23 x24 x25 x26 x27) := by kernel_rfl
theorem q19_9 (x0 : Bool) (x1 : Bool) (x2 : Int) (x3 : Int) (x4 : Int) (x5 : ByteArray) (x6 : ByteArray) (x7 : Int) (x8 : List ByteArray) (x9 : List ByteArray) (x10 : Int) (x11 : ByteArray) (x12 : ByteArray) (x13 : Int) (x14 : List ByteArray) (x15 : List ByteArray) (x16 : Int) (x17 : ByteArray) (x18 : ByteArray) (x19 : Int) (x20 : Int) (x21 : ByteArray) (x22 : ByteArray) (x23 : Int) (x24 : List ByteArray) (x25 : List ByteArray) : cutG W0 (callW W0) (cutW W0) n19 td19_9 { fr := [((2 : Nat), F.a (A.c (C.pt (Pt.own (0 : Nat) (0 : Nat) (0 : Nat))))), ((3 : Nat), F.a (A.c (C.pt (Pt.own (1 : Nat) (0 : Nat) (0 : Nat))))), ((4 : Nat), F.a (A.c (C.pt (Pt.own (2 : Nat) (0 : Nat) (0 : Nat))))), ((6 : Nat), F.a (A.c (C.pt (Pt.own (3 : Nat) (0 : Nat) (0 : Nat))))), ((7 : Nat), F.a (A.c (C.sc (Go.Value.bool x0)))), ((8 : Nat), F.a (A.c (C.sc (Go.Value.bool x1)))), ((9 : Nat), F.a (A.c (C.sc (Go.Value.int Go.IntKind.i64 x2)))), ((10 : Nat), F.a (A.c (C.sc (Go.Value.int Go.IntKind.i64 x3))))], mem := [some (Row.box (24 : Nat) (some ty24) [C.sc (Go.Value.int Go.IntKind.i64 x4), C.sc (Go.Value.string x5), C.sc (Go.Value.string x6), C.sc (Go.Value.int Go.IntKind.i64 x7), C.sl Ty.str x8, C.sl Ty.str x9] false), some (Row.box (24 : Nat) (some ty24) [C.sc (Go.Value.int Go.IntKind.i64 x10), C.sc (Go.Value.string x11), C.sc (Go.Value.string x12), C.sc (Go.Value.int Go.IntKind.i64 x13), C.sl Ty.str x14, C.sl Ty.str x15] false), some (Row.box (24 : Nat) (some ty24) [C.sc (Go.Value.int Go.IntKind.i64 x16), C.sc (Go.Value.string x17), C.sc (Go.Value.string x18), C.sc (Go.Value.int Go.IntKind.i64 x19), C.nl, C.nl] false), some (Row.box (24 : Nat) (some ty24) [C.sc (Go.Value.int Go.IntKind.i64 x20), C.sc (Go.Value.string x21), C.sc (Go.Value.string x22), C.sc (Go.Value.int Go.IntKind.i64 x23), C.ow (4 : Nat) (List.length x24), C.ow (5 : Nat) (List.length x25)] false), some (Row.arr (9 : Nat) Ty.str x24 false), some (Row.arr (9 : Nat) Ty.str x25 false)], nx := (6 : Nat) } = l19_8 x0 x1 x2 (Go.IntKind.wrap Go.IntKind.i64 (x3 + (1 : Int))) x4 x5 x6 x7 x8 x9 x10 x11 x12 x13 x14 x15 x16 x17 x18 x19 x20 x21 x22 x23 x24 x25 := by kernel_rfl
theorem e17 (a0 : Int × ByteArray × ByteArray × Int × List ByteArray × List ByteArray) (a1 : Int × ByteArray × ByteArray × Int × List ByteArray × List ByteArray) : callG W0 (callW W0) (cutW W0) 17 [inj ty24 a0, inj ty24 a1] = Option.bind (cR (nat_lit 67) [RT.d (Ty.int Go.IntKind.i64)] [inj ty24 a0]) fun r => ifs ((r != (0 : Int)) = false) (Option.bind (cR (nat_lit 67) [RT.d (Ty.int Go.IntKind.i64)] [inj ty24 a1]) fun r => ifs ((r != (0 : Int)) = true) (some (injRs [RT.own (24 : Go.TypeId) ty24, RT.d Ty.bool] ([], false))) (ifs ((a0.fst != (2 : Int)) = true) (ifs ((a0.fst != (4 : Int)) = true) (ifs ((a0.fst != (6 : Int)) = true) (Option.bind (cR (nat_lit 68) [RT.d ty24] [inj ty24 a0]) fun r => Option.bind (cR (nat_lit 13) [RT.d Ty.bool] [inj (Ty.sl ty24) [r], inj (Ty.sl ty24) [a1]]) fun r => ifs (r = true) (some (injRs [RT.own (24 : Go.TypeId) ty24, RT.d Ty.bool] ([], true))) (ifs ((a0.fst == (5 : Int)) = true) (ifs ((a1.fst == (5 : Int)) = true) (ifs ((ByteArray.toList a1.snd.fst == ByteArray.toList a0.snd.snd.fst) = true) (some (injRs [RT.own (24 : Go.TypeId) ty24, RT.d Ty.bool] ([((5 : Int), a0.snd.fst, a1.snd.snd.fst, (0 : Int), [], [])], true))) (Option.bind (cR (nat_lit 19) [RT.d ty24, RT.d Ty.bool] [inj ty24 a0, inj ty24 a1]) fun r => ifs ((!r.snd) = true) (some (injRs [RT.own (24 : Go.TypeId) ty24, RT.d Ty.bool] ([], false))) (Option.bind (cR (nat_lit 42) [RT.d Ty.bool] [inj (Ty.sl Ty.str) r.fst.snd.snd.snd.snd.fst, inj (Ty.sl Ty.str) r.fst.snd.snd.snd.snd.snd]) fun r_1 => ifs (r_1 = true) (some (injRs [RT.own (24 : Go.TypeId) ty24, RT.d Ty.bool] ([], true))) (some (injRs [RT.own (24 : Go.TypeId) ty24, RT.d Ty.bool] ([r.fst], true)))))) (Option.bind (cR (nat_lit 19) [RT.d ty24, RT.d Ty.bool] [inj ty24 a0, inj ty24 a1]) fun r => ifs ((!r.snd) = true) (some (injRs [RT.own (24 : Go.TypeId) ty24, RT.d Ty.bool] ([], false))) (Option.bind (cR (nat_lit 42) [RT.d Ty.bool] [inj (Ty.sl Ty.str) r.fst.snd.snd.snd.snd.fst, inj (Ty.sl Ty.str) r.fst.snd.snd.snd.snd.snd]) fun r_1 => ifs (r_1 = true) (some (injRs [RT.own (24 : Go.TypeId) ty24, RT.d Ty.bool] ([], true))) (some (injRs [RT.own (24 : Go.TypeId) ty24, RT.d Ty.bool] ([r.fst], true)))))) (Option.bind (cR (nat_lit 19) [RT.d ty24, RT.d Ty.bool] [inj ty24 a0, inj ty24 a1]) fun r => ifs ((!r.snd) = true) (some (injRs [RT.own (24 : Go.TypeId) ty24, RT.d Ty.bool] ([], false))) (Option.bind (cR (nat_lit 42) [RT.d Ty.bool] [inj (Ty.sl Ty.str) r.fst.snd.snd.snd.snd.fst, inj (Ty.sl Ty.str) r.fst.snd.snd.snd.snd.snd]) fun r_1 => ifs (r_1 = true) (some (injRs [RT.own (24 : Go.TypeId) ty24, RT.d Ty.bool] ([], true))) (some (injRs [RT.own (24 : Go.TypeId) ty24, RT.d Ty.bool] ([r.fst], true))))))) (ifs ((a0.fst == (5 : Int)) = true) (ifs ((a1.fst == (5 : Int)) = true) (ifs ((ByteArray.toList a1.snd.fst == ByteArray.toList a0.snd.snd.fst) = true) (some (injRs [RT.own (24 : Go.TypeId) ty24, RT.d Ty.bool] ([((5 : Int), a0.snd.fst, a1.snd.snd.fst, (0 : Int), [], [])], true))) (Option.bind (cR (nat_lit 19) [RT.d ty24, RT.d Ty.bool] [inj ty24 a0, inj ty24 a1]) fun r => ifs ((!r.snd) = true) (some (injRs [RT.own (24 : Go.TypeId) ty24, RT.d Ty.bool] ([], false))) (Option.bind (cR (nat_lit 42) [RT.d Ty.bool] [inj (Ty.sl Ty.str) r.fst.snd.snd.snd.snd.fst, inj (Ty.sl Ty.str) r.fst.snd.snd.snd.snd.snd]) fun r_1 => ifs (r_1 = true) (some (injRs [RT.own (24 : Go.TypeId) ty24, RT.d Ty.bool] ([], true))) (some (injRs [RT.own (24 : Go.TypeId) ty24, RT.d Ty.bool] ([r.fst], true)))))) (Option.bind (cR (nat_lit 19) [RT.d ty24, RT.d Ty.bool] [inj ty24 a0, inj ty24 a1]) fun r => ifs ((!r.snd) = true) (some (injRs [RT.own (24 : Go.TypeId) ty24, RT.d Ty.bool] ([], false))) (Option.bind (cR (nat_lit 42) [RT.d Ty.bool] [inj (Ty.sl Ty.str) r.fst.snd.snd.snd.snd.fst, inj (Ty.sl Ty.str) r.fst.snd.snd.snd.snd.snd]) fun r_1 => ifs (r_1 = true) (some (injRs [RT.own (24 : Go.TypeId) ty24, RT.d Ty.bool] ([], true))) (some (injRs [RT.own (24 : Go.TypeId) ty24, RT.d Ty.bool] ([r.fst], true)))))) (Option.bind (cR (nat_lit 19) [RT.d ty24, RT.d Ty.bool] [inj ty24 a0, inj ty24 a1]) fun r => ifs ((!r.snd) = true) (some (injRs [RT.own (24 : Go.TypeId) ty24, RT.d Ty.bool] ([], false))) (Option.bind (cR (nat_lit 42) [RT.d Ty.bool] [inj (Ty.sl Ty.str) r.fst.snd.snd.snd.snd.fst, inj (Ty.sl Ty.str) r.fst.snd.snd.snd.snd.snd]) fun r_1 => ifs (r_1 = true) (some (injRs [RT.own (24 : Go.TypeId) ty24, RT.d Ty.bool] ([], true))) (some (injRs [RT.own (24 : Go.TypeId) ty24, RT.d Ty.bool] ([r.fst], true))))))) (ifs ((a0.fst == (5 : Int)) = true) (ifs ((a1.fst == (5 : Int)) = true) (ifs ((ByteArray.toList a1.snd.fst == ByteArray.toList a0.snd.snd.fst) = true) (some (injRs [RT.own (24 : Go.TypeId) ty24, RT.d Ty.bool] ([((5 : Int), a0.snd.fst, a1.snd.snd.fst, (0 : Int), [], [])], true))) (Option.bind (cR (nat_lit 19) [RT.d ty24, RT.d Ty.bool] [inj ty24 a0, inj ty24 a1]) fun r => ifs ((!r.snd) = true) (some (injRs [RT.own (24 : Go.TypeId) ty24, RT.d Ty.bool] ([], false))) (Option.bind (cR (nat_lit 42) [RT.d Ty.bool] [inj (Ty.sl Ty.str) r.fst.snd.snd.snd.snd.fst, inj (Ty.sl Ty.str) r.fst.snd.snd.snd.snd.snd]) fun r_1 => ifs (r_1 = true) (some (injRs [RT.own (24 : Go.TypeId) ty24, RT.d Ty.bool] ([], true))) (some (injRs [RT.own (24 : Go.TypeId) ty24, RT.d Ty.bool] ([r.fst], true)))))) (Option.bind (cR (nat_lit 19) [RT.d ty24, RT.d Ty.bool] [inj ty24 a0, inj ty24 a1]) fun r => ifs ((!r.snd) = true) (some (injRs [RT.own (24 : Go.TypeId) ty24, RT.d Ty.bool] ([], false))) (Option.bind (cR (nat_lit 42) [RT.d Ty.bool] [inj (Ty.sl Ty.str) r.fst.snd.snd.snd.snd.fst, inj (Ty.sl Ty.str) r.fst.snd.snd.snd.snd.snd]) fun r_1 => ifs (r_1 = true) (some (injRs [RT.own (24 : Go.TypeId) ty24, RT.d Ty.bool] ([], true))) (some (injRs [RT.own (24 : Go.TypeId) ty24, RT.d Ty.bool] ([r.fst], true)))))) (Option.bind (cR (nat_lit 19) [RT.d ty24, RT.d Ty.bool] [inj ty24 a0, inj ty24 a1]) fun r => ifs ((!r.snd) = true) (some (injRs [RT.own (24 : Go.TypeId) ty24, RT.d Ty.bool] ([], false))) (Option.bind (cR (nat_lit 42) [RT.d Ty.bool] [inj (Ty.sl Ty.str) r.fst.snd.snd.snd.snd.fst, inj (Ty.sl Ty.str) r.fst.snd.snd.snd.snd.snd]) fun r_1 => ifs (r_1 = true) (some (injRs [RT.own (24 : Go.TypeId) ty24, RT.d Ty.bool] ([], true))) (some (injRs [RT.own (24 : Go.TypeId) ty24, RT.d Ty.bool] ([r.fst], true))))))) (ifs ((a0.fst == (5 : Int)) = true) (ifs ((a1.fst == (5 : Int)) = true) (ifs ((ByteArray.toList a1.snd.fst == ByteArray.toList a0.snd.snd.fst) = true) (some (injRs [RT.own (24 : Go.TypeId) ty24, RT.d Ty.bool] ([((5 : Int), a0.snd.fst, a1.snd.snd.fst, (0 : Int), [], [])], true))) (Option.bind (cR (nat_lit 19) [RT.d ty24, RT.d Ty.bool] [inj ty24 a0, inj ty24 a1]) fun r => ifs ((!r.snd) = true) (some (injRs [RT.own (24 : Go.TypeId) ty24, RT.d Ty.bool] ([], false))) (Option.bind (cR (nat_lit 42) [RT.d Ty.bool] [inj (Ty.sl Ty.str) r.fst.snd.snd.snd.snd.fst, inj (Ty.sl Ty.str) r.fst.snd.snd.snd.snd.snd]) fun r_1 => ifs (r_1 = true) (some (injRs [RT.own (24 : Go.TypeId) ty24, RT.d Ty.bool] ([], true))) (some (injRs [RT.own (24 : Go.TypeId) ty24, RT.d Ty.bool] ([r.fst], true)))))) (Option.bind (cR (nat_lit 19) [RT.d ty24, RT.d Ty.bool] [inj ty24 a0, inj ty24 a1]) fun r => ifs ((!r.snd) = true) (some (injRs [RT.own (24 : Go.TypeId) ty24, RT.d Ty.bool] ([], false))) (Option.bind (cR (nat_lit 42) [RT.d Ty.bool] [inj (Ty.sl Ty.str) r.fst.snd.snd.snd.snd.fst, inj (Ty.sl Ty.str) r.fst.snd.snd.snd.snd.snd]) fun r_1 => ifs (r_1 = true) (some (injRs [RT.own (24 : Go.TypeId) ty24, RT.d Ty.bool] ([], true))) (some (injRs [RT.own (24 : Go.TypeId) ty24, RT.d Ty.bool] ([r.fst], true)))))) (Option.bind (cR (nat_lit 19) [RT.d ty24, RT.d Ty.bool] [inj ty24 a0, inj ty24 a1]) fun r => ifs ((!r.snd) = true) (some (injRs [RT.own (24 : Go.TypeId) ty24, RT.d Ty.bool] ([], false))) (Option.bind (cR (nat_lit 42) [RT.d Ty.bool] [inj (Ty.sl Ty.str) r.fst.snd.snd.snd.snd.fst, inj (Ty.sl Ty.str) r.fst.snd.snd.snd.snd.snd]) fun r_1 => ifs (r_1 = true) (some (injRs [RT.own (24 : Go.TypeId) ty24, RT.d Ty.bool] ([], true))) (some (injRs [RT.own (24 : Go.TypeId) ty24, RT.d Ty.bool] ([r.fst], true)))))))) (some (injRs [RT.own (24 : Go.TypeId) ty24, RT.d Ty.bool] ([], false))) := by kernel_rfl
noncomputable def td15_4 : List Item := (findT (code Tryd.f15) [] 4).getD []
noncomputable def l15_4 (x0 : Bool) (x1 : Int) (x2 : ByteArray) (x3 : ByteArray) (x4 : Int) (x5 : List ByteArray) (x6 : List ByteArray) (x7 : Int) (x8 : ByteArray) (x9 : ByteArray) (x10 : Int) (x11 : List ByteArray) (x12 : List ByteArray) (x13 : Int) (x14 : ByteArray) (x15 : ByteArray) (x16 : Int) (x17 : List ByteArray) (x18 : List ByteArray) : Option (List RV) := cutW W0 n15 td15_4 { fr := [((1 : Nat), F.a (A.c (C.pt (Pt.own (0 : Nat) (0 : Nat) (0 : Nat))))), ((2 : Nat), F.a (A.c (C.pt (Pt.own (1 : Nat) (0 : Nat) (0 : Nat))))), ((3 : Nat), F.a (A.c (C.pt (Pt.own (2 : Nat) (0 : Nat) (0 : Nat))))), ((4 : Nat), F.a (A.c (C.sc (Go.Value.bool x0))))], mem := [some (Row.box (24 : Nat) (some ty24) [C.sc (Go.Value.int Go.IntKind.i64 x1), C.sc (Go.Value.string x2), C.sc (Go.Value.string x3), C.sc (Go.Value.int Go.IntKind.i64 x4), C.sl Ty.str x5, C.sl Ty.str x6] false), some (Row.box (24 : Nat) (some ty24) [C.sc (Go.Value.int Go.IntKind.i64 x7), C.sc (Go.Value.string x8), C.sc (Go.Value.string x9), C.sc (Go.Value.int Go.IntKind.i64 x10), C.sl Ty.str x11, C.sl Ty.str x12] false), some (Row.box (24 : Nat) (some ty24) [C.sc (Go.Value.int Go.IntKind.i64 x13), C.sc (Go.Value.string x14), C.sc (Go.Value.string x15), C.sc (Go.Value.int Go.IntKind.i64 x16), C.sl Ty.str x17, C.sl Ty.str x18] false)], nx := (3 : Nat) }
theorem e15 : callG W0 (callW W0) (cutW W0) 15 [] = Option.bind (cR (nat_lit 18) [RT.d ty24, RT.d Ty.bool] [inj ty24 ((6 : Int), { data := #[(102 : UInt8)] }, { data := #[] }, (0 : Int), [{ data := #[(97 : UInt8)] }], [{ data := #[(98 : UInt8)] }]), inj ty24 ((6 : Int), { data := #[(102 : UInt8)] }, { data := #[] }, (0 : Int), [{ data := #[(98 : UInt8)] }], [{ data := #[(99 : UInt8)] }])]) fun r => l15_4 r.snd (6 : Int) { data := #[(102 : UInt8)] } { data := #[] } (0 : Int) [{ data := #[(97 : UInt8)] }] [{ data := #[(98 : UInt8)] }] (6 : Int) { data := #[(102 : UInt8)] } { data := #[] } (0 : Int) [{ data := #[(98 : UInt8)] }] [{ data := #[(99 : UInt8)] }] r.fst.fst r.fst.snd.fst r.fst.snd.snd.fst r.fst.snd.snd.snd.fst r.fst.snd.snd.snd.snd.fst r.fst.snd.snd.snd.snd.snd := by kernel_rfl
theorem q15_4 (x0 : Bool) (x1 : Int) (x2 : ByteArray) (x3 : ByteArray) (x4 : Int) (x5 : List ByteArray) (x6 : List ByteArray) (x7 : Int) (x8 : ByteArray) (x9 : ByteArray) (x10 : Int) (x11 : List ByteArray) (x12 : List ByteArray) (x13 : Int) (x14 : ByteArray) (x15 : ByteArray) (x16 : Int) (x17 : List ByteArray) (x18 : List ByteArray) : cutG W0 (callW W0) (cutW W0) n15 td15_4 { fr := [((1 : Nat), F.a (A.c (C.pt (Pt.own (0 : Nat) (0 : Nat) (0 : Nat))))), ((2 : Nat), F.a (A.c (C.pt (Pt.own (1 : Nat) (0 : Nat) (0 : Nat))))), ((3 : Nat), F.a (A.c (C.pt (Pt.own (2 : Nat) (0 : Nat) (0 : Nat))))), ((4 : Nat), F.a (A.c (C.sc (Go.Value.bool x0))))], mem := [some (Row.box (24 : Nat) (some ty24) [C.sc (Go.Value.int Go.IntKind.i64 x1), C.sc (Go.Value.string x2), C.sc (Go.Value.string x3), C.sc (Go.Value.int Go.IntKind.i64 x4), C.sl Ty.str x5, C.sl Ty.str x6] false), some (Row.box (24 : Nat) (some ty24) [C.sc (Go.Value.int Go.IntKind.i64 x7), C.sc (Go.Value.string x8), C.sc (Go.Value.string x9), C.sc (Go.Value.int Go.IntKind.i64 x10), C.sl Ty.str x11, C.sl Ty.str x12] false), some (Row.box (24 : Nat) (some ty24) [C.sc (Go.Value.int Go.IntKind.i64 x13), C.sc (Go.Value.string x14), C.sc (Go.Value.string x15), C.sc (Go.Value.int Go.IntKind.i64 x16), C.sl Ty.str x17, C.sl Ty.str x18] false)], nx := (3 : Nat) } = Option.bind (cR (nat_lit 64) [RT.d ty24] [inj ty24 (x1, x2, x3, x4, x5, x6)]) fun r => Option.bind (cR (nat_lit 22) [RT.own (24 : Go.TypeId) ty24] [inj (Ty.sl ty24) [((3 : Int), { data := #[(120 : UInt8)] }, { data := #[] }, (0 : Int), [], []), (x1, x2, x3, x4, x5, x6), r, ((4 : Int), { data := #[(120 : UInt8)] }, { data := #[] }, (0 : Int), [], [])]]) fun r => ifs (x0 = true) (Option.bind x17[Int.toNat (0 : Int)]? fun r_1 => ifs ((ByteArray.toList r_1 == ByteArray.toList { data := #[(97 : UInt8)] }) = true) (Option.bind x18[Int.toNat (0 : Int)]? fun r_2 => ifs ((ByteArray.toList r_2 == ByteArray.toList { data := #[(99 : UInt8)] }) = true) (ifs (((↑(List.length r) : Int) == (0 : Int)) = true) (Option.bind (cR (nat_lit 20) [RT.d Ty.bool] [inj ty24 (x1, x2, x3, x4, x5, x6), inj ty24 (x7, x8, x9, x10, x11, x12)]) fun r => some (injRs [RT.d Ty.bool] r)) (some (injRs [RT.d Ty.bool] false))) (some (injRs [RT.d Ty.bool] false))) (some (injRs [RT.d Ty.bool] false))) (some (injRs [RT.d Ty.bool] false)) := by kernel_rfl
theorem e4 (a0 : Int × ByteArray × ByteArray × Int × List ByteArray × List ByteArray) (a1 : Int × ByteArray × ByteArray × Int × List ByteArray × List ByteArray) : callG W0 (callW W0) (cutW W0) 4 [inj ty24 a0, inj ty24 a1] = Option.bind (cR (nat_lit 14) [RT.d Ty.bool] [inj (Ty.sl ty24) [a0, a1]]) fun r => ifs ((!r) = true) (Option.bind (cR (nat_lit 15) [RT.d Ty.bool] []) fun r => some (injRs [RT.d Ty.bool] r)) (Option.bind (cR (nat_lit 16) [RT.own (24 : Go.TypeId) ty24, RT.d Ty.bool] [inj ty24 a0, inj ty24 a1]) fun r => Option.bind (cR (nat_lit 17) [RT.own (24 : Go.TypeId) ty24, RT.d Ty.bool] [inj ty24 a0, inj ty24 a1]) fun r_1 => Option.bind (cR (nat_lit 18) [RT.d ty24, RT.d Ty.bool] [inj ty24 a0, inj ty24 a1]) fun r_2 => Option.bind (cR (nat_lit 19) [RT.d ty24, RT.d Ty.bool] [inj ty24 a0, inj ty24 a1]) fun r_3 => Option.bind (cR (nat_lit 15) [RT.d Ty.bool] []) fun r_4 => ifs (r_4 = true) (ifs ((r.snd == r_1.snd) = true) (Option.bind (cR (nat_lit 13) [RT.d Ty.bool] [inj (Ty.sl ty24) (List.take (List.length r.fst) r.fst), inj (Ty.sl ty24) (List.take (List.length r_1.fst) r_1.fst)]) fun r => ifs (r = true) (ifs ((r_2.snd == r_3.snd) = true) (Option.bind (cR (nat_lit 13) [RT.d Ty.bool] [inj (Ty.sl ty24) [r_2.fst], inj (Ty.sl ty24) [r_3.fst]]) fun r => ifs (r = true) (Option.bind (cR (nat_lit 20) [RT.d Ty.bool] [inj ty24 a0, inj ty24 a1]) fun r => Option.bind (cR (nat_lit 21) [RT.d Ty.bool] [inj ty24 a0, inj ty24 a1]) fun r_5 => some (injRs [RT.d Ty.bool] (r == r_5))) (some (injRs [RT.d Ty.bool] false))) (some (injRs [RT.d Ty.bool] false))) (some (injRs [RT.d Ty.bool] false))) (some (injRs [RT.d Ty.bool] false))) (some (injRs [RT.d Ty.bool] false))) := by kernel_rfl
noncomputable def td5_5 : List Item := (findT (code Tryd.f5) [] 5).getD []
noncomputable def l5_5 (x0 : List (Int × ByteArray × ByteArray × Int × List ByteArray × List ByteArray)) (x1 : Int) (x2 : List (Int × ByteArray × ByteArray × Int × List ByteArray × List ByteArray)) : Option (List RV) := cutW W0 n5 td5_5 { fr := [((0 : Nat), F.a (A.c (C.sl ty24 x0))), ((3 : Nat), F.a (A.c (C.ow (0 : Nat) (List.length x2)))), ((4 : Nat), F.a (A.c (C.sc (Go.Value.int Go.IntKind.i64 x1))))], mem := [some (Row.arr (24 : Nat) ty24 x2 false)], nx := (1 : Nat) }
noncomputable def td5_8 : List Item := (findT (code Tryd.f5) [] 8).getD []
noncomputable def l5_8 (x0 : List (Int × ByteArray × ByteArray × Int × List ByteArray × List ByteArray)) (x1 : Nat) (x2 : Int) (x3 : List (Int × ByteArray × ByteArray × Int × List ByteArray × List ByteArray)) (x4 : List (Int × ByteArray × ByteArray × Int × List ByteArray × List ByteArray)) : Option (List RV) := cutW W0 n5 td5_8 { fr := [((0 : Nat), F.a (A.c (C.sl ty24 x0))), ((3 : Nat), F.a (A.c (C.ow (0 : Nat) x1))), ((4 : Nat), F.a (A.c (C.sc (Go.Value.int Go.IntKind.i64 x2)))), ((5 : Nat), F.a (A.c (C.sl ty24 x3)))], mem := [some (Row.arr (24 : Nat) ty24 x4 false)], nx := (1 : Nat) }
noncomputable def l5_8v1 (x0 : List (Int × ByteArray × ByteArray × Int × List ByteArray × List ByteArray)) (x1 : Nat) (x2 : Int) (x3 : Nat) (x4 : List (Int × ByteArray × ByteArray × Int × List ByteArray × List ByteArray)) (x5 : List (Int × ByteArray × ByteArray × Int × List ByteArray × List ByteArray)) : Option (List RV) := cutW W0 n5 td5_8 { fr := [((0 : Nat), F.a (A.c (C.sl ty24 x0))), ((3 : Nat), F.a (A.c (C.ow (0 : Nat) x1))), ((4 : Nat), F.a (A.c (C.sc (Go.Value.int Go.IntKind.i64 x2)))), ((5 : Nat), F.a (A.c (C.ow (1 : Nat) x3)))], mem := [some (Row.arr (24 : Nat) ty24 x4 false), some (Row.arr (24 : Nat) ty24 x5 false)], nx := (2 : Nat) }
theorem e5 (a0 : List (Int × ByteArray × ByteArray × Int × List ByteArray × List ByteArray)) : callG W0 (callW W0) (cutW W0) 5 [inj (Ty.sl ty24) a0] = Option.bind (cR (nat_lit 14) [RT.d Ty.bool] [inj (Ty.sl ty24) a0]) fun r => ifs ((!r) = true) (Option.bind (cR (nat_lit 15) [RT.d Ty.bool] []) fun r => some (injRs [RT.d Ty.bool] r)) (l5_5 a0 (0 : Int) []) := by kernel_rfl
theorem q5_5 (x0 : List (Int × ByteArray × ByteArray × Int × List ByteArray × List ByteArray)) (x1 : Int) (x2 : List (Int × ByteArray × ByteArray × Int × List ByteArray × List ByteArray)) : cutG W0 (callW W0) (cutW W0) n5 td5_5 { fr := [((0 : Nat), F.a (A.c (C.sl ty24 x0))), ((3 : Nat), F.a (A.c (C.ow (0 : Nat) (List.length x2)))), ((4 : Nat), F.a (A.c (C.sc (Go.Value.int Go.IntKind.i64 x1))))], mem := [some (Row.arr (24 : Nat) ty24 x2 false)], nx := (1 : Nat) } = ifs (decide (x1 < (↑(List.length x0) : Int)) = true) (ifs ((0 : Int) ≤ Go.IntKind.wrap Go.IntKind.i64 (x1 + (1 : Int)) ∧ Go.IntKind.wrap Go.IntKind.i64 (x1 + (1 : Int)) ≤ (↑(List.length x0) : Int)) (ifs ((0 : Int) ≤ x1 ∧ x1 ≤ Go.IntKind.wrap Go.IntKind.i64 (x1 + (1 : Int))) (l5_8 x0 (List.length x2) x1 (List.drop (Int.toNat x1) (List.take (Int.toNat (Go.IntKind.wrap Go.IntKind.i64 (x1 + (1 : Int)))) x0)) x2) none) none) (Option.bind (cR (nat_lit 15) [RT.d Ty.bool] []) fun r => ifs (r = true) (Option.bind (cR (nat_lit 22) [RT.own (24 : Go.TypeId) ty24] [inj (Ty.sl ty24) x0]) fun r => Option.bind (cR (nat_lit 13) [RT.d Ty.bool] [inj (Ty.sl ty24) (List.take (List.length r) r), inj (Ty.sl ty24) (List.take (List.length x2) x2)]) fun r => some (injRs [RT.d Ty.bool] r)) (some (injRs [RT.d Ty.bool] false))) := by kernel_rfl
theorem q5_8 (x0 : List (Int × ByteArray × ByteArray × Int × List ByteArray × List ByteArray)) (x1 : Nat) (x2 : Int) (x3 : List (Int × ByteArray × ByteArray × Int × List ByteArray × List ByteArray)) (x4 : List (Int × ByteArray × ByteArray × Int × List ByteArray × List ByteArray)) : cutG W0 (callW W0) (cutW W0) n5 td5_8 { fr := [((0 : Nat), F.a (A.c (C.sl ty24 x0))), ((3 : Nat), F.a (A.c (C.ow (0 : Nat) x1))), ((4 : Nat), F.a (A.c (C.sc (Go.Value.int Go.IntKind.i64 x2)))), ((5 : Nat), F.a (A.c (C.sl ty24 x3)))], mem := [some (Row.arr (24 : Nat) ty24 x4 false)], nx := (1 : Nat) } = ifs (decide ((↑(List.length x3) : Int) > (0 : Int)) = true) (ifs (decide ((↑x1 : Int) > (0 : Int)) = true) (ifs ((0 : Int) ≤ Go.IntKind.wrap Go.IntKind.i64 ((↑x1 : Int) - (1 : Int)) ∧ Go.IntKind.wrap Go.IntKind.i64 ((↑x1 : Int) - (1 : Int)) < (↑x1 : Int)) (Option.bind x4[Int.toNat (Go.IntKind.wrap Go.IntKind.i64 ((↑x1 : Int) - (1 : Int)))]? fun r => Option.bind x3[Int.toNat (0 : Int)]? fun r_1 => Option.bind (cR (nat_lit 17) [RT.own (24 : Go.TypeId) ty24, RT.d Ty.bool] [inj ty24 r, inj ty24 r_1]) fun r => ifs ((!r.snd) = true) (ifs (((0 : Nat) + List.length (List.take x1 x4)) * nat_lit 96 ≤ (140737488355328 : Nat)) (ifs ((List.length ([] ++ List.take x1 x4) + List.length x3) * nat_lit 96 ≤ (140737488355328 : Nat)) (l5_5 x0 (Go.IntKind.wrap Go.IntKind.i64 (x2 + (1 : Int))) (List.take (List.length ([] ++ List.take x1 x4)) ([] ++ List.take x1 x4) ++ x3)) none) none) (ifs ((0 : Int) ≤ Go.IntKind.wrap Go.IntKind.i64 ((↑x1 : Int) - (1 : Int)) ∧ Go.IntKind.wrap Go.IntKind.i64 ((↑x1 : Int) - (1 : Int)) ≤ (↑x1 : Int)) (l5_8v1 x0 (Int.toNat (Go.IntKind.wrap Go.IntKind.i64 ((↑x1 : Int) - (1 : Int)))) x2 (List.length r.fst) x4 r.fst) none)) none) (ifs (((0 : Nat) + List.length (List.take x1 x4)) * nat_lit 96 ≤ (140737488355328 : Nat)) (ifs ((List.length ([] ++ List.take x1 x4) + List.length x3) * nat_lit 96 ≤ (140737488355328 : Nat)) (l5_5 x0 (Go.IntKind.wrap Go.IntKind.i64 (x2 + (1 : Int))) (List.take (List.length ([] ++ List.take x1 x4)) ([] ++ List.take x1 x4) ++ x3)) none) none)) (ifs (((0 : Nat) + List.length (List.take x1 x4)) * nat_lit 96 ≤ (140737488355328 : Nat)) (ifs ((List.length ([] ++ List.take x1 x4) + List.length x3) * nat_lit 96 ≤ (140737488355328 : Nat)) (l5_5 x0 (Go.IntKind.wrap Go.IntKind.i64 (x2 + (1 : Int))) (List.take (List.length ([] ++ List.take x1 x4)) ([] ++ List.take x1 x4) ++ x3)) none) none) := by kernel_rfl
theorem q5_8v1 (x0 : List (Int × ByteArray × ByteArray × Int × List ByteArray × List ByteArray)) (x1 : Nat) (x2 : Int) (x3 : Nat) (x4 : List (Int × ByteArray × ByteArray × Int × List ByteArray × List ByteArray)) (x5 : List (Int × ByteArray × ByteArray × Int × List ByteArray × List ByteArray)) : cutG W0 (callW W0) (cutW W0) n5 td5_8 { fr := [((0 : Nat), F.a (A.c (C.sl ty24 x0))), ((3 : Nat), F.a (A.c (C.ow (0 : Nat) x1))), ((4 : Nat), F.a (A.c (C.sc (Go.Value.int Go.IntKind.i64 x2)))), ((5 : Nat), F.a (A.c (C.ow (1 : Nat) x3)))], mem := [some (Row.arr (24 : Nat) ty24 x4 false), some (Row.arr (24 : Nat) ty24 x5 false)], nx := (2 : Nat) } = ifs (decide ((↑x3 : Int) > (0 : Int)) = true) (ifs (decide ((↑x1 : Int) > (0 : Int)) = true) (ifs ((0 : Int) ≤ Go.IntKind.wrap Go.IntKind.i64 ((↑x1 : Int) - (1 : Int)) ∧ Go.IntKind.wrap Go.IntKind.i64 ((↑x1 : Int) - (1 : Int)) < (↑x1 : Int)) (Option.bind x4[Int.toNat (Go.IntKind.wrap Go.IntKind.i64 ((↑x1 : Int) - (1 : Int)))]? fun r => ifs ((0 : Int) ≤ (0 : Int) ∧ (0 : Int) < (↑x3 : Int)) (Option.bind x5[Int.toNat (0 : Int)]? fun r_1 => Option.bind (cR (nat_lit 17) [RT.own (24 : Go.TypeId) ty24, RT.d Ty.bool] [inj ty24 r, inj ty24 r_1]) fun r => ifs ((!r.snd) = true) (ifs (((0 : Nat) + List.length (List.take x1 x4)) * nat_lit 96 ≤ (140737488355328 : Nat)) (ifs ((List.length ([] ++ List.take x1 x4) + List.length (List.take x3 x5)) * nat_lit 96 ≤ (140737488355328 : Nat)) (l5_5 x0 (Go.IntKind.wrap Go.IntKind.i64 (x2 + (1 : Int))) (List.take (List.length ([] ++ List.take x1 x4)) ([] ++ List.take x1 x4) ++ List.take x3 x5)) none) none) (ifs ((0 : Int) ≤ Go.IntKind.wrap Go.IntKind.i64 ((↑x1 : Int) - (1 : Int)) ∧ Go.IntKind.wrap Go.IntKind.i64 ((↑x1 : Int) - (1 : Int)) ≤ (↑x1 : Int)) (l5_8v1 x0 (Int.toNat (Go.IntKind.wrap Go.IntKind.i64 ((↑x1 : Int) - (1 : Int)))) x2 (List.length r.fst) x4 r.fst) none)) none) none) (ifs (((0 : Nat) + List.length (List.take x1 x4)) * nat_lit 96 ≤ (140737488355328 : Nat)) (ifs ((List.length ([] ++ List.take x1 x4) + List.length (List.take x3 x5)) * nat_lit 96 ≤ (140737488355328 : Nat)) (l5_5 x0 (Go.IntKind.wrap Go.IntKind.i64 (x2 + (1 : Int))) (List.take (List.length ([] ++ List.take x1 x4)) ([] ++ List.take x1 x4) ++ List.take x3 x5)) none) none)) (ifs (((0 : Nat) + List.length (List.take x1 x4)) * nat_lit 96 ≤ (140737488355328 : Nat)) (ifs ((List.length ([] ++ List.take x1 x4) + List.length (List.take x3 x5)) * nat_lit 96 ≤ (140737488355328 : Nat)) (l5_5 x0 (Go.IntKind.wrap Go.IntKind.i64 (x2 + (1 : Int))) (List.take (List.length ([] ++ List.take x1 x4)) ([] ++ List.take x1 x4) ++ List.take x3 x5)) none) none) := by kernel_rfl
end Go.Proofs.YtokecnkjgoghhaaDoor.Tb
end
section
/- What some functions of the program and of the references come to, in plain words: which lists are light, the same. Conditions: lengths as they stand in each statement. -/
set_option linter.unusedVariables false
set_option linter.unusedSimpArgs false
namespace Go.Proofs.YtokecnkjgoghhaaDoor.Sp
open Go Go.Proofs.YtokecnkjgoghhaaDoor.Ab Go.Proofs.YtokecnkjgoghhaaDoor.Tb

abbrev Txt := ByteArray
abbrev Prm := Int × Txt × Txt × Int × List Txt × List Txt
instance prmDec1 : DecidableEq (Txt × Int × List Txt × List Txt) := inferInstance
instance prmDec : DecidableEq Prm := inferInstance
abbrev top : Nat := 9223372036854775807
def fits (n : Int) : Prop := -9223372036854775808 ≤ n ∧ n ≤ 9223372036854775807

theorem wr (n : Int) (h : -9223372036854775808 ≤ n ∧ n ≤ 9223372036854775807) : IntKind.i64.wrap n = n := IntWalk.i64_in n h
theorem wrS {i k : Nat} (h : i < k) (hk : k ≤ top) : IntKind.i64.wrap ((i : Int) + 1) = ((i + 1 : Nat) : Int) := by
  rw [wr _ ⟨by omega, by simp only [top] at hk; omega⟩]; omega
theorem ifs_pos {α : Type} {c : Prop} [Decidable c] {a b : α} (h : c) : ifs c a b = a := by simp [ifs, h]
theorem ifs_neg {α : Type} {c : Prop} [Decidable c] {a b : α} (h : ¬ c) : ifs c a b = b := by simp [ifs, h]
theorem bytes_eq {s t : Txt} : s.toList = t.toList ↔ s = t := by
  constructor
  · intro h
    have e : ∀ x : Txt, x.toList = x.data.toList := fun x => ByteArray.toList_eq x
    rw [e, e] at h
    cases s; cases t
    simp only [ByteArray.mk.injEq]
    exact Array.toList_inj.1 h
  · rintro rfl; rfl
theorem bat {s t : Txt} : (s.toList == t.toList) = decide (s = t) := by
  rw [Bool.eq_iff_iff, beq_iff_eq, decide_eq_true_eq, bytes_eq]

/-- A loop over a list's places: 'i' to its end. -/
theorem upTo {k : Nat} {C : Nat → Prop} (h : ∀ i, i < k → C (i + 1) → C i) (h0 : C k) : ∀ i, i ≤ k → C i := by
  intro i hi
  obtain ⟨d, rfl⟩ : ∃ d, k = i + d := ⟨k - i, by omega⟩
  clear hi
  induction d generalizing i with
  | zero => exact h0
  | succ d ih =>
    refine h i (by omega) (ih (i + 1) (fun j hj => ?_) ?_)
    · exact h j (by omega)
    · rw [show i + 1 + d = i + (d + 1) by omega]; exact h0

/-! ### rafterlaw03.Light -/
def light3 (l : List Txt) : Bool := l.all (fun s => decide (s.size ≤ 300)) && decide (l.length ≤ 60)
theorem light3_loop (l : List Txt) (hl : l.length ≤ top) : ∀ i : Nat, i ≤ l.length → l33_2 l i = some (injRs [RT.d .bool] ((l.drop i).all (fun s => decide (s.size ≤ 300)) && decide (l.length ≤ 60))) := by
  refine upTo (fun i hi ih => ?_) ?_
  · refine cutG_step ((q33_2 l i).trans ?_)
    rw [ifs_pos (by simpa using hi), ifs_pos (by omega), Int.toNat_natCast, List.getElem?_eq_getElem hi, Option.bind_some, wrS hi hl, ih, List.drop_eq_getElem_cons hi, List.all_cons]
    by_cases h : l[i].size ≤ 300
    · rw [ifs_neg (by simp; omega)]; simp [h]
    · rw [ifs_pos (by simp; omega)]; simp [h]
  · refine cutG_step ((q33_2 l l.length).trans ?_)
    rw [ifs_neg (by simp)]
    exact congrArg (fun b => some (injRs [RT.d .bool] b)) (by rw [List.drop_length, List.all_nil, Bool.true_and, decide_eq_decide]; omega)
theorem light3_ok (l : List Txt) (hl : l.length ≤ top) : cR 33 [RT.d .bool] [inj (.sl .str) l] = some (light3 l) :=
  callT_of ((e33 l).trans (by rw [show (0 : Int) = ((0 : Nat) : Int) from rfl, light3_loop l hl 0 (Nat.zero_le _)]; rfl))


/-! ### Lists of texts that are the same -/
theorem drop_eq {α : Type} {a b : List α} {i : Nat} (ha : i < a.length) (hb : i < b.length) : a.drop i = b.drop i ↔ a[i] = b[i] ∧ a.drop (i + 1) = b.drop (i + 1) := by
  rw [List.drop_eq_getElem_cons ha, List.drop_eq_getElem_cons hb, List.cons.injEq]
theorem same1_loop (a b : List Txt) (ha : a.length ≤ top) (hab : a.length = b.length) : ∀ i : Nat, i ≤ a.length → l42_4 a b i = some (injRs [RT.d .bool] (decide (a.drop i = b.drop i))) := by
  refine upTo (fun i hi ih => ?_) ?_
  · refine cutG_step ((q42_4 a b i).trans ?_)
    have hb : i < b.length := by omega
    rw [ifs_pos (by simpa using hi), ifs_pos (by omega), Int.toNat_natCast, List.getElem?_eq_getElem hi, Option.bind_some, ifs_pos (by omega), List.getElem?_eq_getElem hb, Option.bind_some, wrS hi ha, ih, bat]
    by_cases h : a[i] = b[i]
    · rw [ifs_neg (by simp [h])]; simp only [drop_eq hi hb, h, true_and]
    · rw [ifs_pos (by simp [h])]; simp only [drop_eq hi hb, h, false_and, decide_false]
  · refine cutG_step ((q42_4 a b a.length).trans ?_)
    rw [ifs_neg (by simp)]
    simp [hab]
theorem same1_ok (a b : List Txt) (ha : a.length ≤ top) : cR 42 [RT.d .bool] [inj (.sl .str) a, inj (.sl .str) b] = some (decide (a = b)) := by
  refine callT_of ((e42 a b).trans ?_)
  by_cases h : a.length = b.length
  · rw [ifs_neg (by simp [h]), show (0 : Int) = ((0 : Nat) : Int) from rfl, same1_loop a b ha h 0 (Nat.zero_le _)]; rfl
  · rw [ifs_pos (by simp; omega), decide_eq_false (fun e => h (by rw [e]))]
theorem slEq_loop (a b : List Txt) (ha : a.length ≤ top) (hab : a.length = b.length) : ∀ i : Nat, i ≤ a.length → l115_4 a b a.length i = some (injRs [RT.d .bool] (decide (a.drop i = b.drop i))) := by
  refine upTo (fun i hi ih => ?_) ?_
  · refine cutG_step ((q115_4 a b a.length i).trans ?_)
    have hb : i < b.length := by omega
    rw [ifs_pos (by simpa using hi), ifs_pos (by omega), Int.toNat_natCast, List.getElem?_eq_getElem hi, Option.bind_some, ifs_pos (by omega), List.getElem?_eq_getElem hb, Option.bind_some, wrS hi ha, ih, bat]
    by_cases h : a[i] = b[i]
    · rw [ifs_neg (by simp [h])]; simp only [drop_eq hi hb, h, true_and]
    · rw [ifs_pos (by simp [h])]; simp only [drop_eq hi hb, h, false_and, decide_false]
  · refine cutG_step ((q115_4 a b a.length a.length).trans ?_)
    rw [ifs_neg (by simp)]
    simp [hab]
theorem slEq_ok (a b : List Txt) (ha : a.length ≤ top) : cR 115 [RT.d .bool] [inj (.sl .str) a, inj (.sl .str) b] = some (decide (a = b)) := by
  refine callT_of ((e115 a b).trans ?_)
  by_cases h : a.length = b.length
  · rw [ifs_neg (by simp [h]), show (0 : Int) = ((0 : Nat) : Int) from rfl, slEq_loop a b ha h 0 (Nat.zero_le _)]; rfl
  · rw [ifs_pos (by simp; omega), decide_eq_false (fun e => h (by rw [e]))]
theorem lsame_ok (a b : List Txt) (ha : a.length ≤ top) : cR 66 [RT.d .bool] [inj (.sl .str) a, inj (.sl .str) b] = some (decide (a = b)) :=
  callT_of ((e66 a b).trans (by rw [slEq_ok a b ha]; rfl))

/-! ### Steps: which are light, which are the same -/
/-- What every argument is: its lists are lists of the machine's. -/
def POk (p : Prm) : Prop := p.2.2.2.2.1.length ≤ top ∧ p.2.2.2.2.2.length ≤ top
def lightP (p : Prm) : Bool := decide (p.2.1.size ≤ 300) && decide (p.2.2.1.size ≤ 300) && light3 p.2.2.2.2.1 && light3 p.2.2.2.2.2
def light7 (l : List Prm) : Bool := l.all lightP && decide (l.length ≤ 40)
theorem light7_loop (l : List Prm) (hl : l.length ≤ top) (hp : ∀ p ∈ l, POk p) : ∀ i : Nat, i ≤ l.length → l10_2 l i = some (injRs [RT.d .bool] ((l.drop i).all lightP && decide (l.length ≤ 40))) := by
  refine upTo (fun i hi ih => ?_) ?_
  · refine cutG_step ((q10_2 l i).trans ?_)
    obtain ⟨h1, h2⟩ := hp l[i] (List.getElem_mem hi)
    simp only [Int.toNat_natCast, List.getElem?_eq_getElem hi, Option.bind_some, light3_ok _ h1, light3_ok _ h2, wrS hi hl, ih, List.drop_eq_getElem_cons hi, List.all_cons]
    rw [ifs_pos (by simpa using hi), ifs_pos (by omega)]
    have h0 : (0 : Int) ≤ i := by omega
    simp only [ifs, h0, if_true]
    by_cases c1 : (l[i]).2.1.size ≤ 300
    · by_cases c2 : (l[i]).2.2.1.size ≤ 300
      · have d1 : ¬ 300 < ((l[i]).2.1.size : Int) := by omega
        have d2 : ¬ 300 < ((l[i]).2.2.1.size : Int) := by omega
        cases c3 : light3 (l[i]).2.2.2.2.1 <;> cases c4 : light3 (l[i]).2.2.2.2.2 <;> simp [lightP, c1, c2, c3, c4, d1, d2]
      · have d1 : ¬ 300 < ((l[i]).2.1.size : Int) := by omega
        have d2 : 300 < ((l[i]).2.2.1.size : Int) := by omega
        simp [lightP, c1, c2, d1, d2]
    · have d1 : 300 < ((l[i]).2.1.size : Int) := by omega
      simp [lightP, c1, d1]
  · refine cutG_step ((q10_2 l l.length).trans ?_)
    rw [ifs_neg (by simp)]
    exact congrArg (fun b => some (injRs [RT.d .bool] b)) (by rw [List.drop_length, List.all_nil, Bool.true_and, decide_eq_decide]; omega)
theorem light7_ok (l : List Prm) (hl : l.length ≤ top) (hp : ∀ p ∈ l, POk p) : cR 10 [RT.d .bool] [inj (.sl ty24) l] = some (light7 l) :=
  callT_of ((e10 l).trans (by rw [show (0 : Int) = ((0 : Nat) : Int) from rfl, light7_loop l hl hp 0 (Nat.zero_le _)]; rfl))

def light9 (l : List Prm) : Bool := l.all (fun p => decide (p.2.2.2.1 ≤ 1099511627776)) && light7 l
theorem light9_loop (l : List Prm) (hl : l.length ≤ top) (hp : ∀ p ∈ l, POk p) : ∀ i : Nat, i ≤ l.length → l14_2 l i = some (injRs [RT.d .bool] ((l.drop i).all (fun p => decide (p.2.2.2.1 ≤ 1099511627776)) && light7 l)) := by
  refine upTo (fun i hi ih => ?_) ?_
  · refine cutG_step ((q14_2 l i).trans ?_)
    simp only [Int.toNat_natCast, List.getElem?_eq_getElem hi, Option.bind_some, wrS hi hl, ih, List.drop_eq_getElem_cons hi, List.all_cons]
    rw [ifs_pos (by simpa using hi), ifs_pos (by omega)]
    by_cases c1 : (l[i]).2.2.2.1 ≤ 1099511627776
    · rw [ifs_neg (by simp; omega)]; simp [c1]
    · rw [ifs_pos (by simp; omega)]; simp [c1]
  · refine cutG_step ((q14_2 l l.length).trans ?_)
    rw [ifs_neg (by simp), light7_ok l hl hp]
    simp
theorem light9_ok (l : List Prm) (hl : l.length ≤ top) (hp : ∀ p ∈ l, POk p) : cR 14 [RT.d .bool] [inj (.sl ty24) l] = some (light9 l) :=
  callT_of ((e14 l).trans (by rw [show (0 : Int) = ((0 : Nat) : Int) from rfl, light9_loop l hl hp 0 (Nat.zero_le _)]; rfl))

theorem prm_eq {p q : Prm} : p = q ↔ p.1 = q.1 ∧ p.2.1 = q.2.1 ∧ p.2.2.1 = q.2.2.1 ∧ p.2.2.2.1 = q.2.2.2.1 ∧ p.2.2.2.2.1 = q.2.2.2.2.1 ∧ p.2.2.2.2.2 = q.2.2.2.2.2 := by
  obtain ⟨a, b, c, d, e, f⟩ := p
  obtain ⟨a', b', c', d', e', f'⟩ := q
  simp only [Prod.mk.injEq]
theorem same7_loop (a b : List Prm) (ha : a.length ≤ top) (hab : a.length = b.length) (hp : ∀ p ∈ a, POk p) : ∀ i : Nat, i ≤ a.length → l13_4 a b i = some (injRs [RT.d .bool] (decide (a.drop i = b.drop i))) := by
  refine upTo (fun i hi ih => ?_) ?_
  · refine cutG_step ((q13_4 a b i).trans ?_)
    have hb : i < b.length := by omega
    obtain ⟨h1, h2⟩ := hp a[i] (List.getElem_mem hi)
    simp only [Int.toNat_natCast, List.getElem?_eq_getElem hi, List.getElem?_eq_getElem hb, Option.bind_some, same1_ok _ _ h1, same1_ok _ _ h2, wrS hi ha, ih, bat, drop_eq hi hb, prm_eq]
    have h0 : (0 : Int) ≤ i := by omega
    rw [ifs_pos (by simpa using hi)]
    simp only [ifs, h0, if_true]
    by_cases c1 : (a[i]).1 = (b[i]).1
    · by_cases c2 : (a[i]).2.1 = (b[i]).2.1
      · by_cases c3 : (a[i]).2.2.1 = (b[i]).2.2.1
        · by_cases c4 : (a[i]).2.2.2.1 = (b[i]).2.2.2.1
          · by_cases c5 : (a[i]).2.2.2.2.1 = (b[i]).2.2.2.2.1
            · by_cases c6 : (a[i]).2.2.2.2.2 = (b[i]).2.2.2.2.2
              · simp [c1, c2, c3, c4, c5, c6]
              · simp [c1, c2, c3, c4, c5, c6]
            · simp [c1, c2, c3, c4, c5]
          · simp [c1, c2, c3, c4]
        · simp [c1, c2, c3]
      · simp [c1, c2]
    · simp [c1]
  · refine cutG_step ((q13_4 a b a.length).trans ?_)
    rw [ifs_neg (by simp)]
    simp [hab]
theorem same7_ok (a b : List Prm) (ha : a.length ≤ top) (hp : ∀ p ∈ a, POk p) : cR 13 [RT.d .bool] [inj (.sl ty24) a, inj (.sl ty24) b] = some (decide (a = b)) := by
  refine callT_of ((e13 a b).trans ?_)
  by_cases h : a.length = b.length
  · rw [ifs_neg (by simp [h]), show (0 : Int) = ((0 : Nat) : Int) from rfl, same7_loop a b ha h hp 0 (Nat.zero_le _)]; rfl
  · rw [ifs_pos (by simp; omega), decide_eq_false (fun e => h (by rw [e]))]
theorem psame_ok (a b : Prm) (hp : POk a) : cR 114 [RT.d .bool] [inj ty24 a, inj ty24 b] = some (decide (a = b)) := by
  refine callT_of ((e114 a b).trans ?_)
  simp only [lsame_ok _ _ hp.1, lsame_ok _ _ hp.2, Option.bind_some, bat, prm_eq]
  simp only [ifs]
  by_cases c1 : a.1 = b.1
  · by_cases c2 : a.2.1 = b.2.1
    · by_cases c3 : a.2.2.1 = b.2.2.1
      · by_cases c4 : a.2.2.2.1 = b.2.2.2.1
        · by_cases c5 : a.2.2.2.2.1 = b.2.2.2.2.1
          · simp [c1, c2, c3, c4, c5]
          · simp [c1, c2, c3, c4, c5]
        · simp [c1, c2, c3, c4]
      · simp [c1, c2, c3]
    · simp [c1, c2]
  · simp [c1]

end Go.Proofs.YtokecnkjgoghhaaDoor.Sp
end
section
/- What some functions of the program and of the references come to, in plain words: names, lines, paths, which steps may be. Conditions: lengths as they stand in each statement. -/
set_option linter.unusedVariables false
set_option linter.unusedSimpArgs false
namespace Go.Proofs.YtokecnkjgoghhaaDoor.Sp
open Go Go.Proofs.YtokecnkjgoghhaaDoor.Ab Go.Proofs.YtokecnkjgoghhaaDoor.Tb Go.Proofs.YtokecnkjgoghhaaDoor.EText

/-! ### What the library's functions hand back -/
theorem nright_ok (s : Txt) (hs : s.size ≤ top) : cR 131 [RT.d .bool] [inj .str s] = some (rightB s) :=
  callT_of (by show (if s.size ≤ 9223372036854775807 then some [RV.d (inj .bool (rightB s))] else none) = _; rw [if_pos hs]; rfl)
theorem lright_ok (s : Txt) (hs : s.size ≤ top) : cR 157 [RT.d .bool] [inj .str s] = some (lineB s) :=
  callT_of (by show (if s.size ≤ 9223372036854775807 then some [RV.d (inj .bool (lineB s))] else none) = _; rw [if_pos hs]; rfl)
theorem split_ok (s t : Txt) (hs : s.size < 4294967281) (ht : 1 ≤ t.size) : cR 129 [RT.own 9 .str] [inj .str s, inj .str t] = some (splitL s t) :=
  callT_of (by show (if s.size < 4294967281 ∧ 1 ≤ t.size then some [RV.own 9 .str (splitL s t)] else none) = _; rw [if_pos ⟨hs, ht⟩]; rfl)
theorem clone_ok (l : List Txt) (hl : l.length * 16 ≤ 140737488355328) : cR 113 [RT.own 9 .str] [inj (.sl .str) l] = some l :=
  callT_of (by show (if l.length * 16 ≤ 140737488355328 then some [RV.own 9 .str l] else none) = _; rw [if_pos hl]; rfl)
theorem decodeGo_tail (s : Txt) (pos : Nat) (h : pos < s.size) : Lib.decodeGo (s.extract pos s.size) = Utf8.decode s pos := by
  unfold Lib.decodeGo
  rw [if_neg (by rw [Lib.tail_size]; omega), Lib.tail_decode, Nat.add_zero]
theorem decode_ok (s : Txt) : cR 177 [RT.d (.int .i32), RT.d (.int .i64)] [inj .str s] = some (((Lib.decodeGo s).1 : Int), ((Lib.decodeGo s).2 : Int)) :=
  callT_of rfl

/-! ### Names: rafterref02.Right -/
theorem letter_loop (c : Nat) (s : Txt) (hs : s.size ≤ top) : ∀ i : Nat, i ≤ s.size → l179_3 c s i = some (injRs [RT.d .bool] ((s.data.toList.drop i).any fun b => decide (b.toNat = c))) := by
  have hlen : s.data.toList.length = s.size := (Lib.size_eq s).symm
  refine upTo (fun i hi ih => ?_) ?_
  · refine cutG_step ((q179_3 c s i).trans ?_)
    have hi' : i < s.data.toList.length := by omega
    rw [ifs_pos (by simpa using hi), ifs_pos (by omega), Int.toNat_natCast, show s[i]? = some s[i] from Go.ByteArray.getElem?_lt' s i hi, Option.bind_some, wrS hi hs, ih, List.drop_eq_getElem_cons hi', List.any_cons]
    have e : s.data.toList[i] = s[i] := rfl
    rw [e]
    by_cases h : s[i].toNat = c
    · rw [ifs_pos (by simp [h])]; simp [h]
    · rw [ifs_neg (by simp; omega)]; simp [h]
  · refine cutG_step ((q179_3 c s s.size).trans ?_)
    rw [ifs_neg (by simp), List.drop_of_length_le (by omega)]
    rfl
def letters : Txt := { data := #[97, 98, 99, 100, 101, 102, 103, 104, 105, 106, 107, 108, 109, 110, 111, 112, 113, 114, 115, 116, 117, 118, 119, 120, 121, 122, 48, 49, 50, 51, 52, 53, 54, 55, 56, 57, 46, 95, 45] }
theorem letter_all : ∀ c, c ∈ List.range 256 → (letters.data.toList.any fun b => decide (b.toNat = c)) = okRune c := by decide +kernel
theorem letter_ok (b : UInt8) : cR 179 [RT.d .bool] [inj (.int .u8) (b.toNat : Int)] = some (okRune b.toNat) := by
  refine callT_of ((e179 b.toNat).trans ?_)
  rw [← letter_all b.toNat (by rw [List.mem_range]; exact b.toNat_lt)]
  exact (letter_loop b.toNat letters (by decide) 0 (Nat.zero_le _))

/-- Are all bytes from pos on such as stand in names? -/
def okB (s : Txt) (pos : Nat) : Bool := (s.data.toList.drop pos).all fun c => okRune c.toNat
theorem data_len (s : Txt) : s.data.toList.length = s.size := (Lib.size_eq s).symm
theorem okB_step (s : Txt) (pos : Nat) (h : pos < s.size) : okB s pos = (okRune (s[pos]'h).toNat && okB s (pos + 1)) := by
  unfold okB
  have h' : pos < s.data.toList.length := by rw [data_len]; exact h
  rw [List.drop_eq_getElem_cons h', List.all_cons]
  rfl
theorem okB_end (s : Txt) (pos : Nat) (h : s.size ≤ pos) : okB s pos = true := by
  unfold okB
  rw [List.drop_of_length_le (by rw [data_len]; exact h)]
  rfl
theorem okRune_high (r : Nat) (h : 128 ≤ r) : okRune r = false := by
  unfold okRune
  simp
  omega
theorem idx_ok (s : Txt) : ∀ (f pos : Nat), s.size - pos ≤ f → decide (Lib.idxFuncFrom (fun r => !okRune r) true s f pos < 0) = okB s pos
  | 0, pos, h => by
    rw [okB_end s pos (by omega)]
    rfl
  | f + 1, pos, h => by
    unfold Lib.idxFuncFrom
    by_cases hp : pos < s.size
    · rw [if_pos hp, okB_step s pos hp]
      by_cases ha : (s[pos]'hp).toNat < 128
      · rw [decode_ascii s pos hp ha]
        by_cases ho : okRune (s[pos]'hp).toNat = true
        · rw [if_neg (by simp [ho])]
          rw [idx_ok s f (pos + 1) (by omega), ho]
          rfl
        · rw [if_pos (by simp [ho])]
          simp [ho]
      · have hd := decode_high s pos hp (by omega)
        rw [if_pos (by simp [okRune_high _ hd.1]), okRune_high _ (by omega)]
        simp
    · rw [if_neg hp, okB_end s pos (by omega)]
      rfl
theorem nil_size (s : Txt) : s.toList = [] ↔ s.size = 0 := by
  rw [ByteArray.toList_eq, ← data_len]
  exact List.eq_nil_iff_length_eq_zero
theorem right_eq (s : Txt) : rightB s = (okB s 0 && decide (1 ≤ s.size) && decide (s.size ≤ 40) && !(s.toList == [46]) && !(s.toList == [46, 46])) := by
  unfold rightB
  rw [show Lib.idxFunc (fun r => !okRune r) true s = Lib.idxFuncFrom (fun r => !okRune r) true s s.size 0 from rfl, idx_ok s s.size 0 (by omega)]
  have hs := nil_size s
  by_cases h1 : s.size = 0
  · rw [hs.2 h1]; simp [h1]
  · have h2 : ¬ s.toList = [] := fun h => h1 (hs.1 h)
    rw [beq_eq_false_iff_ne.2 h2, decide_eq_true (show 1 ≤ s.size by omega)]
    cases okB s 0 <;> simp [Bool.and_comm, Bool.and_assoc]
theorem right2_loop (s : Txt) (hs : s.size ≤ top) : ∀ i : Nat, i ≤ s.size → l147_2 s i = some (injRs [RT.d .bool] (okB s i && decide (1 ≤ s.size) && decide (s.size ≤ 40) && !(s.toList == [46]) && !(s.toList == [46, 46]))) := by
  refine upTo (fun i hi ih => ?_) ?_
  · refine cutG_step ((q147_2 s i).trans ?_)
    rw [ifs_pos (by simpa using hi), ifs_pos (by omega), Int.toNat_natCast, show s[i]? = some s[i] from Go.ByteArray.getElem?_lt' s i hi, Option.bind_some, letter_ok, Option.bind_some, wrS hi hs, ih, okB_step s i hi]
    cases okRune s[i].toNat <;> rfl
  · refine cutG_step ((q147_2 s s.size).trans ?_)
    rw [ifs_neg (by simp), okB_end s _ (Nat.le_refl _)]
    have e1 : ByteArray.toList { data := #[(46 : UInt8)] } = [46] := by decide +kernel
    have e2 : ByteArray.toList { data := #[(46 : UInt8), (46 : UInt8)] } = [46, 46] := by decide +kernel
    rw [e1, e2]
    simp only [ifs]
    by_cases h1 : 1 ≤ s.size
    · have h1' : (1 : Int) ≤ s.size := by omega
      by_cases h2 : s.size ≤ 40
      · have h2' : (s.size : Int) ≤ 40 := by omega
        cases h3 : s.toList == [46] <;> simp [h1, h2, h1', h2', h3]
      · have h2' : ¬ (s.size : Int) ≤ 40 := by omega
        simp [h1, h2, h1', h2']
    · have h1' : ¬ (1 : Int) ≤ s.size := by omega
      simp [h1, h1']
theorem right2_ok (s : Txt) (hs : s.size ≤ top) : cR 147 [RT.d .bool] [inj .str s] = some (rightB s) :=
  callT_of ((e147 s).trans (by rw [show (0 : Int) = ((0 : Nat) : Int) from rfl, right2_loop s hs 0 (Nat.zero_le _), right_eq]))

/-! ### Lines -/
theorem okFrom_fuel (s : Txt) : ∀ (f g pos : Nat), s.size - pos ≤ f → s.size - pos ≤ g → okFrom s f pos = okFrom s g pos
  | 0, g, pos, hf, hg => by rw [okFrom_end s 0 pos (by omega), okFrom_end s g pos (by omega)]
  | f + 1, 0, pos, hf, hg => by rw [okFrom_end s _ pos (by omega), okFrom_end s _ pos (by omega)]
  | f + 1, g + 1, pos, hf, hg => by
    unfold okFrom
    split
    · split
      · rfl
      · have := Lib.width_pos s pos
        exact okFrom_fuel s f g _ (by omega) (by omega)
    · rfl
theorem right3_loop (s : Txt) (hs : s.size ≤ 1000) : ∀ (d pos : Nat), pos ≤ s.size → s.size - pos ≤ d → l144_4 s pos = some (injRs [RT.d .bool] (Lib.validD (s.data.toList.drop pos) && okFrom s (s.size - pos) pos))
  | d, pos, hp, hd => by
    refine cutG_step ((q144_4 s pos).trans ?_)
    by_cases h : pos < s.size
    · obtain ⟨d, rfl⟩ : ∃ e, d = e + 1 := ⟨d - 1, by omega⟩
      rw [ifs_pos (by simpa using h), ifs_pos (by omega), ifs_pos (by omega), Int.toNat_natCast, Int.toNat_natCast, decode_ok, Option.bind_some, decodeGo_tail s pos h]
      have hne : s.data.toList.drop pos ≠ [] := fun e => by have := congrArg List.length e; rw [List.length_drop, data_len] at this; simp at this; omega
      have hD : Lib.decodeL (s.data.toList.drop pos) = Utf8.decode s pos := Lib.decodeL_drop s pos
      have hw := Lib.width_pos s pos
      have hle := Lib.decodeL_le _ hne
      rw [hD, List.length_drop, data_len] at hle
      rw [Lib.validD_step _ hne, hD, List.drop_drop]
      have ih := fun hK => right3_loop s hs d (pos + (Utf8.decode s pos).2) hK (by omega)
      have hf : okFrom s (s.size - pos) pos = if (Utf8.decode s pos).1 < 32 ∧ (Utf8.decode s pos).1 ≠ 9 then false else okFrom s (s.size - (pos + (Utf8.decode s pos).2)) (pos + (Utf8.decode s pos).2) := by
        obtain ⟨g, hg⟩ : ∃ g, s.size - pos = g + 1 := ⟨s.size - pos - 1, by omega⟩
        rw [hg, okFrom, if_pos h]
        split
        · rfl
        · exact okFrom_fuel s _ _ _ (by omega) (by omega)
      rw [hf]
      have ih := ih (by omega)
      have hwr : IntKind.i64.wrap ((pos : Int) + ((Utf8.decode s pos).2 : Int)) = ((pos + (Utf8.decode s pos).2 : Nat) : Int) := by rw [wr _ ⟨by omega, by omega⟩]; omega
      simp only [hwr, ih, ifs]
      generalize Utf8.decode s pos = D at *
      obtain ⟨R, K⟩ := D
      simp only
      by_cases c1 : R = 65533
      · have c1' : (R : Int) = 65533 := by omega
        by_cases c2 : K = 1
        · have c2' : (K : Int) = 1 := by omega
          simp [c1, c2]
        · have c2' : ¬ (K : Int) = 1 := by omega
          have c3 : ¬ (65533 : Int) < 32 := by omega
          simp [c1, c2]
          exact fun e => absurd e c2'
      · have c1' : ¬ (R : Int) = 65533 := by omega
        by_cases c3 : R < 32
        · have c3' : (R : Int) < 32 := by omega
          by_cases c4 : R = 9
          · simp [c4]
          · have c4' : ¬ (R : Int) = 9 := by omega
            simp [c1, c1', c3, c3', c4, c4']
        · have c3' : ¬ (R : Int) < 32 := by omega
          simp [c1, c1', c3, c3']
    · have : pos = s.size := by omega
      subst this
      rw [ifs_neg (by simp), List.drop_of_length_le (by rw [data_len]; omega), okFrom_end s _ _ (by omega)]
      rfl
theorem right3_ok (s : Txt) (hs : s.size ≤ top) : cR 144 [RT.d .bool] [inj .str s] = some (lineB s) := by
  refine callT_of ((e144 s).trans ?_)
  unfold lineB
  by_cases h : s.size ≤ 200
  · rw [ifs_neg (by simp; omega), show (0 : Int) = ((0 : Nat) : Int) from rfl, right3_loop s (by omega) s.size 0 (by omega) (by omega)]
    simp [h]
  · rw [ifs_pos (by simp; omega)]
    simp [h]

theorem lchk1_ok (s : Txt) (hs : s.size ≤ top) : cR 156 [RT.d .bool] [inj .str s] = some (!lineB s) :=
  callT_of ((e156 s).trans (by rw [lright_ok s hs]; rfl))
theorem prt1_ok (s : Txt) (hs : s.size ≤ top) : cR 130 [RT.d .bool] [inj .str s] = some (!rightB s) :=
  callT_of ((e130 s).trans (by rw [nright_ok s hs]; rfl))

/-- What every list of texts is. -/
def LOk (l : List Txt) : Prop := l.length ≤ top ∧ ∀ s ∈ l, s.size ≤ top

theorem ixfA_loop (l : List Txt) (hl : LOk l) : ∀ i : Nat, i ≤ l.length → ∃ r : Int, l155a_2 l l.length i = some (injRs [RT.d (.int .i64)] r) ∧ decide (r ≥ 0) = (l.drop i).any (fun s => !lineB s) := by
  refine upTo (fun i hi ih => ?_) ?_
  · obtain ⟨r, hr, he⟩ := ih
    rw [List.drop_eq_getElem_cons hi, List.any_cons]
    cases h : lineB l[i] with
    | true =>
      refine ⟨r, cutG_step ((q155a_2 l l.length i).trans ?_), by rw [he]; simp⟩
      rw [ifs_pos (by simpa using hi), ifs_pos (by omega), Int.toNat_natCast, List.getElem?_eq_getElem hi, Option.bind_some, lchk1_ok _ (hl.2 _ (List.getElem_mem hi)), Option.bind_some, h, ifs_neg (by simp), wrS hi hl.1, hr]
    | false =>
      refine ⟨i, cutG_step ((q155a_2 l l.length i).trans ?_), by simp⟩
      rw [ifs_pos (by simpa using hi), ifs_pos (by omega), Int.toNat_natCast, List.getElem?_eq_getElem hi, Option.bind_some, lchk1_ok _ (hl.2 _ (List.getElem_mem hi)), Option.bind_some, h, ifs_pos (by simp)]
  · refine ⟨-1, cutG_step ((q155a_2 l l.length l.length).trans ?_), by simp⟩
    rw [ifs_neg (by simp)]
theorem cofA_ok (l : List Txt) (hl : LOk l) : cR 109 [RT.d .bool] [inj (.sl .str) l, A.c (C.cl 156 [])] = some (l.any fun s => !lineB s) := by
  obtain ⟨r, hr, he⟩ := ixfA_loop l hl 0 (Nat.zero_le _)
  refine callT_of ((e109a l).trans ?_)
  have hx : cR 155 [RT.d (.int .i64)] [inj (.sl .str) l, A.c (C.cl 156 [])] = some r := callT_of ((e155a l).trans hr)
  rw [hx, Option.bind_some, he, List.drop_zero]
theorem ixfB_loop (l : List Txt) (hl : LOk l) : ∀ i : Nat, i ≤ l.length → ∃ r : Int, l155b_2 l l.length i = some (injRs [RT.d (.int .i64)] r) ∧ decide (r ≥ 0) = (l.drop i).any (fun s => !rightB s) := by
  refine upTo (fun i hi ih => ?_) ?_
  · obtain ⟨r, hr, he⟩ := ih
    rw [List.drop_eq_getElem_cons hi, List.any_cons]
    cases h : rightB l[i] with
    | true =>
      refine ⟨r, cutG_step ((q155b_2 l l.length i).trans ?_), by rw [he]; simp⟩
      rw [ifs_pos (by simpa using hi), ifs_pos (by omega), Int.toNat_natCast, List.getElem?_eq_getElem hi, Option.bind_some, prt1_ok _ (hl.2 _ (List.getElem_mem hi)), Option.bind_some, h, ifs_neg (by simp), wrS hi hl.1, hr]
    | false =>
      refine ⟨i, cutG_step ((q155b_2 l l.length i).trans ?_), by simp⟩
      rw [ifs_pos (by simpa using hi), ifs_pos (by omega), Int.toNat_natCast, List.getElem?_eq_getElem hi, Option.bind_some, prt1_ok _ (hl.2 _ (List.getElem_mem hi)), Option.bind_some, h, ifs_pos (by simp)]
  · refine ⟨-1, cutG_step ((q155b_2 l l.length l.length).trans ?_), by simp⟩
    rw [ifs_neg (by simp)]
theorem cofB_ok (l : List Txt) (hl : LOk l) : cR 109 [RT.d .bool] [inj (.sl .str) l, A.c (C.cl 130 [])] = some (l.any fun s => !rightB s) := by
  obtain ⟨r, hr, he⟩ := ixfB_loop l hl 0 (Nat.zero_le _)
  refine callT_of ((e109b l).trans ?_)
  have hx : cR 155 [RT.d (.int .i64)] [inj (.sl .str) l, A.c (C.cl 130 [])] = some r := callT_of ((e155b l).trans hr)
  rw [hx, Option.bind_some, he, List.drop_zero]

/-- Which lines may be a file's. -/
def checkL (l : List Txt) : Int := if l.length > 2000 then 4 else if l.all lineB then 0 else 6
theorem any_not {α : Type} (l : List α) (p : α → Bool) : (l.any fun x => !p x) = !l.all p := by
  induction l with
  | nil => rfl
  | cons a l ih => simp only [List.any_cons, List.all_cons, ih, Bool.not_and]
theorem lcheck_ok (l : List Txt) (hl : LOk l) : cR 111 [RT.d (.int .i64)] [inj (.sl .str) l] = some (checkL l) := by
  refine callT_of ((e111 l).trans ?_)
  unfold checkL
  by_cases h : l.length > 2000
  · rw [ifs_pos (by simp; omega), if_pos h]
  · rw [ifs_neg (by simp; omega), if_neg h, cofA_ok l hl, Option.bind_some, any_not]
    cases l.all lineB <;> rfl
theorem check3_loop (l : List Txt) (hl : LOk l) : ∀ i : Nat, i ≤ l.length → l94_4 l i = some (injRs [RT.d (.int .i64)] (if (l.drop i).all lineB then 0 else 6)) := by
  refine upTo (fun i hi ih => ?_) ?_
  · refine cutG_step ((q94_4 l i).trans ?_)
    rw [ifs_pos (by simpa using hi), ifs_pos (by omega), Int.toNat_natCast, List.getElem?_eq_getElem hi, Option.bind_some, right3_ok _ (hl.2 _ (List.getElem_mem hi)), Option.bind_some, wrS hi hl.1, ih, List.drop_eq_getElem_cons hi, List.all_cons]
    cases lineB l[i] <;> rfl
  · refine cutG_step ((q94_4 l l.length).trans ?_)
    rw [ifs_neg (by simp), List.drop_length]
    rfl
theorem check3_ok (l : List Txt) (hl : LOk l) : cR 94 [RT.d (.int .i64)] [inj (.sl .str) l] = some (checkL l) := by
  refine callT_of ((e94 l).trans ?_)
  unfold checkL
  by_cases h : l.length > 2000
  · rw [ifs_pos (by simp; omega), if_pos h]
  · rw [ifs_neg (by simp; omega), if_neg h]
    exact check3_loop l hl 0 (Nat.zero_le _)

end Go.Proofs.YtokecnkjgoghhaaDoor.Sp
end
section
/- What some functions of the program and of the references come to, in plain words: paths, and which steps may be. Conditions: lengths as they stand in each statement. -/
set_option linter.unusedVariables false
set_option linter.unusedSimpArgs false
namespace Go.Proofs.YtokecnkjgoghhaaDoor.Sp
open Go Go.Proofs.YtokecnkjgoghhaaDoor.Ab Go.Proofs.YtokecnkjgoghhaaDoor.Tb Go.Proofs.YtokecnkjgoghhaaDoor.EText

/-! ### A text cut at its slashes -/
abbrev slash : Txt := { data := #[47] }
theorem ext_of {x y : Txt} (h : x.data.toList = y.data.toList) : x = y := by
  obtain ⟨⟨a⟩⟩ := x
  obtain ⟨⟨b⟩⟩ := y
  simpa using h
theorem ex_data (s : Txt) (a b : Nat) : (s.extract a b).data.toList = (s.data.toList.drop a).take (b - a) := Lib.extract_data s a b
theorem tail_data (s : Txt) (a : Nat) : (s.extract a s.size).data.toList = s.data.toList.drop a := Lib.extract_to_end s a
theorem ex_size (s : Txt) (a b : Nat) : (s.extract a b).size ≤ s.size := by
  rw [Lib.size_eq, ex_data, Lib.size_eq, List.length_take, List.length_drop]; omega
theorem ex_all (s : Txt) : s.extract 0 s.size = s := ext_of (by rw [tail_data, List.drop_zero])
theorem ix_tail (s : Txt) (a : Nat) : Lib.indexB (s.extract a s.size) slash = Lib.indexByte (s.data.toList.drop a) 47 := by
  show Lib.index (s.extract a s.size).data.toList [47] = _
  rw [tail_data, Lib.index_one]
theorem ix_none (l : List UInt8) (c : UInt8) (h : ∀ k : Nat, l[k]? ≠ some c) : Lib.indexByte l c = -1 := by
  have hg := Lib.indexByte_ge l c
  by_cases h1 : Lib.indexByte l c = -1
  · exact h1
  · obtain ⟨j, hj⟩ : ∃ j : Nat, Lib.indexByte l c = j := ⟨(Lib.indexByte l c).toNat, by omega⟩
    exact absurd (Lib.indexByte_some hj).1 (h j)
theorem ix_some (l : List UInt8) (c : UInt8) (o : Nat) (ho : l[o]? = some c) (h : ∀ k : Nat, k < o → l[k]? ≠ some c) : Lib.indexByte l c = o := by
  have hg := Lib.indexByte_ge l c
  by_cases h1 : Lib.indexByte l c = -1
  · exact absurd ho (Lib.indexByte_none h1 o)
  · obtain ⟨j, hj⟩ : ∃ j : Nat, Lib.indexByte l c = j := ⟨(Lib.indexByte l c).toNat, by omega⟩
    obtain ⟨h2, h3⟩ := Lib.indexByte_some hj
    rw [hj]
    by_cases h4 : j < o
    · exact absurd h2 (h j h4)
    · by_cases h5 : o < j
      · exact absurd ho (h3 o h5)
      · omega
theorem segs_miss (s : Txt) (a : Nat) (h : ∀ k : Nat, a ≤ k → s.data.toList[k]? ≠ some 47) : splitL (s.extract a s.size) slash = [s.extract a s.size] := by
  have hi : Lib.indexB (s.extract a s.size) slash = -1 := by
    rw [ix_tail]
    exact ix_none _ _ (fun k => by rw [List.getElem?_drop]; exact h _ (by omega))
  unfold splitL
  exact Lib.splitB_miss _ _ _ _ hi
theorem segs_hit (s : Txt) (a i : Nat) (ha : a ≤ i) (hi : i < s.size) (hs : s.data.toList[i]? = some 47) (h : ∀ k : Nat, a ≤ k → k < i → s.data.toList[k]? ≠ some 47) :
    splitL (s.extract a s.size) slash = s.extract a i :: splitL (s.extract (i + 1) s.size) slash := by
  have hx : Lib.indexB (s.extract a s.size) slash = ((i - a : Nat) : Int) := by
    rw [ix_tail]
    exact ix_some _ _ _ (by rw [List.getElem?_drop, show a + (i - a) = i by omega]; exact hs) (fun k hk => by rw [List.getElem?_drop]; exact h _ (by omega) (by omega))
  have e1 : (s.extract a s.size).extract 0 (i - a + 0) = s.extract a i := ext_of (by
    rw [ex_data, tail_data, ex_data, List.drop_zero]; congr 1)
  have e2 : (s.extract a s.size).extract (i - a + slash.size) (s.extract a s.size).size = s.extract (i + 1) s.size := ext_of (by
    rw [tail_data, tail_data, tail_data, List.drop_drop]
    congr 1
    show a + (i - a + 1) = i + 1
    omega)
  unfold splitL
  rw [Lib.countB_hit _ _ _ (by decide) hx, Nat.add_comm 1, Lib.splitB_hit _ _ _ _ _ hx, e1, e2]
theorem splitB_sizes (t : Txt) : ∀ (k : Nat) (s x : Txt), x ∈ Lib.splitB t 0 k s → x.size ≤ s.size
  | 0, s, x, h => by rw [Lib.splitB_zero, List.mem_singleton] at h; rw [h]; exact Nat.le_refl _
  | k + 1, s, x, h => by
    unfold Lib.splitB at h
    split at h
    · rw [List.mem_singleton] at h; rw [h]; exact Nat.le_refl _
    · rcases List.mem_cons.1 h with h | h
      · rw [h]; exact ex_size _ _ _
      · exact Nat.le_trans (splitB_sizes t k _ x h) (ex_size _ _ _)
theorem segs_len (s : Txt) : (splitL s slash).length = Lib.countB s slash + 1 := Lib.splitB_all slash (by decide) 0 _ s rfl
theorem segs_ok (s : Txt) (hs : s.size ≤ 100000) : LOk (splitL s slash) := by
  refine ⟨?_, fun x hx => ?_⟩
  · rw [segs_len]
    have := Lib.count_le s.data.toList slash.data.toList
    rw [← Lib.size_eq] at this
    simp only [top]
    show Lib.count _ _ + 1 ≤ _
    omega
  · have := splitB_sizes slash _ s x hx
    simp only [top]; omega

/-! ### Paths -/
def rightP (p : Txt) : Bool := decide (p.size ≤ 200) && (decide ((splitL p slash).length ≤ 16) && (splitL p slash).all rightB)
theorem pright_ok (p : Txt) (hp : p.size ≤ 100000) : cR 82 [RT.d .bool] [inj .str p] = some (rightP p) := by
  refine callT_of ((e82 p).trans ?_)
  rw [split_ok p _ (by omega) (by decide), Option.bind_some, List.take_length, cofB_ok _ (segs_ok p hp), Option.bind_some, any_not]
  unfold rightP
  simp only [ifs]
  by_cases h1 : p.size ≤ 200
  · have h1' : (p.size : Int) ≤ 200 := by omega
    by_cases h2 : (splitL p slash).length ≤ 16
    · have h2' : ((splitL p slash).length : Int) ≤ 16 := by omega
      simp [h1, h2, h1', h2']
    · have h2' : ¬ ((splitL p slash).length : Int) ≤ 16 := by omega
      simp [h1, h2, h1', h2']
  · have h1' : ¬ (p.size : Int) ≤ 200 := by omega
    simp [h1, h1']

def names (p : Txt) : List Txt := if rightP p then splitL p slash else []
theorem names_end (p : Txt) (hp : p.size ≤ 200) (out : List Txt) (x : Int) : l98_6 p x ((p.size : Int) + 1) out = some (injRs [RT.own 9 .str] (if out.length > 16 then [] else out)) := by
  refine cutG_step ((q98_6 p x ((p.size : Int) + 1) out).trans ?_)
  rw [ifs_neg (by simp; omega), List.take_length]
  by_cases h : out.length > 16
  · rw [ifs_pos (by simp; omega), if_pos h]
  · rw [ifs_neg (by simp; omega), if_neg h]
theorem names_loop (p : Txt) (hp : p.size ≤ 200) : ∀ (d a i : Nat) (out : List Txt), i ≤ p.size → p.size - i ≤ d → a ≤ i → out.length ≤ i → (∀ k : Nat, a ≤ k → k < i → p.data.toList[k]? ≠ some 47) →
    l98_6 p a i out = some (injRs [RT.own 9 .str] (if (splitL (p.extract a p.size) slash).all rightB then (if (out ++ splitL (p.extract a p.size) slash).length > 16 then [] else out ++ splitL (p.extract a p.size) slash) else []))
  | d, a, i, out, hi, hd, ha, hout, hno => by
    refine cutG_step ((q98_6 p a i out).trans ?_)
    have c0 : (0 : Int) ≤ i := by omega
    have c1 : (i : Int) ≤ (p.size : Int) := by omega
    have c2 : (0 : Int) ≤ (a : Int) ∧ (a : Int) ≤ (i : Int) := by omega
    have hsz : (p.extract a i).size ≤ top := Nat.le_trans (ex_size _ _ _) (by simp only [top]; omega)
    have hlen : (out.length + 1) * 16 ≤ 140737488355328 := by omega
    have hw : IntKind.i64.wrap ((i : Int) + 1) = (i : Int) + 1 := wr _ ⟨by omega, by omega⟩
    simp only [Int.toNat_natCast, right2_ok _ hsz, Option.bind_some, List.take_length, hw]
    by_cases h : i < p.size
    · have h' : (i : Int) < (p.size : Int) := by omega
      have hg : p.data.toList[i]? = some p[i] := Lib.data_getElem? p i h
      obtain ⟨d, rfl⟩ : ∃ e, d = e + 1 := ⟨d - 1, by omega⟩
      simp only [ifs, h', c0, c1, c2, hlen, decide_true, and_self, if_true, show p[i]? = some p[i] from Go.ByteArray.getElem?_lt' p i h, Option.bind_some]
      by_cases hs : p[i] = 47
      · have hs' : (p[i].toNat : Int) = 47 := by rw [hs]; rfl
        rw [segs_hit p a i ha h (by rw [hg, hs]) hno, List.all_cons]
        have ih := names_loop p hp d (i + 1) (i + 1) (out ++ [p.extract a i]) (by omega) (by omega) (Nat.le_refl _) (by simp; omega) (fun k h1 h2 => by omega)
        rw [show ((i + 1 : Nat) : Int) = (i : Int) + 1 by omega] at ih
        simp only [hs', bne_self_eq_false, Bool.false_eq_true, if_false]
        cases hr : rightB (p.extract a i) with
        | true =>
          simp only [Bool.not_true, Bool.false_eq_true, if_false, ih, List.append_assoc, List.cons_append, List.nil_append, Bool.true_and]
        | false => rfl
      · have hs' : ((p[i].toNat : Int) != 47) = true := by
          rw [bne_iff_ne]
          intro e
          exact hs (UInt8.toNat_inj.1 (by have : p[i].toNat = 47 := by omega
                                          rw [this]; rfl))
        simp only [hs', if_true]
        have ih := names_loop p hp d a (i + 1) out (by omega) (by omega) (by omega) (by omega) (fun k h1 h2 => by
          by_cases e : k = i
          · subst e; rw [hg]; exact fun e => hs (Option.some.inj e)
          · exact hno k h1 (by omega))
        rw [show ((i + 1 : Nat) : Int) = (i : Int) + 1 by omega] at ih
        exact ih
    · have hi' : i = p.size := by omega
      subst hi'
      have hmiss := segs_miss p a (fun k hk => by
        by_cases e : k < p.size
        · exact hno k hk e
        · rw [List.getElem?_eq_none (by rw [data_len]; omega)]; exact fun e => by cases e)
      rw [hmiss]
      have h' : ¬ (p.size : Int) < (p.size : Int) := by omega
      simp only [ifs, h', c0, c1, c2, hlen, decide_true, decide_false, and_self, if_true, Bool.false_eq_true, if_false, names_end p hp, Int.le_refl]
      cases hr : rightB (p.extract a p.size) with
      | true => simp [hr]
      | false => simp [hr]
theorem names5_ok (p : Txt) : cR 98 [RT.own 9 .str] [inj .str p] = some (names p) := by
  refine callT_of ((e98 p).trans ?_)
  unfold names rightP
  by_cases h : p.size ≤ 200
  · rw [ifs_neg (by simp; omega)]
    have := names_loop p h p.size 0 0 [] (Nat.zero_le _) (by omega) (Nat.le_refl _) (Nat.zero_le _) (fun k h1 h2 => by omega)
    refine this.trans ?_
    rw [ex_all, List.nil_append]
    by_cases h2 : (splitL p slash).length ≤ 16
    · rw [if_neg (show ¬ (splitL p slash).length > 16 by omega)]
      simp [h, h2]
    · rw [if_pos (show (splitL p slash).length > 16 by omega)]
      simp [h, h2]
  · rw [ifs_pos (by simp; omega)]
    simp [h]
theorem names_len (p : Txt) : decide ((names p).length > 0) = rightP p := by
  unfold names
  cases h : rightP p with
  | true => rw [if_pos rfl, segs_len]; simp
  | false => rfl
theorem right5_ok (p : Txt) : cR 79 [RT.d .bool] [inj .str p] = some (rightP p) := by
  refine callT_of ((e79 p).trans ?_)
  rw [names5_ok, Option.bind_some, ← names_len]
  exact congrArg (fun b => some (injRs [RT.d .bool] b)) (by rw [decide_eq_decide]; omega)

end Go.Proofs.YtokecnkjgoghhaaDoor.Sp
end
section
/- The parts of a text between slashes, as lists of bytes. No condition. -/
set_option linter.unusedVariables false
set_option linter.unusedSimpArgs false
namespace Go.Proofs.YtokecnkjgoghhaaDoor.Sp
open Go Go.Proofs.YtokecnkjgoghhaaDoor.Ab Go.Proofs.YtokecnkjgoghhaaDoor.Tb Go.Proofs.YtokecnkjgoghhaaDoor.EText

def consP (c : UInt8) : List (List UInt8) → List (List UInt8)
  | [] => [[c]]
  | x :: r => (c :: x) :: r
def parts : List UInt8 → List (List UInt8)
  | [] => [[]]
  | c :: l => if c = 47 then [] :: parts l else consP c (parts l)
theorem consP_app (c : UInt8) (a b : List (List UInt8)) (h : a ≠ []) : consP c (a ++ b) = consP c a ++ b := by
  cases a with
  | nil => exact absurd rfl h
  | cons x r => rfl
theorem consP_ne (c : UInt8) (a : List (List UInt8)) : consP c a ≠ [] := by cases a <;> simp [consP]
theorem parts_ne : ∀ l : List UInt8, parts l ≠ []
  | [] => by simp [parts]
  | c :: l => by
    unfold parts
    split
    · simp
    · exact consP_ne _ _
theorem parts_app (t : List UInt8) : ∀ x : List UInt8, parts (x ++ 47 :: t) = parts x ++ parts t
  | [] => by simp [parts]
  | c :: x => by
    have ih := parts_app t x
    simp only [List.cons_append, parts, ih]
    split
    · rfl
    · exact consP_app _ _ _ (parts_ne x)
/-- The text of parts. -/
def joinP : List (List UInt8) → List UInt8
  | [] => []
  | [x] => x
  | x :: y :: r => x ++ 47 :: joinP (y :: r)
theorem joinP_consP (c : UInt8) : ∀ a : List (List UInt8), a ≠ [] → joinP (consP c a) = c :: joinP a
  | [], h => absurd rfl h
  | [x], _ => rfl
  | x :: y :: r, _ => rfl
theorem join_parts : ∀ l : List UInt8, joinP (parts l) = l
  | [] => rfl
  | c :: l => by
    have ih := join_parts l
    unfold parts
    split
    · rename_i h
      subst h
      cases hp : parts l with
      | nil => exact absurd hp (parts_ne l)
      | cons y r => rw [hp] at ih; simp only [joinP, List.nil_append, ih]
    · rw [joinP_consP _ _ (parts_ne l), ih]
theorem joinP_app (b : List (List UInt8)) (hb : b ≠ []) : ∀ a : List (List UInt8), a ≠ [] → joinP (a ++ b) = joinP a ++ 47 :: joinP b
  | [], h => absurd rfl h
  | [x], _ => by
    cases b with
    | nil => exact absurd rfl hb
    | cons y r => rfl
  | x :: y :: r, _ => by
    have ih := joinP_app b hb (y :: r) (by simp)
    simp only [List.cons_append] at ih
    simp only [List.cons_append, joinP, ih, List.append_assoc]
/-- A text begins with another one and a slash just if its parts begin with the other one's, and go on. -/
theorem parts_pre (x y : List UInt8) : (∃ t, y = x ++ 47 :: t) ↔ ((parts x).length < (parts y).length ∧ (parts y).take (parts x).length = parts x) := by
  constructor
  · rintro ⟨t, rfl⟩
    rw [parts_app]
    refine ⟨?_, List.take_left⟩
    have := List.length_pos_iff.2 (parts_ne t)
    simp only [List.length_append]; omega
  · rintro ⟨h1, h2⟩
    have hr : (parts y).drop (parts x).length ≠ [] := by
      intro h0
      have := congrArg List.length h0
      simp only [List.length_drop, List.length_nil] at this
      omega
    refine ⟨joinP ((parts y).drop (parts x).length), ?_⟩
    have h3 : parts y = parts x ++ (parts y).drop (parts x).length := by
      conv => lhs; rw [← List.take_append_drop (parts x).length (parts y), h2]
    have h4 := congrArg joinP h3
    rw [join_parts, joinP_app _ hr _ (parts_ne x), join_parts] at h4
    exact h4

end Go.Proofs.YtokecnkjgoghhaaDoor.Sp
end
section
/- strings.Split at slashes, as the parts of the bytes. No condition. -/
set_option linter.unusedVariables false
set_option linter.unusedSimpArgs false
namespace Go.Proofs.YtokecnkjgoghhaaDoor.Sp
open Go Go.Proofs.YtokecnkjgoghhaaDoor.Ab Go.Proofs.YtokecnkjgoghhaaDoor.Tb Go.Proofs.YtokecnkjgoghhaaDoor.EText

theorem parts_none : ∀ l : List UInt8, (∀ c ∈ l, c ≠ 47) → parts l = [l]
  | [], _ => rfl
  | c :: l, h => by
    have ih := parts_none l (fun x hx => h x (List.mem_cons_of_mem _ hx))
    simp only [parts, ih]
    rw [if_neg (h c (by simp))]
    rfl
theorem parts_hit (u t : List UInt8) (h : ∀ c ∈ u, c ≠ 47) : parts (u ++ 47 :: t) = u :: parts t := by
  rw [parts_app, parts_none u h]; rfl
theorem first47 : ∀ l : List UInt8, (∀ c ∈ l, c ≠ 47) ∨ ∃ u t, l = u ++ 47 :: t ∧ ∀ c ∈ u, c ≠ 47
  | [] => .inl (by simp)
  | c :: l => by
    by_cases hc : c = 47
    · exact .inr ⟨[], l, by simp [hc], by simp⟩
    · rcases first47 l with h | ⟨u, t, h1, h2⟩
      · exact .inl fun x hx => by
          rcases List.mem_cons.1 hx with rfl | hx
          · exact hc
          · exact h x hx
      · exact .inr ⟨c :: u, t, by simp [h1], fun x hx => by
          rcases List.mem_cons.1 hx with rfl | hx
          · exact hc
          · exact h2 x hx⟩
theorem split_parts_at (s : Txt) : ∀ (n a : Nat), s.size - a ≤ n → a ≤ s.size → (splitL (s.extract a s.size) slash).map (·.data.toList) = parts (s.data.toList.drop a) := by
  have hsz : s.size = s.data.toList.length := (Array.length_toList (xs := s.data)).symm
  intro n
  induction n with
  | zero =>
    intro a h1 h2
    have ha : a = s.size := by omega
    subst ha
    rw [segs_miss s s.size (fun k hk => by rw [List.getElem?_eq_none (by omega)]; simp), List.map_singleton, tail_data, List.drop_eq_nil_iff.2 (by omega)]
    rfl
  | succ n ih =>
    intro a h1 h2
    rcases first47 (s.data.toList.drop a) with h | ⟨u, t, h, hu⟩
    · rw [segs_miss s a (fun k hk hc => by
        have : (s.data.toList.drop a)[k - a]? = some 47 := by rw [List.getElem?_drop, show a + (k - a) = k by omega]; exact hc
        exact h 47 (List.mem_of_getElem? this) rfl), List.map_singleton, tail_data, parts_none _ h]
    · have hl : (s.data.toList.drop a).length = u.length + 1 + t.length := by rw [h]; simp; omega
      rw [List.length_drop, ← hsz] at hl
      have hat : ∀ k, a ≤ k → s.data.toList[k]? = (u ++ 47 :: t)[k - a]? := fun k hk => by rw [← h, List.getElem?_drop, show a + (k - a) = k by omega]
      have hdr : s.data.toList.drop (a + u.length + 1) = t := by
        have := congrArg (List.drop (u.length + 1)) h
        rw [List.drop_drop] at this
        rw [show a + u.length + 1 = a + (u.length + 1) by omega, this]
        simp
      have hxt : (s.extract a (a + u.length)).data.toList = u := by
        rw [ex_data, h, show a + u.length - a = u.length by omega, List.take_left]
      rw [segs_hit s a (a + u.length) (by omega) (by omega) (by rw [hat _ (by omega)]; simp) (fun k hk hk2 hc => by
        rw [hat k hk, List.getElem?_append_left (by omega)] at hc
        exact hu 47 (List.mem_of_getElem? hc) rfl), List.map_cons, ih (a + u.length + 1) (by omega) (by omega), hdr, hxt, h, parts_hit u t hu]
theorem split_parts (s : Txt) : (splitL s slash).map (·.data.toList) = parts s.data.toList := by
  have := split_parts_at s s.size 0 (by omega) (Nat.zero_le _)
  rw [ex_all] at this
  exact this

end Go.Proofs.YtokecnkjgoghhaaDoor.Sp
end
