/- What each function comes to on data: printed equations. No condition. The order of paths: by their names; the program's and the reference's. Conditions: lengths as they stand in each statement. In which directory a path lies: the program's answer and the reference's. Conditions: lengths as they stand in each statement. Rows of files in order: where a path stands, a file put in; the program's answers and the reference's. Conditions: lengths as they stand in each statement. The reference's rows of files: put in, taken out, in order; what lies in a directory. Conditions: lengths as they stand in  -/
import Derived.Test.YtokecnkjgoghhaaDoorM4
import Derived.Test.YtokecnkjgoghhaaDoorM5
import Derived.Sort.Walk0
section
/- What each function comes to on data: printed equations. No condition. -/
set_option linter.unusedVariables false
set_option maxRecDepth 100000
namespace Go.Proofs.YtokecnkjgoghhaaDoor.Tb
open Go Go.Proofs.YtokecnkjgoghhaaDoor.Ab
theorem e96 (a0 : ByteArray × Bool × List ByteArray) : callG W0 (callW W0) (cutW W0) 96 [inj ty68 a0] = Option.bind (cR (nat_lit 113) [RT.own (9 : Go.TypeId) Ty.str] [inj (Ty.sl Ty.str) a0.snd.snd]) fun r => some (injRs [RT.d ty68] (a0.fst, a0.snd.fst, List.take (List.length r) r)) := by kernel_rfl
theorem e228 (a0 : ByteArray) : callG W0 (callW W0) (cutW W0) 228 [inj Ty.str a0] = some (injRs [RT.d Ty.bool] !ByteArray.toList a0 == ByteArray.toList a0) := by kernel_rfl
theorem e220 (a0 : ByteArray) (a1 : ByteArray) : callG W0 (callW W0) (cutW W0) 220 [inj Ty.str a0, inj Ty.str a1] = Option.bind (cR (nat_lit 228) [RT.d Ty.bool] [inj Ty.str a0]) fun r => Option.bind (cR (nat_lit 228) [RT.d Ty.bool] [inj Ty.str a1]) fun r_1 => ifs (r = true) (ifs (r_1 = true) (some (injRs [RT.d (Ty.int Go.IntKind.i64)] (0 : Int))) (some (injRs [RT.d (Ty.int Go.IntKind.i64)] (-1 : Int)))) (ifs (r_1 = true) (some (injRs [RT.d (Ty.int Go.IntKind.i64)] (1 : Int))) (ifs (Go.Op.bytesLess (ByteArray.toList a0) (ByteArray.toList a1) = true) (some (injRs [RT.d (Ty.int Go.IntKind.i64)] (-1 : Int))) (ifs ((!(Go.Op.bytesLess (ByteArray.toList a0) (ByteArray.toList a1) || ByteArray.toList a0 == ByteArray.toList a1)) = true) (some (injRs [RT.d (Ty.int Go.IntKind.i64)] (1 : Int))) (some (injRs [RT.d (Ty.int Go.IntKind.i64)] (0 : Int)))))) := by kernel_rfl
noncomputable def td199_2 : List Item := (findT (code Tryd.f199) [] 2).getD []
noncomputable def l199_2 (x0 : List ByteArray) (x1 : List ByteArray) (x2 : List ByteArray) (x3 : Int) (x4 : Int) : Option (List RV) := cutW W0 n199 td199_2 { fr := [((0 : Nat), F.a (A.c (C.sl Ty.str x0))), ((1 : Nat), F.a (A.c (C.sl Ty.str x1))), ((9 : Nat), F.a (A.c (C.sl Ty.str x2))), ((10 : Nat), F.a (A.c (C.sc (Go.Value.int Go.IntKind.i64 x3)))), ((11 : Nat), F.a (A.c (C.sc (Go.Value.int Go.IntKind.i64 x4))))], mem := [], nx := (0 : Nat) }
theorem e199 (a0 : List ByteArray) (a1 : List ByteArray) : callG W0 (callW W0) (cutW W0) 199 [inj (Ty.sl Ty.str) a0, inj (Ty.sl Ty.str) a1] = l199_2 a0 a1 a0 (↑(List.length a0) : Int) (0 : Int) := by kernel_rfl
theorem q199_2 (x0 : List ByteArray) (x1 : List ByteArray) (x2 : List ByteArray) (x3 : Int) (x4 : Int) : cutG W0 (callW W0) (cutW W0) n199 td199_2 { fr := [((0 : Nat), F.a (A.c (C.sl Ty.str x0))), ((1 : Nat), F.a (A.c (C.sl Ty.str x1))), ((9 : Nat), F.a (A.c (C.sl Ty.str x2))), ((10 : Nat), F.a (A.c (C.sc (Go.Value.int Go.IntKind.i64 x3)))), ((11 : Nat), F.a (A.c (C.sc (Go.Value.int Go.IntKind.i64 x4))))], mem := [], nx := (0 : Nat) } = ifs (decide (x4 < x3) = true) (ifs ((0 : Int) ≤ x4) (Option.bind x2[Int.toNat x4]? fun r => ifs (decide (x4 ≥ (↑(List.length x1) : Int)) = true) (some (injRs [RT.d (Ty.int Go.IntKind.i64)] (1 : Int))) (ifs ((0 : Int) ≤ x4) (Option.bind x1[Int.toNat x4]? fun r_1 => Option.bind (cR (nat_lit 220) [RT.d (Ty.int Go.IntKind.i64)] [inj Ty.str r, inj Ty.str r_1]) fun r => ifs ((r != (0 : Int)) = true) (some (injRs [RT.d (Ty.int Go.IntKind.i64)] r)) (l199_2 x0 x1 x2 x3 (Go.IntKind.wrap Go.IntKind.i64 (x4 + (1 : Int))))) none)) none) (ifs (decide ((↑(List.length x0) : Int) < (↑(List.length x1) : Int)) = true) (some (injRs [RT.d (Ty.int Go.IntKind.i64)] (-1 : Int))) (some (injRs [RT.d (Ty.int Go.IntKind.i64)] (0 : Int)))) := by kernel_rfl
theorem e148 (a0 : ByteArray) : callG W0 (callW W0) (cutW W0) 148 [inj Ty.str a0] = Option.bind (cR (nat_lit 82) [RT.d Ty.bool] [inj Ty.str a0]) fun r => ifs ((!r) = true) (some (injRs [RT.own (9 : Go.TypeId) Ty.str] [])) (Option.bind (cR (nat_lit 129) [RT.own (9 : Go.TypeId) Ty.str] [inj Ty.str a0, inj Ty.str { data := #[(47 : UInt8)] }]) fun r => some (injRs [RT.own (9 : Go.TypeId) Ty.str] (List.take (List.length r) r))) := by kernel_rfl
theorem e149 (a0 : List ByteArray) : callG W0 (callW W0) (cutW W0) 149 [inj (Ty.sl Ty.str) a0] = Option.bind (cR (nat_lit 180) [RT.d Ty.str] [inj (Ty.sl Ty.str) a0, inj Ty.str { data := #[(47 : UInt8)] }]) fun r => Option.bind (cR (nat_lit 148) [RT.own (9 : Go.TypeId) Ty.str] [inj Ty.str r]) fun r_1 => ifs (((↑(List.length r_1) : Int) != (↑(List.length a0) : Int)) = true) (some (injRs [RT.d Ty.str] { data := #[] })) (some (injRs [RT.d Ty.str] r)) := by kernel_rfl
theorem e101 (a0 : ByteArray) : callG W0 (callW W0) (cutW W0) 101 [inj Ty.str a0] = Option.bind (cR (nat_lit 148) [RT.own (9 : Go.TypeId) Ty.str] [inj Ty.str a0]) fun r => ifs ((0 : Int) ≤ imax (Go.IntKind.wrap Go.IntKind.i64 ((↑(List.length r) : Int) - (1 : Int))) (0 : Int) ∧ imax (Go.IntKind.wrap Go.IntKind.i64 ((↑(List.length r) : Int) - (1 : Int))) (0 : Int) ≤ (↑(List.length r) : Int)) (Option.bind (cR (nat_lit 149) [RT.d Ty.str] [inj (Ty.sl Ty.str) (List.take (Int.toNat (imax (Go.IntKind.wrap Go.IntKind.i64 ((↑(List.length r) : Int) - (1 : Int))) (0 : Int))) r)]) fun r => some (injRs [RT.d Ty.str] r)) none := by kernel_rfl
theorem e178 (a0 : ByteArray) (a1 : ByteArray) : callG W0 (callW W0) (cutW W0) 178 [inj Ty.str a0, inj Ty.str a1] = Option.bind (cR (nat_lit 148) [RT.own (9 : Go.TypeId) Ty.str] [inj Ty.str a0]) fun r => Option.bind (cR (nat_lit 148) [RT.own (9 : Go.TypeId) Ty.str] [inj Ty.str a1]) fun r_1 => ifs (((↑(List.length r) : Int) == (0 : Int)) = true) (ifs (((↑(List.length r_1) : Int) == (0 : Int)) = true) (some (injRs [RT.d Ty.bool] (Go.Op.bytesLess (ByteArray.toList a0) (ByteArray.toList a1)))) (Option.bind (cR (nat_lit 199) [RT.d (Ty.int Go.IntKind.i64)] [inj (Ty.sl Ty.str) (List.take (List.length r) r), inj (Ty.sl Ty.str) (List.take (List.length r_1) r_1)]) fun r => some (injRs [RT.d Ty.bool] (decide (r < (0 : Int)))))) (Option.bind (cR (nat_lit 199) [RT.d (Ty.int Go.IntKind.i64)] [inj (Ty.sl Ty.str) (List.take (List.length r) r), inj (Ty.sl Ty.str) (List.take (List.length r_1) r_1)]) fun r => some (injRs [RT.d Ty.bool] (decide (r < (0 : Int))))) := by kernel_rfl
theorem e146 (a0 : ByteArray × Bool × List ByteArray) (a1 : ByteArray × Bool × List ByteArray) : callG W0 (callW W0) (cutW W0) 146 [inj ty68 a0, inj ty68 a1] = Option.bind (cR (nat_lit 178) [RT.d Ty.bool] [inj Ty.str a0.fst, inj Ty.str a1.fst]) fun r => ifs (r = true) (some (injRs [RT.d (Ty.int Go.IntKind.i64)] (-1 : Int))) (Option.bind (cR (nat_lit 178) [RT.d Ty.bool] [inj Ty.str a1.fst, inj Ty.str a0.fst]) fun r => ifs (r = true) (some (injRs [RT.d (Ty.int Go.IntKind.i64)] (1 : Int))) (some (injRs [RT.d (Ty.int Go.IntKind.i64)] (0 : Int)))) := by kernel_rfl
noncomputable def td145_3 : List Item := (findT (code Tryd.f145) [] 3).getD []
noncomputable def l145_3 (x0 : List (ByteArray × Bool × List ByteArray)) (x1 : Int) (x2 : Int) (x3 : Int) (x4 : ByteArray) (x5 : Bool) (x6 : List ByteArray) : Option (List RV) := cutW W0 n145 td145_3 { fr := [((0 : Nat), F.a (A.c (C.sl ty68 x0))), ((2 : Nat), F.a (A.c (C.cl (146 : Nat) []))), ((4 : Nat), F.a (A.c (C.pt (Pt.own (0 : Nat) (0 : Nat) (0 : Nat))))), ((8 : Nat), F.a (A.c (C.sc (Go.Value.int Go.IntKind.i64 x1)))), ((9 : Nat), F.a (A.c (C.sc (Go.Value.int Go.IntKind.i64 x2)))), ((10 : Nat), F.a (A.c (C.sc (Go.Value.int Go.IntKind.i64 x3))))], mem := [some (Row.box (68 : Nat) (some ty68) [C.sc (Go.Value.string x4), C.sc (Go.Value.bool x5), C.sl Ty.str x6] false)], nx := (1 : Nat) }
theorem e145 (a0 : List (ByteArray × Bool × List ByteArray)) (a1 : ByteArray × Bool × List ByteArray) : callG W0 (callW W0) (cutW W0) 145 [inj (Ty.sl ty68) a0, inj ty68 a1, A.c (C.cl (146 : Nat) [])] = l145_3 a0 (↑(List.length a0) : Int) (0 : Int) (↑(List.length a0) : Int) a1.fst a1.snd.fst a1.snd.snd := by kernel_rfl
theorem q145_3 (x0 : List (ByteArray × Bool × List ByteArray)) (x1 : Int) (x2 : Int) (x3 : Int) (x4 : ByteArray) (x5 : Bool) (x6 : List ByteArray) : cutG W0 (callW W0) (cutW W0) n145 td145_3 { fr := [((0 : Nat), F.a (A.c (C.sl ty68 x0))), ((2 : Nat), F.a (A.c (C.cl (146 : Nat) []))), ((4 : Nat), F.a (A.c (C.pt (Pt.own (0 : Nat) (0 : Nat) (0 : Nat))))), ((8 : Nat), F.a (A.c (C.sc (Go.Value.int Go.IntKind.i64 x1)))), ((9 : Nat), F.a (A.c (C.sc (Go.Value.int Go.IntKind.i64 x2)))), ((10 : Nat), F.a (A.c (C.sc (Go.Value.int Go.IntKind.i64 x3))))], mem := [some (Row.box (68 : Nat) (some ty68) [C.sc (Go.Value.string x4), C.sc (Go.Value.bool x5), C.sl Ty.str x6] false)], nx := (1 : Nat) } = ifs (decide (x2 < x3) = true) (ifs ((0 : Int) ≤ Go.IntKind.wrap Go.IntKind.i64 (Int.fdiv (Go.IntKind.wrap Go.IntKind.u64 (Go.IntKind.wrap Go.IntKind.i64 (x2 + x3))) ((2 : Int) ^ min (Int.toNat (1 : Int)) (Go.IntKind.bits Go.IntKind.u64)))) (Option.bind x0[Int.toNat (Go.IntKind.wrap Go.IntKind.i64 (Int.fdiv (Go.IntKind.wrap Go.IntKind.u64 (Go.IntKind.wrap Go.IntKind.i64 (x2 + x3))) ((2 : Int) ^ min (Int.toNat (1 : Int)) (Go.IntKind.bits Go.IntKind.u64))))]? fun r => Option.bind (cR (nat_lit 146) [RT.d (Ty.int Go.IntKind.i64)] [inj ty68 r, inj ty68 (x4, x5, x6)]) fun r => ifs (decide (r < (0 : Int)) = true) (l145_3 x0 x1 (Go.IntKind.wrap Go.IntKind.i64 (Go.IntKind.wrap Go.IntKind.i64 (Int.fdiv (Go.IntKind.wrap Go.IntKind.u64 (Go.IntKind.wrap Go.IntKind.i64 (x2 + x3))) ((2 : Int) ^ min (Int.toNat (1 : Int)) (Go.IntKind.bits Go.IntKind.u64))) + (1 : Int))) x3 x4 x5 x6) (l145_3 x0 x1 x2 (Go.IntKind.wrap Go.IntKind.i64 (Int.fdiv (Go.IntKind.wrap Go.IntKind.u64 (Go.IntKind.wrap Go.IntKind.i64 (x2 + x3))) ((2 : Int) ^ min (Int.toNat (1 : Int)) (Go.IntKind.bits Go.IntKind.u64)))) x4 x5 x6)) none) (ifs (decide (x2 < x1) = true) (ifs ((0 : Int) ≤ x2) (Option.bind x0[Int.toNat x2]? fun r => Option.bind (cR (nat_lit 146) [RT.d (Ty.int Go.IntKind.i64)] [inj ty68 r, inj ty68 (x4, x5, x6)]) fun r => some (injRs [RT.d (Ty.int Go.IntKind.i64), RT.d Ty.bool] (x2, r == (0 : Int)))) none) (some (injRs [RT.d (Ty.int Go.IntKind.i64), RT.d Ty.bool] (x2, false)))) := by kernel_rfl
theorem e97 (a0 : List (ByteArray × Bool × List ByteArray) × PUnit) (a1 : ByteArray) : callG W0 (callW W0) (cutW W0) 97 [inj ty55 a0, inj Ty.str a1] = Option.bind (cR (nat_lit 145) [RT.d (Ty.int Go.IntKind.i64), RT.d Ty.bool] [inj (Ty.sl ty68) a0.fst, inj ty68 (a1, false, []), A.c (C.cl (146 : Nat) [])]) fun r => some (injRs [RT.d (Ty.int Go.IntKind.i64), RT.d Ty.bool] r) := by kernel_rfl
theorem e39 (a0 : List (ByteArray × Bool × List ByteArray) × PUnit) (a1 : ByteArray) : callG W0 (callW W0) (cutW W0) 39 [inj ty55 a0, inj Ty.str a1] = Option.bind (cR (nat_lit 97) [RT.d (Ty.int Go.IntKind.i64), RT.d Ty.bool] [inj ty55 (a0.fst, ()), inj Ty.str a1]) fun r => ifs ((!r.snd) = true) (some (injRs [RT.d ty68, RT.d Ty.bool] (({ data := #[] }, false, []), false))) (ifs ((0 : Int) ≤ r.fst) (Option.bind a0.fst[Int.toNat r.fst]? fun r => Option.bind (cR (nat_lit 96) [RT.d ty68] [inj ty68 r]) fun r => some (injRs [RT.d ty68, RT.d Ty.bool] (r, true))) none) := by kernel_rfl
theorem e139 (a0 : List (ByteArray × Bool × List ByteArray) × PUnit) (a1 : ByteArray) : callG W0 (callW W0) (cutW W0) 139 [inj ty55 a0, inj Ty.str a1] = Option.bind (cR (nat_lit 39) [RT.d ty68, RT.d Ty.bool] [inj ty55 (a0.fst, ()), inj Ty.str a1]) fun r => ifs ((ByteArray.toList a1 == ByteArray.toList { data := #[] }) = false) (ifs (r.snd = true) (some (injRs [RT.d Ty.bool] r.fst.snd.fst)) (some (injRs [RT.d Ty.bool] false))) (some (injRs [RT.d Ty.bool] true)) := by kernel_rfl
noncomputable def td36_3 : List Item := (findT (code Tryd.f36) [] 3).getD []
noncomputable def l36_3 (x0 : List (ByteArray × Bool × List ByteArray)) (x1 : Int) (x2 : Int) (x3 : List (ByteArray × Bool × List ByteArray)) : Option (List RV) := cutW W0 n36 td36_3 { fr := [((3 : Nat), F.a (A.c (C.ow (0 : Nat) (List.length x3)))), ((7 : Nat), F.a (A.c (C.sl ty68 x0))), ((8 : Nat), F.a (A.c (C.sc (Go.Value.int Go.IntKind.i64 x1)))), ((9 : Nat), F.a (A.c (C.sc (Go.Value.int Go.IntKind.i64 x2))))], mem := [some (Row.arr (68 : Nat) ty68 x3 false)], nx := (1 : Nat) }
theorem e36 (a0 : List (ByteArray × Bool × List ByteArray) × PUnit) : callG W0 (callW W0) (cutW W0) 36 [inj ty55 a0] = l36_3 a0.fst (↑(List.length a0.fst) : Int) (0 : Int) [] := by kernel_rfl
theorem q36_3 (x0 : List (ByteArray × Bool × List ByteArray)) (x1 : Int) (x2 : Int) (x3 : List (ByteArray × Bool × List ByteArray)) : cutG W0 (callW W0) (cutW W0) n36 td36_3 { fr := [((3 : Nat), F.a (A.c (C.ow (0 : Nat) (List.length x3)))), ((7 : Nat), F.a (A.c (C.sl ty68 x0))), ((8 : Nat), F.a (A.c (C.sc (Go.Value.int Go.IntKind.i64 x1)))), ((9 : Nat), F.a (A.c (C.sc (Go.Value.int Go.IntKind.i64 x2))))], mem := [some (Row.arr (68 : Nat) ty68 x3 false)], nx := (1 : Nat) } = ifs (decide (x2 < x1) = true) (ifs ((0 : Int) ≤ x2) (Option.bind x0[Int.toNat x2]? fun r => Option.bind (cR (nat_lit 96) [RT.d ty68] [inj ty68 r]) fun r => ifs ((List.length x3 + (1 : Nat)) * nat_lit 48 ≤ (140737488355328 : Nat)) (l36_3 x0 x1 (Go.IntKind.wrap Go.IntKind.i64 (x2 + (1 : Int))) (List.take (List.length x3) x3 ++ [r])) none) none) (some (injRs [RT.own (68 : Go.TypeId) ty68] (List.take (List.length x3) x3))) := by kernel_rfl
theorem e100 (a0 : ByteArray) (a1 : ByteArray) : callG W0 (callW W0) (cutW W0) 100 [inj Ty.str a0, A.c (C.pt (Pt.sh Ty.str a1 (0 : Nat)))] = Option.bind (cR (nat_lit 101) [RT.d Ty.str] [inj Ty.str a0]) fun r => some (injRs [RT.d Ty.bool] (ByteArray.toList r == ByteArray.toList a1)) := by kernel_rfl
noncomputable def td43_4 : List Item := (findT (code Tryd.f43) [] 4).getD []
noncomputable def l43_4 (x0 : List (ByteArray × Bool × List ByteArray)) (x1 : Int) (x2 : Int) (x3 : ByteArray) (x4 : List ByteArray) : Option (List RV) := cutW W0 n43 td43_4 { fr := [((5 : Nat), F.a (A.c (C.ow (1 : Nat) (List.length x4)))), ((6 : Nat), F.a (A.c (C.cl (100 : Nat) [Pt.own (0 : Nat) (0 : Nat) (0 : Nat)]))), ((11 : Nat), F.a (A.c (C.sl ty68 x0))), ((12 : Nat), F.a (A.c (C.sc (Go.Value.int Go.IntKind.i64 x1)))), ((13 : Nat), F.a (A.c (C.sc (Go.Value.int Go.IntKind.i64 x2))))], mem := [some (Row.box (9 : Nat) (some Ty.str) [C.sc (Go.Value.string x3)] false), some (Row.arr (9 : Nat) Ty.str x4 false)], nx := (2 : Nat) }
noncomputable def l43_4v1 (x0 : List (ByteArray × Bool × List ByteArray)) (x1 : Int) (x2 : Int) (x3 : List ByteArray) (x4 : ByteArray) : Option (List RV) := cutW W0 n43 td43_4 { fr := [((5 : Nat), F.a (A.c (C.ow (0 : Nat) (List.length x3)))), ((6 : Nat), F.a (A.c (C.cl (100 : Nat) [Pt.own (1 : Nat) (0 : Nat) (0 : Nat)]))), ((11 : Nat), F.a (A.c (C.sl ty68 x0))), ((12 : Nat), F.a (A.c (C.sc (Go.Value.int Go.IntKind.i64 x1)))), ((13 : Nat), F.a (A.c (C.sc (Go.Value.int Go.IntKind.i64 x2))))], mem := [some (Row.arr (9 : Nat) Ty.str x3 false), some (Row.box (9 : Nat) (some Ty.str) [C.sc (Go.Value.string x4)] false)], nx := (2 : Nat) }
theorem e43 (a0 : List (ByteArray × Bool × List ByteArray) × PUnit) (a1 : ByteArray) : callG W0 (callW W0) (cutW W0) 43 [inj ty55 a0, inj Ty.str a1] = l43_4 a0.fst (↑(List.length a0.fst) : Int) (0 : Int) a1 [] := by kernel_rfl
theorem q43_4 (x0 : List (ByteArray × Bool × List ByteArray)) (x1 : Int) (x2 : Int) (x3 : ByteArray) (x4 : List ByteArray) : cutG W0 (callW W0) (cutW W0) n43 td43_4 { fr := [((5 : Nat), F.a (A.c (C.ow (1 : Nat) (List.length x4)))), ((6 : Nat), F.a (A.c (C.cl (100 : Nat) [Pt.own (0 : Nat) (0 : Nat) (0 : Nat)]))), ((11 : Nat), F.a (A.c (C.sl ty68 x0))), ((12 : Nat), F.a (A.c (C.sc (Go.Value.int Go.IntKind.i64 x1)))), ((13 : Nat), F.a (A.c (C.sc (Go.Value.int Go.IntKind.i64 x2))))], mem := [some (Row.box (9 : Nat) (some Ty.str) [C.sc (Go.Value.string x3)] false), some (Row.arr (9 : Nat) Ty.str x4 false)], nx := (2 : Nat) } = ifs (decide (x2 < x1) = true) (ifs ((0 : Int) ≤ x2) (Option.bind x0[Int.toNat x2]? fun r => Option.bind (cR (nat_lit 100) [RT.d Ty.bool] [inj Ty.str r.fst, A.c (C.pt (Pt.sh Ty.str x3 (0 : Nat)))]) fun r_1 => ifs (r_1 = true) (ifs ((List.length x4 + (1 : Nat)) * nat_lit 16 ≤ (140737488355328 : Nat)) (l43_4v1 x0 x1 (Go.IntKind.wrap Go.IntKind.i64 (x2 + (1 : Int))) (List.take (List.length x4) x4 ++ [r.fst]) x3) none) (l43_4v1 x0 x1 (Go.IntKind.wrap Go.IntKind.i64 (x2 + (1 : Int))) x4 x3)) none) (some (injRs [RT.own (9 : Go.TypeId) Ty.str] (List.take (List.length x4) x4))) := by kernel_rfl
theorem q43_4v1 (x0 : List (ByteArray × Bool × List ByteArray)) (x1 : Int) (x2 : Int) (x3 : List ByteArray) (x4 : ByteArray) : cutG W0 (callW W0) (cutW W0) n43 td43_4 { fr := [((5 : Nat), F.a (A.c (C.ow (0 : Nat) (List.length x3)))), ((6 : Nat), F.a (A.c (C.cl (100 : Nat) [Pt.own (1 : Nat) (0 : Nat) (0 : Nat)]))), ((11 : Nat), F.a (A.c (C.sl ty68 x0))), ((12 : Nat), F.a (A.c (C.sc (Go.Value.int Go.IntKind.i64 x1)))), ((13 : Nat), F.a (A.c (C.sc (Go.Value.int Go.IntKind.i64 x2))))], mem := [some (Row.arr (9 : Nat) Ty.str x3 false), some (Row.box (9 : Nat) (some Ty.str) [C.sc (Go.Value.string x4)] false)], nx := (2 : Nat) } = ifs (decide (x2 < x1) = true) (ifs ((0 : Int) ≤ x2) (Option.bind x0[Int.toNat x2]? fun r => Option.bind (cR (nat_lit 100) [RT.d Ty.bool] [inj Ty.str r.fst, A.c (C.pt (Pt.sh Ty.str x4 (0 : Nat)))]) fun r_1 => ifs (r_1 = true) (ifs ((List.length x3 + (1 : Nat)) * nat_lit 16 ≤ (140737488355328 : Nat)) (l43_4v1 x0 x1 (Go.IntKind.wrap Go.IntKind.i64 (x2 + (1 : Int))) (List.take (List.length x3) x3 ++ [r.fst]) x4) none) (l43_4v1 x0 x1 (Go.IntKind.wrap Go.IntKind.i64 (x2 + (1 : Int))) x3 x4)) none) (some (injRs [RT.own (9 : Go.TypeId) Ty.str] (List.take (List.length x3) x3))) := by kernel_rfl
theorem e138 (a0 : List (ByteArray × Bool × List ByteArray) × PUnit) (a1 : ByteArray × Bool × List ByteArray) : callG W0 (callW W0) (cutW W0) 138 [inj ty55 a0, inj ty68 a1] = Option.bind (cR (nat_lit 97) [RT.d (Ty.int Go.IntKind.i64), RT.d Ty.bool] [inj ty55 (a0.fst, ()), inj Ty.str a1.fst]) fun r => Option.bind (cR (nat_lit 172) [RT.own (68 : Go.TypeId) ty68] [inj (Ty.sl ty68) a0.fst]) fun r_1 => ifs (r.snd = true) (Option.bind (cR (nat_lit 96) [RT.d ty68] [inj ty68 a1]) fun r_2 => ifs ((0 : Int) ≤ r.fst ∧ r.fst < (↑(List.length r_1) : Int)) (Option.bind r_1[Int.toNat r.fst]? fun r_3 => some (injRs [RT.d ty55] (List.take (List.length r_1) (List.set r_1 (Int.toNat r.fst) r_2), ()))) none) (Option.bind (cR (nat_lit 96) [RT.d ty68] [inj ty68 a1]) fun r_2 => Option.bind (cR (nat_lit 173) [RT.own (68 : Go.TypeId) ty68] [inj (Ty.sl ty68) (List.take (List.length r_1) r_1), inj (Ty.int Go.IntKind.i64) r.fst, inj (Ty.sl ty68) [r_2]]) fun r => some (injRs [RT.d ty55] (List.take (List.length r) r, ()))) := by kernel_rfl
theorem e137 (a0 : List (ByteArray × Bool × List ByteArray) × PUnit) (a1 : ByteArray) : callG W0 (callW W0) (cutW W0) 137 [inj ty55 a0, inj Ty.str a1] = Option.bind (cR (nat_lit 101) [RT.d Ty.str] [inj Ty.str a1]) fun r => Option.bind (cR (nat_lit 139) [RT.d Ty.bool] [inj ty55 (a0.fst, ()), inj Ty.str r]) fun r => ifs ((!r) = true) (some (injRs [RT.d (Ty.int Go.IntKind.i64)] (9 : Int))) (ifs (decide ((↑(List.length a0.fst) : Int) ≥ (500 : Int)) = true) (some (injRs [RT.d (Ty.int Go.IntKind.i64)] (4 : Int))) (some (injRs [RT.d (Ty.int Go.IntKind.i64)] (0 : Int)))) := by kernel_rfl
theorem e87 (a0 : List (ByteArray × Bool × List ByteArray) × PUnit) (a1 : ByteArray) : callG W0 (callW W0) (cutW W0) 87 [inj ty55 a0, inj Ty.str a1] = Option.bind (cR (nat_lit 82) [RT.d Ty.bool] [inj Ty.str a1]) fun r => ifs ((!r) = true) (some (injRs [RT.d ty55, RT.d (Ty.int Go.IntKind.i64)] (([], ()), (8 : Int)))) (Option.bind (cR (nat_lit 39) [RT.d ty68, RT.d Ty.bool] [inj ty55 (a0.fst, ()), inj Ty.str a1]) fun r => ifs (r.snd = true) (some (injRs [RT.d ty55, RT.d (Ty.int Go.IntKind.i64)] (([], ()), (10 : Int)))) (Option.bind (cR (nat_lit 137) [RT.d (Ty.int Go.IntKind.i64)] [inj ty55 (a0.fst, ()), inj Ty.str a1]) fun r => ifs ((r != (0 : Int)) = true) (some (injRs [RT.d ty55, RT.d (Ty.int Go.IntKind.i64)] (([], ()), r))) (Option.bind (cR (nat_lit 138) [RT.d ty55] [inj ty55 (a0.fst, ()), inj ty68 (a1, true, [])]) fun r => some (injRs [RT.d ty55, RT.d (Ty.int Go.IntKind.i64)] ((r.fst, ()), (0 : Int)))))) := by kernel_rfl
theorem e88 (a0 : List (ByteArray × Bool × List ByteArray) × PUnit) (a1 : ByteArray) (a2 : List ByteArray) : callG W0 (callW W0) (cutW W0) 88 [inj ty55 a0, inj Ty.str a1, inj (Ty.sl Ty.str) a2] = Option.bind (cR (nat_lit 82) [RT.d Ty.bool] [inj Ty.str a1]) fun r => ifs ((!r) = true) (some (injRs [RT.d ty55, RT.d (Ty.int Go.IntKind.i64)] (([], ()), (8 : Int)))) (Option.bind (cR (nat_lit 39) [RT.d ty68, RT.d Ty.bool] [inj ty55 (a0.fst, ()), inj Ty.str a1]) fun r => ifs (r.fst.snd.fst = true) (some (injRs [RT.d ty55, RT.d (Ty.int Go.IntKind.i64)] (([], ()), (11 : Int)))) (Option.bind (cR (nat_lit 111) [RT.d (Ty.int Go.IntKind.i64)] [inj (Ty.sl Ty.str) a2]) fun r_1 => ifs ((r_1 != (0 : Int)) = true) (some (injRs [RT.d ty55, RT.d (Ty.int Go.IntKind.i64)] (([], ()), r_1))) (Option.bind (cR (nat_lit 137) [RT.d (Ty.int Go.IntKind.i64)] [inj ty55 (a0.fst, ()), inj Ty.str a1]) fun r_2 => ifs ((r_2 != (0 : Int)) = true) (ifs ((!r.snd) = true) (some (injRs [RT.d ty55, RT.d (Ty.int Go.IntKind.i64)] (([], ()), r_2))) (Option.bind (cR (nat_lit 138) [RT.d ty55] [inj ty55 (a0.fst, ()), inj ty68 (a1, false, a2)]) fun r => some (injRs [RT.d ty55, RT.d (Ty.int Go.IntKind.i64)] ((r.fst, ()), (0 : Int))))) (Option.bind (cR (nat_lit 138) [RT.d ty55] [inj ty55 (a0.fst, ()), inj ty68 (a1, false, a2)]) fun r => some (injRs [RT.d ty55, RT.d (Ty.int Go.IntKind.i64)] ((r.fst, ()), (0 : Int))))))) := by kernel_rfl
theorem e140 (a0 : List (ByteArray × Bool × List ByteArray) × PUnit) (a1 : ByteArray) : callG W0 (callW W0) (cutW W0) 140 [inj ty55 a0, inj Ty.str a1] = Option.bind (cR (nat_lit 172) [RT.own (68 : Go.TypeId) ty68] [inj (Ty.sl ty68) a0.fst]) fun r => Option.bind (cR (nat_lit 174) [RT.own (68 : Go.TypeId) ty68] [inj (Ty.sl ty68) (List.take (List.length r) r), A.c (C.cl (175 : Nat) [Pt.sh Ty.str a1 (0 : Nat)])]) fun r => some (injRs [RT.d ty55] (List.take (List.length r) r, ())) := by kernel_rfl
theorem e91 (a0 : List (ByteArray × Bool × List ByteArray) × PUnit) (a1 : ByteArray) : callG W0 (callW W0) (cutW W0) 91 [inj ty55 a0, inj Ty.str a1] = Option.bind (cR (nat_lit 82) [RT.d Ty.bool] [inj Ty.str a1]) fun r => ifs ((!r) = true) (some (injRs [RT.d ty55, RT.d (Ty.int Go.IntKind.i64)] (([], ()), (8 : Int)))) (Option.bind (cR (nat_lit 39) [RT.d ty68, RT.d Ty.bool] [inj ty55 (a0.fst, ()), inj Ty.str a1]) fun r => ifs ((!r.snd) = true) (some (injRs [RT.d ty55, RT.d (Ty.int Go.IntKind.i64)] (([], ()), (9 : Int)))) (ifs (r.fst.snd.fst = true) (Option.bind (cR (nat_lit 43) [RT.own (9 : Go.TypeId) Ty.str] [inj ty55 (a0.fst, ()), inj Ty.str a1]) fun r => ifs (decide ((↑(List.length r) : Int) > (0 : Int)) = true) (some (injRs [RT.d ty55, RT.d (Ty.int Go.IntKind.i64)] (([], ()), (12 : Int)))) (Option.bind (cR (nat_lit 140) [RT.d ty55] [inj ty55 (a0.fst, ()), inj Ty.str a1]) fun r => some (injRs [RT.d ty55, RT.d (Ty.int Go.IntKind.i64)] ((r.fst, ()), (0 : Int))))) (Option.bind (cR (nat_lit 140) [RT.d ty55] [inj ty55 (a0.fst, ()), inj Ty.str a1]) fun r => some (injRs [RT.d ty55, RT.d (Ty.int Go.IntKind.i64)] ((r.fst, ()), (0 : Int)))))) := by kernel_rfl
theorem e89 (a0 : List (ByteArray × Bool × List ByteArray) × PUnit) (a1 : ByteArray) (a2 : ByteArray) : callG W0 (callW W0) (cutW W0) 89 [inj ty55 a0, inj Ty.str a1, inj Ty.str a2] = Option.bind (cR (nat_lit 82) [RT.d Ty.bool] [inj Ty.str a1]) fun r => ifs ((!r) = false) (Option.bind (cR (nat_lit 82) [RT.d Ty.bool] [inj Ty.str a2]) fun r => ifs ((!r) = true) (some (injRs [RT.d ty55, RT.d (Ty.int Go.IntKind.i64)] (([], ()), (8 : Int)))) (Option.bind (cR (nat_lit 39) [RT.d ty68, RT.d Ty.bool] [inj ty55 (a0.fst, ()), inj Ty.str a1]) fun r => Option.bind (cR (nat_lit 39) [RT.d ty68, RT.d Ty.bool] [inj ty55 (a0.fst, ()), inj Ty.str a2]) fun r_1 => ifs ((!r.snd) = true) (some (injRs [RT.d ty55, RT.d (Ty.int Go.IntKind.i64)] (([], ()), (9 : Int)))) (ifs (r.fst.snd.fst = true) (some (injRs [RT.d ty55, RT.d (Ty.int Go.IntKind.i64)] (([], ()), (11 : Int)))) (ifs (r_1.snd = true) (some (injRs [RT.d ty55, RT.d (Ty.int Go.IntKind.i64)] (([], ()), (10 : Int)))) (Option.bind (cR (nat_lit 101) [RT.d Ty.str] [inj Ty.str a2]) fun r_2 => Option.bind (cR (nat_lit 139) [RT.d Ty.bool] [inj ty55 (a0.fst, ()), inj Ty.str r_2]) fun r_3 => ifs ((!r_3) = true) (some (injRs [RT.d ty55, RT.d (Ty.int Go.IntKind.i64)] (([], ()), (9 : Int)))) (Option.bind (cR (nat_lit 140) [RT.d ty55] [inj ty55 (a0.fst, ()), inj Ty.str a1]) fun r_4 => Option.bind (cR (nat_lit 138) [RT.d ty55] [inj ty55 (r_4.fst, ()), inj ty68 (a2, r.fst.snd)]) fun r => some (injRs [RT.d ty55, RT.d (Ty.int Go.IntKind.i64)] ((r.fst, ()), (0 : Int))))))))) (some (injRs [RT.d ty55, RT.d (Ty.int Go.IntKind.i64)] (([], ()), (8 : Int)))) := by kernel_rfl
theorem e142 (a0 : ByteArray × Bool × List ByteArray) (a1 : ByteArray × Bool × List ByteArray) : callG W0 (callW W0) (cutW W0) 142 [inj ty68 a0, inj ty68 a1] = ifs ((ByteArray.toList a0.fst == ByteArray.toList a1.fst) = true) (ifs ((a0.snd.fst == a1.snd.fst) = true) (Option.bind (cR (nat_lit 66) [RT.d Ty.bool] [inj (Ty.sl Ty.str) a0.snd.snd, inj (Ty.sl Ty.str) a1.snd.snd]) fun r => some (injRs [RT.d Ty.bool] r)) (some (injRs [RT.d Ty.bool] false))) (some (injRs [RT.d Ty.bool] false)) := by kernel_rfl
noncomputable def td141_4 : List Item := (findT (code Tryd.f141) [] 4).getD []
noncomputable def l141_4 (x0 : List (ByteArray × Bool × List ByteArray)) (x1 : List (ByteArray × Bool × List ByteArray)) (x2 : Int) (x3 : Int) : Option (List RV) := cutW W0 n141 td141_4 { fr := [((1 : Nat), F.a (A.c (C.sl ty68 x0))), ((2 : Nat), F.a (A.c (C.cl (142 : Nat) []))), ((15 : Nat), F.a (A.c (C.sl ty68 x1))), ((16 : Nat), F.a (A.c (C.sc (Go.Value.int Go.IntKind.i64 x2)))), ((17 : Nat), F.a (A.c (C.sc (Go.Value.int Go.IntKind.i64 x3))))], mem := [], nx := (0 : Nat) }
theorem e141 (a0 : List (ByteArray × Bool × List ByteArray)) (a1 : List (ByteArray × Bool × List ByteArray)) : callG W0 (callW W0) (cutW W0) 141 [inj (Ty.sl ty68) a0, inj (Ty.sl ty68) a1, A.c (C.cl (142 : Nat) [])] = ifs (((↑(List.length a0) : Int) != (↑(List.length a1) : Int)) = true) (some (injRs [RT.d Ty.bool] false)) (l141_4 a1 a0 (↑(List.length a0) : Int) (0 : Int)) := by kernel_rfl
theorem q141_4 (x0 : List (ByteArray × Bool × List ByteArray)) (x1 : List (ByteArray × Bool × List ByteArray)) (x2 : Int) (x3 : Int) : cutG W0 (callW W0) (cutW W0) n141 td141_4 { fr := [((1 : Nat), F.a (A.c (C.sl ty68 x0))), ((2 : Nat), F.a (A.c (C.cl (142 : Nat) []))), ((15 : Nat), F.a (A.c (C.sl ty68 x1))), ((16 : Nat), F.a (A.c (C.sc (Go.Value.int Go.IntKind.i64 x2)))), ((17 : Nat), F.a (A.c (C.sc (Go.Value.int Go.IntKind.i64 x3))))], mem := [], nx := (0 : Nat) } = ifs (decide (x3 < x2) = true) (ifs ((0 : Int) ≤ x3) (Option.bind x1[Int.toNat x3]? fun r => ifs ((0 : Int) ≤ x3) (Option.bind x0[Int.toNat x3]? fun r_1 => Option.bind (cR (nat_lit 142) [RT.d Ty.bool] [inj ty68 r, inj ty68 r_1]) fun r => ifs ((!r) = true) (some (injRs [RT.d Ty.bool] false)) (l141_4 x0 x1 x2 (Go.IntKind.wrap Go.IntKind.i64 (x3 + (1 : Int))))) none) none) (some (injRs [RT.d Ty.bool] true)) := by kernel_rfl
theorem e90 (a0 : List (ByteArray × Bool × List ByteArray) × PUnit) (a1 : List (ByteArray × Bool × List ByteArray) × PUnit) : callG W0 (callW W0) (cutW W0) 90 [inj ty55 a0, inj ty55 a1] = Option.bind (cR (nat_lit 141) [RT.d Ty.bool] [inj (Ty.sl ty68) a0.fst, inj (Ty.sl ty68) a1.fst, A.c (C.cl (142 : Nat) [])]) fun r => some (injRs [RT.d Ty.bool] r) := by kernel_rfl
noncomputable def td37_3 : List Item := (findT (code Tryd.f37) [] 3).getD []
noncomputable def l37_3 (x0 : Int) (x1 : Int) (x2 : List (ByteArray × Bool × List ByteArray)) (x3 : Int) (x4 : Int) : Option (List RV) := cutW W0 n37 td37_3 { fr := [((4 : Nat), F.a (A.c (C.sc (Go.Value.int Go.IntKind.i64 x0)))), ((5 : Nat), F.a (A.c (C.sc (Go.Value.int Go.IntKind.i64 x1)))), ((9 : Nat), F.a (A.c (C.sl ty68 x2))), ((10 : Nat), F.a (A.c (C.sc (Go.Value.int Go.IntKind.i64 x3)))), ((11 : Nat), F.a (A.c (C.sc (Go.Value.int Go.IntKind.i64 x4))))], mem := [], nx := (0 : Nat) }
theorem e37 (a0 : List (ByteArray × Bool × List ByteArray) × PUnit) : callG W0 (callW W0) (cutW W0) 37 [inj ty55 a0] = l37_3 (0 : Int) (0 : Int) a0.fst (↑(List.length a0.fst) : Int) (0 : Int) := by kernel_rfl
theorem q37_3 (x0 : Int) (x1 : Int) (x2 : List (ByteArray × Bool × List ByteArray)) (x3 : Int) (x4 : Int) : cutG W0 (callW W0) (cutW W0) n37 td37_3 { fr := [((4 : Nat), F.a (A.c (C.sc (Go.Value.int Go.IntKind.i64 x0)))), ((5 : Nat), F.a (A.c (C.sc (Go.Value.int Go.IntKind.i64 x1)))), ((9 : Nat), F.a (A.c (C.sl ty68 x2))), ((10 : Nat), F.a (A.c (C.sc (Go.Value.int Go.IntKind.i64 x3)))), ((11 : Nat), F.a (A.c (C.sc (Go.Value.int Go.IntKind.i64 x4))))], mem := [], nx := (0 : Nat) } = ifs (decide (x4 < x3) = true) (ifs ((0 : Int) ≤ x4) (Option.bind x2[Int.toNat x4]? fun r => ifs (r.snd.fst = true) (l37_3 x0 (Go.IntKind.wrap Go.IntKind.i64 (x1 + (1 : Int))) x2 x3 (Go.IntKind.wrap Go.IntKind.i64 (x4 + (1 : Int)))) (l37_3 (Go.IntKind.wrap Go.IntKind.i64 (x0 + (1 : Int))) x1 x2 x3 (Go.IntKind.wrap Go.IntKind.i64 (x4 + (1 : Int))))) none) (some (injRs [RT.d (Ty.int Go.IntKind.i64), RT.d (Ty.int Go.IntKind.i64)] (x0, x1))) := by kernel_rfl
theorem e34 (a0 : List (ByteArray × Bool × List ByteArray) × PUnit) (a1 : Int × ByteArray × ByteArray × List ByteArray) : callG W0 (callW W0) (cutW W0) 34 [inj ty55 a0, inj ty57 a1] = ifs ((a1.fst == (0 : Int)) = true) (Option.bind (cR (nat_lit 87) [RT.d ty55, RT.d (Ty.int Go.IntKind.i64)] [inj ty55 (a0.fst, ()), inj Ty.str a1.snd.fst]) fun r => some (injRs [RT.d ty55, RT.d (Ty.int Go.IntKind.i64)] ((r.fst.fst, ()), r.snd))) (ifs ((a1.fst == (1 : Int)) = true) (Option.bind (cR (nat_lit 88) [RT.d ty55, RT.d (Ty.int Go.IntKind.i64)] [inj ty55 (a0.fst, ()), inj Ty.str a1.snd.fst, inj (Ty.sl Ty.str) a1.snd.snd.snd]) fun r => some (injRs [RT.d ty55, RT.d (Ty.int Go.IntKind.i64)] ((r.fst.fst, ()), r.snd))) (ifs ((a1.fst == (2 : Int)) = true) (Option.bind (cR (nat_lit 91) [RT.d ty55, RT.d (Ty.int Go.IntKind.i64)] [inj ty55 (a0.fst, ()), inj Ty.str a1.snd.fst]) fun r => some (injRs [RT.d ty55, RT.d (Ty.int Go.IntKind.i64)] ((r.fst.fst, ()), r.snd))) (Option.bind (cR (nat_lit 89) [RT.d ty55, RT.d (Ty.int Go.IntKind.i64)] [inj ty55 (a0.fst, ()), inj Ty.str a1.snd.fst, inj Ty.str a1.snd.snd.fst]) fun r => some (injRs [RT.d ty55, RT.d (Ty.int Go.IntKind.i64)] ((r.fst.fst, ()), r.snd))))) := by kernel_rfl
noncomputable def td99_3 : List Item := (findT (code Tryd.f99) [] 3).getD []
noncomputable def l99_3 (x0 : List ByteArray) (x1 : ByteArray) (x2 : Int) : Option (List RV) := cutW W0 n99 td99_3 { fr := [((0 : Nat), F.a (A.c (C.sl Ty.str x0))), ((3 : Nat), F.a (A.c (C.sc (Go.Value.string x1)))), ((4 : Nat), F.a (A.c (C.sc (Go.Value.int Go.IntKind.i64 x2))))], mem := [], nx := (0 : Nat) }
theorem e99 (a0 : List ByteArray) : callG W0 (callW W0) (cutW W0) 99 [inj (Ty.sl Ty.str) a0] = l99_3 a0 { data := #[] } (0 : Int) := by kernel_rfl
theorem q99_3 (x0 : List ByteArray) (x1 : ByteArray) (x2 : Int) : cutG W0 (callW W0) (cutW W0) n99 td99_3 { fr := [((0 : Nat), F.a (A.c (C.sl Ty.str x0))), ((3 : Nat), F.a (A.c (C.sc (Go.Value.string x1)))), ((4 : Nat), F.a (A.c (C.sc (Go.Value.int Go.IntKind.i64 x2))))], mem := [], nx := (0 : Nat) } = ifs (decide (x2 < (↑(List.length x0) : Int)) = true) (ifs (decide (x2 > (0 : Int)) = true) (ifs (ByteArray.size x1 + ByteArray.size { data := #[(47 : UInt8)] } ≤ (9223372036854775807 : Nat)) (ifs ((0 : Int) ≤ x2) (Option.bind x0[Int.toNat x2]? fun r => ifs (ByteArray.size (x1 ++ { data := #[(47 : UInt8)] }) + ByteArray.size r ≤ (9223372036854775807 : Nat)) (l99_3 x0 (x1 ++ { data := #[(47 : UInt8)] } ++ r) (Go.IntKind.wrap Go.IntKind.i64 (x2 + (1 : Int)))) none) none) none) (ifs ((0 : Int) ≤ x2) (Option.bind x0[Int.toNat x2]? fun r => ifs (ByteArray.size x1 + ByteArray.size r ≤ (9223372036854775807 : Nat)) (l99_3 x0 (x1 ++ r) (Go.IntKind.wrap Go.IntKind.i64 (x2 + (1 : Int)))) none) none)) (some (injRs [RT.d Ty.str] x1)) := by kernel_rfl
noncomputable def td176_6 : List Item := (findT (code Tryd.f176) [] 6).getD []
noncomputable def l176_6 (x0 : Int) (x1 : List ByteArray) (x2 : List ByteArray) : Option (List RV) := cutW W0 n176 td176_6 { fr := [((5 : Nat), F.a (A.c (C.ow (0 : Nat) (List.length x1)))), ((6 : Nat), F.a (A.c (C.ow (1 : Nat) (List.length x2)))), ((7 : Nat), F.a (A.c (C.sc (Go.Value.int Go.IntKind.i64 x0))))], mem := [some (Row.arr (9 : Nat) Ty.str x1 false), some (Row.arr (9 : Nat) Ty.str x2 false)], nx := (2 : Nat) }
theorem e176 (a0 : ByteArray) (a1 : ByteArray) : callG W0 (callW W0) (cutW W0) 176 [inj Ty.str a0, inj Ty.str a1] = Option.bind (cR (nat_lit 98) [RT.own (9 : Go.TypeId) Ty.str] [inj Ty.str a0]) fun r => Option.bind (cR (nat_lit 98) [RT.own (9 : Go.TypeId) Ty.str] [inj Ty.str a1]) fun r_1 => ifs (((↑(List.length r) : Int) == (0 : Int)) = true) (ifs (((↑(List.length r_1) : Int) == (0 : Int)) = true) (some (injRs [RT.d Ty.bool] (Go.Op.bytesLess (ByteArray.toList a0) (ByteArray.toList a1)))) (l176_6 (0 : Int) r r_1)) (l176_6 (0 : Int) r r_1) := by kernel_rfl
theorem q176_6 (x0 : Int) (x1 : List ByteArray) (x2 : List ByteArray) : cutG W0 (callW W0) (cutW W0) n176 td176_6 { fr := [((5 : Nat), F.a (A.c (C.ow (0 : Nat) (List.length x1)))), ((6 : Nat), F.a (A.c (C.ow (1 : Nat) (List.length x2)))), ((7 : Nat), F.a (A.c (C.sc (Go.Value.int Go.IntKind.i64 x0))))], mem := [some (Row.arr (9 : Nat) Ty.str x1 false), some (Row.arr (9 : Nat) Ty.str x2 false)], nx := (2 : Nat) } = ifs (decide (x0 < (↑(List.length x1) : Int)) = true) (ifs (decide (x0 < (↑(List.length x2) : Int)) = true) (ifs ((0 : Int) ≤ x0 ∧ x0 < (↑(List.length x1) : Int)) (Option.bind x1[Int.toNat x0]? fun r => ifs ((0 : Int) ≤ x0 ∧ x0 < (↑(List.length x2) : Int)) (Option.bind x2[Int.toNat x0]? fun r_1 => ifs ((!ByteArray.toList r == ByteArray.toList r_1) = true) (ifs ((0 : Int) ≤ x0 ∧ x0 < (↑(List.length x1) : Int)) (Option.bind x1[Int.toNat x0]? fun r => ifs ((0 : Int) ≤ x0 ∧ x0 < (↑(List.length x2) : Int)) (Option.bind x2[Int.toNat x0]? fun r_2 => some (injRs [RT.d Ty.bool] (Go.Op.bytesLess (ByteArray.toList r) (ByteArray.toList r_2)))) none) none) (l176_6 (Go.IntKind.wrap Go.IntKind.i64 (x0 + (1 : Int))) x1 x2)) none) none) (some (injRs [RT.d Ty.bool] (decide ((↑(List.length x1) : Int) < (↑(List.length x2) : Int)))))) (some (injRs [RT.d Ty.bool] (decide ((↑(List.length x1) : Int) < (↑(List.length x2) : Int))))) := by kernel_rfl
noncomputable def td40_2 : List Item := (findT (code Tryd.f40) [] 2).getD []
noncomputable def l40_2 (x0 : List (ByteArray × Bool × List ByteArray)) (x1 : ByteArray) (x2 : Int) : Option (List RV) := cutW W0 n40 td40_2 { fr := [((0 : Nat), F.a (A.c (C.sl ty68 x0))), ((1 : Nat), F.a (A.c (C.sc (Go.Value.string x1)))), ((5 : Nat), F.a (A.c (C.sc (Go.Value.int Go.IntKind.i64 x2))))], mem := [], nx := (0 : Nat) }
theorem e40 (a0 : List (ByteArray × Bool × List ByteArray)) (a1 : ByteArray) : callG W0 (callW W0) (cutW W0) 40 [inj (Ty.sl ty68) a0, inj Ty.str a1] = l40_2 a0 a1 (0 : Int) := by kernel_rfl
theorem q40_2 (x0 : List (ByteArray × Bool × List ByteArray)) (x1 : ByteArray) (x2 : Int) : cutG W0 (callW W0) (cutW W0) n40 td40_2 { fr := [((0 : Nat), F.a (A.c (C.sl ty68 x0))), ((1 : Nat), F.a (A.c (C.sc (Go.Value.string x1)))), ((5 : Nat), F.a (A.c (C.sc (Go.Value.int Go.IntKind.i64 x2))))], mem := [], nx := (0 : Nat) } = ifs (decide (x2 < (↑(List.length x0) : Int)) = true) (ifs ((0 : Int) ≤ x2) (Option.bind x0[Int.toNat x2]? fun r => ifs ((ByteArray.toList r.fst == ByteArray.toList x1) = true) (some (injRs [RT.d (Ty.int Go.IntKind.i64)] x2)) (l40_2 x0 x1 (Go.IntKind.wrap Go.IntKind.i64 (x2 + (1 : Int))))) none) (some (injRs [RT.d (Ty.int Go.IntKind.i64)] (-1 : Int))) := by kernel_rfl
theorem e92 (a0 : List (ByteArray × Bool × List ByteArray)) (a1 : ByteArray) : callG W0 (callW W0) (cutW W0) 92 [inj (Ty.sl ty68) a0, inj Ty.str a1] = Option.bind (cR (nat_lit 40) [RT.d (Ty.int Go.IntKind.i64)] [inj (Ty.sl ty68) a0, inj Ty.str a1]) fun r => ifs ((ByteArray.toList a1 == ByteArray.toList { data := #[] }) = false) (ifs (decide (r ≥ (0 : Int)) = true) (ifs ((0 : Int) ≤ r) (Option.bind a0[Int.toNat r]? fun r => some (injRs [RT.d Ty.bool] r.snd.fst)) none) (some (injRs [RT.d Ty.bool] false))) (some (injRs [RT.d Ty.bool] true)) := by kernel_rfl
theorem e41 (a0 : ByteArray) : callG W0 (callW W0) (cutW W0) 41 [inj Ty.str a0] = Option.bind (cR (nat_lit 98) [RT.own (9 : Go.TypeId) Ty.str] [inj Ty.str a0]) fun r => ifs (((↑(List.length r) : Int) == (0 : Int)) = true) (some (injRs [RT.d Ty.str] { data := #[] })) (ifs ((0 : Int) ≤ Go.IntKind.wrap Go.IntKind.i64 ((↑(List.length r) : Int) - (1 : Int)) ∧ Go.IntKind.wrap Go.IntKind.i64 ((↑(List.length r) : Int) - (1 : Int)) ≤ (↑(List.length r) : Int)) (Option.bind (cR (nat_lit 99) [RT.d Ty.str] [inj (Ty.sl Ty.str) (List.take (Int.toNat (Go.IntKind.wrap Go.IntKind.i64 ((↑(List.length r) : Int) - (1 : Int)))) r)]) fun r => some (injRs [RT.d Ty.str] r)) none) := by kernel_rfl
noncomputable def td143_3 : List Item := (findT (code Tryd.f143) [] 3).getD []
noncomputable def l143_3 (x0 : List (ByteArray × Bool × List ByteArray)) (x1 : Int) (x2 : List (ByteArray × Bool × List ByteArray)) : Option (List RV) := cutW W0 n143 td143_3 { fr := [((0 : Nat), F.a (A.c (C.sl ty68 x0))), ((3 : Nat), F.a (A.c (C.ow (0 : Nat) (List.length x2)))), ((4 : Nat), F.a (A.c (C.sc (Go.Value.int Go.IntKind.i64 x1))))], mem := [some (Row.arr (68 : Nat) ty68 x2 false)], nx := (1 : Nat) }
noncomputable def td143_6 : List Item := (findT (code Tryd.f143) [] 6).getD []
noncomputable def l143_6 (x0 : List (ByteArray × Bool × List ByteArray)) (x1 : Int) (x2 : Int) (x3 : List (ByteArray × Bool × List ByteArray)) : Option (List RV) := cutW W0 n143 td143_6 { fr := [((0 : Nat), F.a (A.c (C.sl ty68 x0))), ((3 : Nat), F.a (A.c (C.ow (0 : Nat) (List.length x3)))), ((4 : Nat), F.a (A.c (C.sc (Go.Value.int Go.IntKind.i64 x1)))), ((5 : Nat), F.a (A.c (C.sc (Go.Value.int Go.IntKind.i64 x2))))], mem := [some (Row.arr (68 : Nat) ty68 x3 false)], nx := (1 : Nat) }
theorem e143 (a0 : List (ByteArray × Bool × List ByteArray)) : callG W0 (callW W0) (cutW W0) 143 [inj (Ty.sl ty68) a0] = l143_3 a0 (0 : Int) [] := by kernel_rfl
theorem q143_3 (x0 : List (ByteArray × Bool × List ByteArray)) (x1 : Int) (x2 : List (ByteArray × Bool × List ByteArray)) : cutG W0 (callW W0) (cutW W0) n143 td143_3 { fr := [((0 : Nat), F.a (A.c (C.sl ty68 x0))), ((3 : Nat), F.a (A.c (C.ow (0 : Nat) (List.length x2)))), ((4 : Nat), F.a (A.c (C.sc (Go.Value.int Go.IntKind.i64 x1))))], mem := [some (Row.arr (68 : Nat) ty68 x2 false)], nx := (1 : Nat) } = ifs (decide (x1 < (↑(List.length x0) : Int)) = true) (l143_6 x0 x1 (↑(List.length x2) : Int) x2) (some (injRs [RT.own (68 : Go.TypeId) ty68] (List.take (List.length x2) x2))) := by kernel_rfl
theorem q143_6 (x0 : List (ByteArray × Bool × List ByteArray)) (x1 : Int) (x2 : Int) (x3 : List (ByteArray × Bool × List ByteArray)) : cutG W0 (callW W0) (cutW W0) n143 td143_6 { fr := [((0 : Nat), F.a (A.c (C.sl ty68 x0))), ((3 : Nat), F.a (A.c (C.ow (0 : Nat) (List.length x3)))), ((4 : Nat), F.a (A.c (C.sc (Go.Value.int Go.IntKind.i64 x1)))), ((5 : Nat), F.a (A.c (C.sc (Go.Value.int Go.IntKind.i64 x2))))], mem := [some (Row.arr (68 : Nat) ty68 x3 false)], nx := (1 : Nat) } = ifs (decide (x2 > (0 : Int)) = true) (ifs ((0 : Int) ≤ x1) (Option.bind x0[Int.toNat x1]? fun r => ifs ((0 : Int) ≤ Go.IntKind.wrap Go.IntKind.i64 (x2 - (1 : Int)) ∧ Go.IntKind.wrap Go.IntKind.i64 (x2 - (1 : Int)) < (↑(List.length x3) : Int)) (Option.bind x3[Int.toNat (Go.IntKind.wrap Go.IntKind.i64 (x2 - (1 : Int)))]? fun r_1 => Option.bind (cR (nat_lit 176) [RT.d Ty.bool] [inj Ty.str r.fst, inj Ty.str r_1.fst]) fun r => ifs (r = true) (l143_6 x0 x1 (Go.IntKind.wrap Go.IntKind.i64 (x2 - (1 : Int))) x3) (ifs ((0 : Int) ≤ x2 ∧ x2 ≤ (↑(List.length x3) : Int)) (ifs (((0 : Nat) + List.length (List.take (Int.toNat x2) x3)) * nat_lit 48 ≤ (140737488355328 : Nat)) (ifs ((0 : Int) ≤ x1) (Option.bind x0[Int.toNat x1]? fun r => ifs ((List.length ([] ++ List.take (Int.toNat x2) x3) + (1 : Nat)) * nat_lit 48 ≤ (140737488355328 : Nat)) (ifs ((0 : Int) ≤ (↑(List.length x3) : Int) ∧ (↑(List.length x3) : Int) ≤ (↑(List.length x3) : Int)) (ifs ((0 : Int) ≤ x2 ∧ x2 ≤ (↑(List.length x3) : Int)) (ifs ((List.length (List.take (List.length ([] ++ List.take (Int.toNat x2) x3)) ([] ++ List.take (Int.toNat x2) x3) ++ [r]) + List.length (List.drop (Int.toNat x2) (List.take (Int.toNat (↑(List.length x3) : Int)) x3))) * nat_lit 48 ≤ (140737488355328 : Nat)) (l143_3 x0 (Go.IntKind.wrap Go.IntKind.i64 (x1 + (1 : Int))) (List.take (List.length (List.take (List.length ([] ++ List.take (Int.toNat x2) x3)) ([] ++ List.take (Int.toNat x2) x3) ++ [r])) (List.take (List.length ([] ++ List.take (Int.toNat x2) x3)) ([] ++ List.take (Int.toNat x2) x3) ++ [r]) ++ List.drop (Int.toNat x2) (List.take (Int.toNat (↑(List.length x3) : Int)) x3))) none) none) none) none) none) none) none)) none) none) (ifs ((0 : Int) ≤ x2 ∧ x2 ≤ (↑(List.length x3) : Int)) (ifs (((0 : Nat) + List.length (List.take (Int.toNat x2) x3)) * nat_lit 48 ≤ (140737488355328 : Nat)) (ifs ((0 : Int) ≤ x1) (Option.bind x0[Int.toNat x1]? fun r => ifs ((List.length ([] ++ List.take (Int.toNat x2) x3) + (1 : Nat)) * nat_lit 48 ≤ (140737488355328 : Nat)) (ifs ((0 : Int) ≤ (↑(List.length x3) : Int) ∧ (↑(List.length x3) : Int) ≤ (↑(List.length x3) : Int)) (ifs ((0 : Int) ≤ x2 ∧ x2 ≤ (↑(List.length x3) : Int)) (ifs ((List.length (List.take (List.length ([] ++ List.take (Int.toNat x2) x3)) ([] ++ List.take (Int.toNat x2) x3) ++ [r]) + List.length (List.drop (Int.toNat x2) (List.take (Int.toNat (↑(List.length x3) : Int)) x3))) * nat_lit 48 ≤ (140737488355328 : Nat)) (l143_3 x0 (Go.IntKind.wrap Go.IntKind.i64 (x1 + (1 : Int))) (List.take (List.length (List.take (List.length ([] ++ List.take (Int.toNat x2) x3)) ([] ++ List.take (Int.toNat x2) x3) ++ [r])) (List.take (List.length ([] ++ List.take (Int.toNat x2) x3)) ([] ++ List.take (Int.toNat x2) x3) ++ [r]) ++ List.drop (Int.toNat x2) (List.take (Int.toNat (↑(List.length x3) : Int)) x3))) none) none) none) none) none) none) none) := by kernel_rfl
noncomputable def td95_3 : List Item := (findT (code Tryd.f95) [] 3).getD []
noncomputable def l95_3 (x0 : List (ByteArray × Bool × List ByteArray)) (x1 : ByteArray) (x2 : Int) (x3 : List (ByteArray × Bool × List ByteArray)) : Option (List RV) := cutW W0 n95 td95_3 { fr := [((0 : Nat), F.a (A.c (C.sl ty68 x0))), ((1 : Nat), F.a (A.c (C.sc (Go.Value.string x1)))), ((5 : Nat), F.a (A.c (C.ow (0 : Nat) (List.length x3)))), ((6 : Nat), F.a (A.c (C.sc (Go.Value.int Go.IntKind.i64 x2))))], mem := [some (Row.arr (68 : Nat) ty68 x3 false)], nx := (1 : Nat) }
theorem e95 (a0 : List (ByteArray × Bool × List ByteArray)) (a1 : ByteArray) : callG W0 (callW W0) (cutW W0) 95 [inj (Ty.sl ty68) a0, inj Ty.str a1] = l95_3 a0 a1 (0 : Int) [] := by kernel_rfl
theorem q95_3 (x0 : List (ByteArray × Bool × List ByteArray)) (x1 : ByteArray) (x2 : Int) (x3 : List (ByteArray × Bool × List ByteArray)) : cutG W0 (callW W0) (cutW W0) n95 td95_3 { fr := [((0 : Nat), F.a (A.c (C.sl ty68 x0))), ((1 : Nat), F.a (A.c (C.sc (Go.Value.string x1)))), ((5 : Nat), F.a (A.c (C.ow (0 : Nat) (List.length x3)))), ((6 : Nat), F.a (A.c (C.sc (Go.Value.int Go.IntKind.i64 x2))))], mem := [some (Row.arr (68 : Nat) ty68 x3 false)], nx := (1 : Nat) } = ifs (decide (x2 < (↑(List.length x0) : Int)) = true) (ifs ((0 : Int) ≤ x2) (Option.bind x0[Int.toNat x2]? fun r => ifs ((!ByteArray.toList r.fst == ByteArray.toList x1) = true) (ifs ((0 : Int) ≤ x2) (Option.bind x0[Int.toNat x2]? fun r => ifs ((List.length x3 + (1 : Nat)) * nat_lit 48 ≤ (140737488355328 : Nat)) (l95_3 x0 x1 (Go.IntKind.wrap Go.IntKind.i64 (x2 + (1 : Int))) (List.take (List.length x3) x3 ++ [r])) none) none) (l95_3 x0 x1 (Go.IntKind.wrap Go.IntKind.i64 (x2 + (1 : Int))) x3)) none) (some (injRs [RT.own (68 : Go.TypeId) ty68] (List.take (List.length x3) x3))) := by kernel_rfl
theorem e93 (a0 : List (ByteArray × Bool × List ByteArray)) (a1 : ByteArray × Bool × List ByteArray) : callG W0 (callW W0) (cutW W0) 93 [inj (Ty.sl ty68) a0, inj ty68 a1] = Option.bind (cR (nat_lit 95) [RT.own (68 : Go.TypeId) ty68] [inj (Ty.sl ty68) a0, inj Ty.str a1.fst]) fun r => ifs ((List.length r + (1 : Nat)) * nat_lit 48 ≤ (140737488355328 : Nat)) (Option.bind (cR (nat_lit 143) [RT.own (68 : Go.TypeId) ty68] [inj (Ty.sl ty68) (List.take (List.length (List.take (List.length r) r ++ [a1])) (List.take (List.length r) r ++ [a1]))]) fun r => some (injRs [RT.own (68 : Go.TypeId) ty68] (List.take (List.length r) r))) none := by kernel_rfl
noncomputable def td38_4 : List Item := (findT (code Tryd.f38) [] 4).getD []
noncomputable def l38_4 (x0 : List (ByteArray × Bool × List ByteArray)) (x1 : List (ByteArray × Bool × List ByteArray)) (x2 : Int) : Option (List RV) := cutW W0 n38 td38_4 { fr := [((0 : Nat), F.a (A.c (C.sl ty68 x0))), ((1 : Nat), F.a (A.c (C.sl ty68 x1))), ((5 : Nat), F.a (A.c (C.sc (Go.Value.int Go.IntKind.i64 x2))))], mem := [], nx := (0 : Nat) }
theorem e38 (a0 : List (ByteArray × Bool × List ByteArray)) (a1 : List (ByteArray × Bool × List ByteArray)) : callG W0 (callW W0) (cutW W0) 38 [inj (Ty.sl ty68) a0, inj (Ty.sl ty68) a1] = ifs (((↑(List.length a0) : Int) != (↑(List.length a1) : Int)) = true) (some (injRs [RT.d Ty.bool] false)) (l38_4 a0 a1 (0 : Int)) := by kernel_rfl
theorem q38_4 (x0 : List (ByteArray × Bool × List ByteArray)) (x1 : List (ByteArray × Bool × List ByteArray)) (x2 : Int) : cutG W0 (callW W0) (cutW W0) n38 td38_4 { fr := [((0 : Nat), F.a (A.c (C.sl ty68 x0))), ((1 : Nat), F.a (A.c (C.sl ty68 x1))), ((5 : Nat), F.a (A.c (C.sc (Go.Value.int Go.IntKind.i64 x2))))], mem := [], nx := (0 : Nat) } = ifs (decide (x2 < (↑(List.length x0) : Int)) = true) (ifs ((0 : Int) ≤ x2) (Option.bind x0[Int.toNat x2]? fun r => ifs ((0 : Int) ≤ x2) (Option.bind x1[Int.toNat x2]? fun r_1 => ifs ((!ByteArray.toList r.fst == ByteArray.toList r_1.fst) = false) (ifs ((0 : Int) ≤ x2) (Option.bind x0[Int.toNat x2]? fun r => ifs ((0 : Int) ≤ x2) (Option.bind x1[Int.toNat x2]? fun r_2 => ifs ((!r.snd.fst == r_2.snd.fst) = false) (ifs ((0 : Int) ≤ x2) (Option.bind x0[Int.toNat x2]? fun r => ifs ((0 : Int) ≤ x2) (Option.bind x1[Int.toNat x2]? fun r_3 => Option.bind (cR (nat_lit 42) [RT.d Ty.bool] [inj (Ty.sl Ty.str) r.snd.snd, inj (Ty.sl Ty.str) r_3.snd.snd]) fun r => ifs ((!r) = true) (some (injRs [RT.d Ty.bool] false)) (l38_4 x0 x1 (Go.IntKind.wrap Go.IntKind.i64 (x2 + (1 : Int))))) none) none) (some (injRs [RT.d Ty.bool] false))) none) none) (some (injRs [RT.d Ty.bool] false))) none) none) (some (injRs [RT.d Ty.bool] true)) := by kernel_rfl
noncomputable def td35_29 : List Item := (findT (code Tryd.f35) [] 29).getD []
noncomputable def l35_29 (x0 : List (ByteArray × Bool × List ByteArray)) (x1 : Int) (x2 : Int) (x3 : ByteArray) (x4 : ByteArray) (x5 : List ByteArray) : Option (List RV) := cutW W0 n35 td35_29 { fr := [((0 : Nat), F.a (A.c (C.sl ty68 x0))), ((3 : Nat), F.a (A.c (C.pt (Pt.own (0 : Nat) (0 : Nat) (0 : Nat))))), ((9 : Nat), F.a (A.c (C.sc (Go.Value.int Go.IntKind.i64 x1))))], mem := [some (Row.box (57 : Nat) (some ty57) [C.sc (Go.Value.int Go.IntKind.i64 x2), C.sc (Go.Value.string x3), C.sc (Go.Value.string x4), C.sl Ty.str x5] false)], nx := (1 : Nat) }
theorem e35 (a0 : List (ByteArray × Bool × List ByteArray)) (a1 : Int × ByteArray × ByteArray × List ByteArray) : callG W0 (callW W0) (cutW W0) 35 [inj (Ty.sl ty68) a0, inj ty57 a1] = Option.bind (cR (nat_lit 79) [RT.d Ty.bool] [inj Ty.str a1.snd.fst]) fun r => ifs ((!r) = false) (ifs (decide (a1.fst < (0 : Int)) = false) (ifs (decide (a1.fst > (2 : Int)) = true) (Option.bind (cR (nat_lit 79) [RT.d Ty.bool] [inj Ty.str a1.snd.snd.fst]) fun r => ifs ((!r) = true) (some (injRs [RT.d (Ty.sl ty68), RT.d (Ty.int Go.IntKind.i64)] (a0, (8 : Int)))) (Option.bind (cR (nat_lit 40) [RT.d (Ty.int Go.IntKind.i64)] [inj (Ty.sl ty68) a0, inj Ty.str a1.snd.fst]) fun r => ifs (decide ((↑(List.length a0) : Int) ≥ (500 : Int)) = true) (Option.bind (cR (nat_lit 41) [RT.d Ty.str] [inj Ty.str a1.snd.fst]) fun r_1 => Option.bind (cR (nat_lit 92) [RT.d Ty.bool] [inj (Ty.sl ty68) a0, inj Ty.str r_1]) fun r_2 => ifs ((!r_2) = true) (ifs ((a1.fst == (0 : Int)) = true) (ifs (decide (r ≥ (0 : Int)) = true) (some (injRs [RT.d (Ty.sl ty68), RT.d (Ty.int Go.IntKind.i64)] (a0, (10 : Int)))) (some (injRs [RT.d (Ty.sl ty68), RT.d (Ty.int Go.IntKind.i64)] (a0, (9 : Int))))) (ifs ((a1.fst == (1 : Int)) = true) (ifs (decide (r ≥ (0 : Int)) = true) (ifs ((0 : Int) ≤ r) (Option.bind a0[Int.toNat r]? fun r_3 => ifs (r_3.snd.fst = true) (some (injRs [RT.d (Ty.sl ty68), RT.d (Ty.int Go.IntKind.i64)] (a0, (11 : Int)))) (Option.bind (cR (nat_lit 94) [RT.d (Ty.int Go.IntKind.i64)] [inj (Ty.sl Ty.str) a1.snd.snd.snd]) fun r_4 => ifs ((r_4 != (0 : Int)) = true) (some (injRs [RT.d (Ty.sl ty68), RT.d (Ty.int Go.IntKind.i64)] (a0, r_4))) (ifs (decide (r < (0 : Int)) = true) (some (injRs [RT.d (Ty.sl ty68), RT.d (Ty.int Go.IntKind.i64)] (a0, (9 : Int)))) (Option.bind (cR (nat_lit 93) [RT.own (68 : Go.TypeId) ty68] [inj (Ty.sl ty68) a0, inj ty68 (a1.snd.fst, false, a1.snd.snd.snd)]) fun r => some (injRs [RT.d (Ty.sl ty68), RT.d (Ty.int Go.IntKind.i64)] (List.take (List.length r) r, (0 : Int))))))) none) (Option.bind (cR (nat_lit 94) [RT.d (Ty.int Go.IntKind.i64)] [inj (Ty.sl Ty.str) a1.snd.snd.snd]) fun r_3 => ifs ((r_3 != (0 : Int)) = true) (some (injRs [RT.d (Ty.sl ty68), RT.d (Ty.int Go.IntKind.i64)] (a0, r_3))) (ifs (decide (r < (0 : Int)) = true) (some (injRs [RT.d (Ty.sl ty68), RT.d (Ty.int Go.IntKind.i64)] (a0, (9 : Int)))) (Option.bind (cR (nat_lit 93) [RT.own (68 : Go.TypeId) ty68] [inj (Ty.sl ty68) a0, inj ty68 (a1.snd.fst, false, a1.snd.snd.snd)]) fun r => some (injRs [RT.d (Ty.sl ty68), RT.d (Ty.int Go.IntKind.i64)] (List.take (List.length r) r, (0 : Int))))))) (ifs ((a1.fst == (2 : Int)) = true) (ifs (decide (r < (0 : Int)) = true) (some (injRs [RT.d (Ty.sl ty68), RT.d (Ty.int Go.IntKind.i64)] (a0, (9 : Int)))) (l35_29 a0 (0 : Int) a1.fst a1.snd.fst a1.snd.snd.fst a1.snd.snd.snd)) (ifs (decide (r < (0 : Int)) = true) (some (injRs [RT.d (Ty.sl ty68), RT.d (Ty.int Go.IntKind.i64)] (a0, (9 : Int)))) (ifs ((0 : Int) ≤ r) (Option.bind a0[Int.toNat r]? fun r_3 => ifs (r_3.snd.fst = true) (some (injRs [RT.d (Ty.sl ty68), RT.d (Ty.int Go.IntKind.i64)] (a0, (11 : Int)))) (Option.bind (cR (nat_lit 40) [RT.d (Ty.int Go.IntKind.i64)] [inj (Ty.sl ty68) a0, inj Ty.str a1.snd.snd.fst]) fun r_4 => ifs (decide (r_4 ≥ (0 : Int)) = true) (some (injRs [RT.d (Ty.sl ty68), RT.d (Ty.int Go.IntKind.i64)] (a0, (10 : Int)))) (Option.bind (cR (nat_lit 41) [RT.d Ty.str] [inj Ty.str a1.snd.snd.fst]) fun r_5 => Option.bind (cR (nat_lit 92) [RT.d Ty.bool] [inj (Ty.sl ty68) a0, inj Ty.str r_5]) fun r_6 => ifs ((!r_6) = true) (some (injRs [RT.d (Ty.sl ty68), RT.d (Ty.int Go.IntKind.i64)] (a0, (9 : Int)))) (Option.bind (cR (nat_lit 95) [RT.own (68 : Go.TypeId) ty68] [inj (Ty.sl ty68) a0, inj Ty.str a1.snd.fst]) fun r_7 => ifs ((0 : Int) ≤ r) (Option.bind a0[Int.toNat r]? fun r => Option.bind (cR (nat_lit 93) [RT.own (68 : Go.TypeId) ty68] [inj (Ty.sl ty68) (List.take (List.length r_7) r_7), inj ty68 (a1.snd.snd.fst, false, r.snd.snd)]) fun r => some (injRs [RT.d (Ty.sl ty68), RT.d (Ty.int Go.IntKind.i64)] (List.take (List.length r) r, (0 : Int)))) none)))) none))))) (ifs ((a1.fst == (0 : Int)) = true) (ifs (decide (r ≥ (0 : Int)) = true) (some (injRs [RT.d (Ty.sl ty68), RT.d (Ty.int Go.IntKind.i64)] (a0, (10 : Int)))) (some (injRs [RT.d (Ty.sl ty68), RT.d (Ty.int Go.IntKind.i64)] (a0, (4 : Int))))) (ifs ((a1.fst == (1 : Int)) = true) (ifs (decide (r ≥ (0 : Int)) = true) (ifs ((0 : Int) ≤ r) (Option.bind a0[Int.toNat r]? fun r_3 => ifs (r_3.snd.fst = true) (some (injRs [RT.d (Ty.sl ty68), RT.d (Ty.int Go.IntKind.i64)] (a0, (11 : Int)))) (Option.bind (cR (nat_lit 94) [RT.d (Ty.int Go.IntKind.i64)] [inj (Ty.sl Ty.str) a1.snd.snd.snd]) fun r_4 => ifs ((r_4 != (0 : Int)) = true) (some (injRs [RT.d (Ty.sl ty68), RT.d (Ty.int Go.IntKind.i64)] (a0, r_4))) (ifs (decide (r < (0 : Int)) = true) (some (injRs [RT.d (Ty.sl ty68), RT.d (Ty.int Go.IntKind.i64)] (a0, (4 : Int)))) (Option.bind (cR (nat_lit 93) [RT.own (68 : Go.TypeId) ty68] [inj (Ty.sl ty68) a0, inj ty68 (a1.snd.fst, false, a1.snd.snd.snd)]) fun r => some (injRs [RT.d (Ty.sl ty68), RT.d (Ty.int Go.IntKind.i64)] (List.take (List.length r) r, (0 : Int))))))) none) (Option.bind (cR (nat_lit 94) [RT.d (Ty.int Go.IntKind.i64)] [inj (Ty.sl Ty.str) a1.snd.snd.snd]) fun r_3 => ifs ((r_3 != (0 : Int)) = true) (some (injRs [RT.d (Ty.sl ty68), RT.d (Ty.int Go.IntKind.i64)] (a0, r_3))) (ifs (decide (r < (0 : Int)) = true) (some (injRs [RT.d (Ty.sl ty68), RT.d (Ty.int Go.IntKind.i64)] (a0, (4 : Int)))) (Option.bind (cR (nat_lit 93) [RT.own (68 : Go.TypeId) ty68] [inj (Ty.sl ty68) a0, inj ty68 (a1.snd.fst, false, a1.snd.snd.snd)]) fun r => some (injRs [RT.d (Ty.sl ty68), RT.d (Ty.int Go.IntKind.i64)] (List.take (List.length r) r, (0 : Int))))))) (ifs ((a1.fst == (2 : Int)) = true) (ifs (decide (r < (0 : Int)) = true) (some (injRs [RT.d (Ty.sl ty68), RT.d (Ty.int Go.IntKind.i64)] (a0, (9 : Int)))) (l35_29 a0 (0 : Int) a1.fst a1.snd.fst a1.snd.snd.fst a1.snd.snd.snd)) (ifs (decide (r < (0 : Int)) = true) (some (injRs [RT.d (Ty.sl ty68), RT.d (Ty.int Go.IntKind.i64)] (a0, (9 : Int)))) (ifs ((0 : Int) ≤ r) (Option.bind a0[Int.toNat r]? fun r_3 => ifs (r_3.snd.fst = true) (some (injRs [RT.d (Ty.sl ty68), RT.d (Ty.int Go.IntKind.i64)] (a0, (11 : Int)))) (Option.bind (cR (nat_lit 40) [RT.d (Ty.int Go.IntKind.i64)] [inj (Ty.sl ty68) a0, inj Ty.str a1.snd.snd.fst]) fun r_4 => ifs (decide (r_4 ≥ (0 : Int)) = true) (some (injRs [RT.d (Ty.sl ty68), RT.d (Ty.int Go.IntKind.i64)] (a0, (10 : Int)))) (Option.bind (cR (nat_lit 41) [RT.d Ty.str] [inj Ty.str a1.snd.snd.fst]) fun r_5 => Option.bind (cR (nat_lit 92) [RT.d Ty.bool] [inj (Ty.sl ty68) a0, inj Ty.str r_5]) fun r_6 => ifs ((!r_6) = true) (some (injRs [RT.d (Ty.sl ty68), RT.d (Ty.int Go.IntKind.i64)] (a0, (9 : Int)))) (Option.bind (cR (nat_lit 95) [RT.own (68 : Go.TypeId) ty68] [inj (Ty.sl ty68) a0, inj Ty.str a1.snd.fst]) fun r_7 => ifs ((0 : Int) ≤ r) (Option.bind a0[Int.toNat r]? fun r => Option.bind (cR (nat_lit 93) [RT.own (68 : Go.TypeId) ty68] [inj (Ty.sl ty68) (List.take (List.length r_7) r_7), inj ty68 (a1.snd.snd.fst, false, r.snd.snd)]) fun r => some (injRs [RT.d (Ty.sl ty68), RT.d (Ty.int Go.IntKind.i64)] (List.take (List.length r) r, (0 : Int)))) none)))) none)))))) (Option.bind (cR (nat_lit 41) [RT.d Ty.str] [inj Ty.str a1.snd.fst]) fun r_1 => Option.bind (cR (nat_lit 92) [RT.d Ty.bool] [inj (Ty.sl ty68) a0, inj Ty.str r_1]) fun r_2 => ifs ((!r_2) = true) (ifs ((a1.fst == (0 : Int)) = true) (ifs (decide (r ≥ (0 : Int)) = true) (some (injRs [RT.d (Ty.sl ty68), RT.d (Ty.int Go.IntKind.i64)] (a0, (10 : Int)))) (some (injRs [RT.d (Ty.sl ty68), RT.d (Ty.int Go.IntKind.i64)] (a0, (9 : Int))))) (ifs ((a1.fst == (1 : Int)) = true) (ifs (decide (r ≥ (0 : Int)) = true) (ifs ((0 : Int) ≤ r) (Option.bind a0[Int.toNat r]? fun r_3 => ifs (r_3.snd.fst = true) (some (injRs [RT.d (Ty.sl ty68), RT.d (Ty.int Go.IntKind.i64)] (a0, (11 : Int)))) (Option.bind (cR (nat_lit 94) [RT.d (Ty.int Go.IntKind.i64)] [inj (Ty.sl Ty.str) a1.snd.snd.snd]) fun r_4 => ifs ((r_4 != (0 : Int)) = true) (some (injRs [RT.d (Ty.sl ty68), RT.d (Ty.int Go.IntKind.i64)] (a0, r_4))) (ifs (decide (r < (0 : Int)) = true) (some (injRs [RT.d (Ty.sl ty68), RT.d (Ty.int Go.IntKind.i64)] (a0, (9 : Int)))) (Option.bind (cR (nat_lit 93) [RT.own (68 : Go.TypeId) ty68] [inj (Ty.sl ty68) a0, inj ty68 (a1.snd.fst, false, a1.snd.snd.snd)]) fun r => some (injRs [RT.d (Ty.sl ty68), RT.d (Ty.int Go.IntKind.i64)] (List.take (List.length r) r, (0 : Int))))))) none) (Option.bind (cR (nat_lit 94) [RT.d (Ty.int Go.IntKind.i64)] [inj (Ty.sl Ty.str) a1.snd.snd.snd]) fun r_3 => ifs ((r_3 != (0 : Int)) = true) (some (injRs [RT.d (Ty.sl ty68), RT.d (Ty.int Go.IntKind.i64)] (a0, r_3))) (ifs (decide (r < (0 : Int)) = true) (some (injRs [RT.d (Ty.sl ty68), RT.d (Ty.int Go.IntKind.i64)] (a0, (9 : Int)))) (Option.bind (cR (nat_lit 93) [RT.own (68 : Go.TypeId) ty68] [inj (Ty.sl ty68) a0, inj ty68 (a1.snd.fst, false, a1.snd.snd.snd)]) fun r => some (injRs [RT.d (Ty.sl ty68), RT.d (Ty.int Go.IntKind.i64)] (List.take (List.length r) r, (0 : Int))))))) (ifs ((a1.fst == (2 : Int)) = true) (ifs (decide (r < (0 : Int)) = true) (some (injRs [RT.d (Ty.sl ty68), RT.d (Ty.int Go.IntKind.i64)] (a0, (9 : Int)))) (l35_29 a0 (0 : Int) a1.fst a1.snd.fst a1.snd.snd.fst a1.snd.snd.snd)) (ifs (decide (r < (0 : Int)) = true) (some (injRs [RT.d (Ty.sl ty68), RT.d (Ty.int Go.IntKind.i64)] (a0, (9 : Int)))) (ifs ((0 : Int) ≤ r) (Option.bind a0[Int.toNat r]? fun r_3 => ifs (r_3.snd.fst = true) (some (injRs [RT.d (Ty.sl ty68), RT.d (Ty.int Go.IntKind.i64)] (a0, (11 : Int)))) (Option.bind (cR (nat_lit 40) [RT.d (Ty.int Go.IntKind.i64)] [inj (Ty.sl ty68) a0, inj Ty.str a1.snd.snd.fst]) fun r_4 => ifs (decide (r_4 ≥ (0 : Int)) = true) (some (injRs [RT.d (Ty.sl ty68), RT.d (Ty.int Go.IntKind.i64)] (a0, (10 : Int)))) (Option.bind (cR (nat_lit 41) [RT.d Ty.str] [inj Ty.str a1.snd.snd.fst]) fun r_5 => Option.bind (cR (nat_lit 92) [RT.d Ty.bool] [inj (Ty.sl ty68) a0, inj Ty.str r_5]) fun r_6 => ifs ((!r_6) = true) (some (injRs [RT.d (Ty.sl ty68), RT.d (Ty.int Go.IntKind.i64)] (a0, (9 : Int)))) (Option.bind (cR (nat_lit 95) [RT.own (68 : Go.TypeId) ty68] [inj (Ty.sl ty68) a0, inj Ty.str a1.snd.fst]) fun r_7 => ifs ((0 : Int) ≤ r) (Option.bind a0[Int.toNat r]? fun r => Option.bind (cR (nat_lit 93) [RT.own (68 : Go.TypeId) ty68] [inj (Ty.sl ty68) (List.take (List.length r_7) r_7), inj ty68 (a1.snd.snd.fst, false, r.snd.snd)]) fun r => some (injRs [RT.d (Ty.sl ty68), RT.d (Ty.int Go.IntKind.i64)] (List.take (List.length r) r, (0 : Int)))) none)))) none))))) (ifs ((a1.fst == (0 : Int)) = true) (ifs (decide (r ≥ (0 : Int)) = true) (some (injRs [RT.d (Ty.sl ty68), RT.d (Ty.int Go.IntKind.i64)] (a0, (10 : Int)))) (Option.bind (cR (nat_lit 93) [RT.own (68 : Go.TypeId) ty68] [inj (Ty.sl ty68) a0, inj ty68 (a1.snd.fst, true, [])]) fun r => some (injRs [RT.d (Ty.sl ty68), RT.d (Ty.int Go.IntKind.i64)] (List.take (List.length r) r, (0 : Int))))) (ifs ((a1.fst == (1 : Int)) = true) (ifs (decide (r ≥ (0 : Int)) = true) (ifs ((0 : Int) ≤ r) (Option.bind a0[Int.toNat r]? fun r_3 => ifs (r_3.snd.fst = true) (some (injRs [RT.d (Ty.sl ty68), RT.d (Ty.int Go.IntKind.i64)] (a0, (11 : Int)))) (Option.bind (cR (nat_lit 94) [RT.d (Ty.int Go.IntKind.i64)] [inj (Ty.sl Ty.str) a1.snd.snd.snd]) fun r_4 => ifs ((r_4 != (0 : Int)) = true) (some (injRs [RT.d (Ty.sl ty68), RT.d (Ty.int Go.IntKind.i64)] (a0, r_4))) (ifs (decide (r < (0 : Int)) = true) (Option.bind (cR (nat_lit 93) [RT.own (68 : Go.TypeId) ty68] [inj (Ty.sl ty68) a0, inj ty68 (a1.snd.fst, false, a1.snd.snd.snd)]) fun r => some (injRs [RT.d (Ty.sl ty68), RT.d (Ty.int Go.IntKind.i64)] (List.take (List.length r) r, (0 : Int)))) (Option.bind (cR (nat_lit 93) [RT.own (68 : Go.TypeId) ty68] [inj (Ty.sl ty68) a0, inj ty68 (a1.snd.fst, false, a1.snd.snd.snd)]) fun r => some (injRs [RT.d (Ty.sl ty68), RT.d (Ty.int Go.IntKind.i64)] (List.take (List.length r) r, (0 : Int))))))) none) (Option.bind (cR (nat_lit 94) [RT.d (Ty.int Go.IntKind.i64)] [inj (Ty.sl Ty.str) a1.snd.snd.snd]) fun r_3 => ifs ((r_3 != (0 : Int)) = true) (some (injRs [RT.d (Ty.sl ty68), RT.d (Ty.int Go.IntKind.i64)] (a0, r_3))) (ifs (decide (r < (0 : Int)) = true) (Option.bind (cR (nat_lit 93) [RT.own (68 : Go.TypeId) ty68] [inj (Ty.sl ty68) a0, inj ty68 (a1.snd.fst, false, a1.snd.snd.snd)]) fun r => some (injRs [RT.d (Ty.sl ty68), RT.d (Ty.int Go.IntKind.i64)] (List.take (List.length r) r, (0 : Int)))) (Option.bind (cR (nat_lit 93) [RT.own (68 : Go.TypeId) ty68] [inj (Ty.sl ty68) a0, inj ty68 (a1.snd.fst, false, a1.snd.snd.snd)]) fun r => some (injRs [RT.d (Ty.sl ty68), RT.d (Ty.int Go.IntKind.i64)] (List.take (List.length r) r, (0 : Int))))))) (ifs ((a1.fst == (2 : Int)) = true) (ifs (decide (r < (0 : Int)) = true) (some (injRs [RT.d (Ty.sl ty68), RT.d (Ty.int Go.IntKind.i64)] (a0, (9 : Int)))) (l35_29 a0 (0 : Int) a1.fst a1.snd.fst a1.snd.snd.fst a1.snd.snd.snd)) (ifs (decide (r < (0 : Int)) = true) (some (injRs [RT.d (Ty.sl ty68), RT.d (Ty.int Go.IntKind.i64)] (a0, (9 : Int)))) (ifs ((0 : Int) ≤ r) (Option.bind a0[Int.toNat r]? fun r_3 => ifs (r_3.snd.fst = true) (some (injRs [RT.d (Ty.sl ty68), RT.d (Ty.int Go.IntKind.i64)] (a0, (11 : Int)))) (Option.bind (cR (nat_lit 40) [RT.d (Ty.int Go.IntKind.i64)] [inj (Ty.sl ty68) a0, inj Ty.str a1.snd.snd.fst]) fun r_4 => ifs (decide (r_4 ≥ (0 : Int)) = true) (some (injRs [RT.d (Ty.sl ty68), RT.d (Ty.int Go.IntKind.i64)] (a0, (10 : Int)))) (Option.bind (cR (nat_lit 41) [RT.d Ty.str] [inj Ty.str a1.snd.snd.fst]) fun r_5 => Option.bind (cR (nat_lit 92) [RT.d Ty.bool] [inj (Ty.sl ty68) a0, inj Ty.str r_5]) fun r_6 => ifs ((!r_6) = true) (some (injRs [RT.d (Ty.sl ty68), RT.d (Ty.int Go.IntKind.i64)] (a0, (9 : Int)))) (Option.bind (cR (nat_lit 95) [RT.own (68 : Go.TypeId) ty68] [inj (Ty.sl ty68) a0, inj Ty.str a1.snd.fst]) fun r_7 => ifs ((0 : Int) ≤ r) (Option.bind a0[Int.toNat r]? fun r => Option.bind (cR (nat_lit 93) [RT.own (68 : Go.TypeId) ty68] [inj (Ty.sl ty68) (List.take (List.length r_7) r_7), inj ty68 (a1.snd.snd.fst, false, r.snd.snd)]) fun r => some (injRs [RT.d (Ty.sl ty68), RT.d (Ty.int Go.IntKind.i64)] (List.take (List.length r) r, (0 : Int)))) none)))) none)))))))) (Option.bind (cR (nat_lit 40) [RT.d (Ty.int Go.IntKind.i64)] [inj (Ty.sl ty68) a0, inj Ty.str a1.snd.fst]) fun r => ifs (decide ((↑(List.length a0) : Int) ≥ (500 : Int)) = true) (Option.bind (cR (nat_lit 41) [RT.d Ty.str] [inj Ty.str a1.snd.fst]) fun r_1 => Option.bind (cR (nat_lit 92) [RT.d Ty.bool] [inj (Ty.sl ty68) a0, inj Ty.str r_1]) fun r_2 => ifs ((!r_2) = true) (ifs ((a1.fst == (0 : Int)) = true) (ifs (decide (r ≥ (0 : Int)) = true) (some (injRs [RT.d (Ty.sl ty68), RT.d (Ty.int Go.IntKind.i64)] (a0, (10 : Int)))) (some (injRs [RT.d (Ty.sl ty68), RT.d (Ty.int Go.IntKind.i64)] (a0, (9 : Int))))) (ifs ((a1.fst == (1 : Int)) = true) (ifs (decide (r ≥ (0 : Int)) = true) (ifs ((0 : Int) ≤ r) (Option.bind a0[Int.toNat r]? fun r_3 => ifs (r_3.snd.fst = true) (some (injRs [RT.d (Ty.sl ty68), RT.d (Ty.int Go.IntKind.i64)] (a0, (11 : Int)))) (Option.bind (cR (nat_lit 94) [RT.d (Ty.int Go.IntKind.i64)] [inj (Ty.sl Ty.str) a1.snd.snd.snd]) fun r_4 => ifs ((r_4 != (0 : Int)) = true) (some (injRs [RT.d (Ty.sl ty68), RT.d (Ty.int Go.IntKind.i64)] (a0, r_4))) (ifs (decide (r < (0 : Int)) = true) (some (injRs [RT.d (Ty.sl ty68), RT.d (Ty.int Go.IntKind.i64)] (a0, (9 : Int)))) (Option.bind (cR (nat_lit 93) [RT.own (68 : Go.TypeId) ty68] [inj (Ty.sl ty68) a0, inj ty68 (a1.snd.fst, false, a1.snd.snd.snd)]) fun r => some (injRs [RT.d (Ty.sl ty68), RT.d (Ty.int Go.IntKind.i64)] (List.take (List.length r) r, (0 : Int))))))) none) (Option.bind (cR (nat_lit 94) [RT.d (Ty.int Go.IntKind.i64)] [inj (Ty.sl Ty.str) a1.snd.snd.snd]) fun r_3 => ifs ((r_3 != (0 : Int)) = true) (some (injRs [RT.d (Ty.sl ty68), RT.d (Ty.int Go.IntKind.i64)] (a0, r_3))) (ifs (decide (r < (0 : Int)) = true) (some (injRs [RT.d (Ty.sl ty68), RT.d (Ty.int Go.IntKind.i64)] (a0, (9 : Int)))) (Option.bind (cR (nat_lit 93) [RT.own (68 : Go.TypeId) ty68] [inj (Ty.sl ty68) a0, inj ty68 (a1.snd.fst, false, a1.snd.snd.snd)]) fun r => some (injRs [RT.d (Ty.sl ty68), RT.d (Ty.int Go.IntKind.i64)] (List.take (List.length r) r, (0 : Int))))))) (ifs ((a1.fst == (2 : Int)) = true) (ifs (decide (r < (0 : Int)) = true) (some (injRs [RT.d (Ty.sl ty68), RT.d (Ty.int Go.IntKind.i64)] (a0, (9 : Int)))) (l35_29 a0 (0 : Int) a1.fst a1.snd.fst a1.snd.snd.fst a1.snd.snd.snd)) (ifs (decide (r < (0 : Int)) = true) (some (injRs [RT.d (Ty.sl ty68), RT.d (Ty.int Go.IntKind.i64)] (a0, (9 : Int)))) (ifs ((0 : Int) ≤ r) (Option.bind a0[Int.toNat r]? fun r_3 => ifs (r_3.snd.fst = true) (some (injRs [RT.d (Ty.sl ty68), RT.d (Ty.int Go.IntKind.i64)] (a0, (11 : Int)))) (Option.bind (cR (nat_lit 40) [RT.d (Ty.int Go.IntKind.i64)] [inj (Ty.sl ty68) a0, inj Ty.str a1.snd.snd.fst]) fun r_4 => ifs (decide (r_4 ≥ (0 : Int)) = true) (some (injRs [RT.d (Ty.sl ty68), RT.d (Ty.int Go.IntKind.i64)] (a0, (10 : Int)))) (Option.bind (cR (nat_lit 41) [RT.d Ty.str] [inj Ty.str a1.snd.snd.fst]) fun r_5 => Option.bind (cR (nat_lit 92) [RT.d Ty.bool] [inj (Ty.sl ty68) a0, inj Ty.str r_5]) fun r_6 => ifs ((!r_6) = true) (some (injRs [RT.d (Ty.sl ty68), RT.d (Ty.int Go.IntKind.i64)] (a0, (9 : Int)))) (Option.bind (cR (nat_lit 95) [RT.own (68 : Go.TypeId) ty68] [inj (Ty.sl ty68) a0, inj Ty.str a1.snd.fst]) fun r_7 => ifs ((0 : Int) ≤ r) (Option.bind a0[Int.toNat r]? fun r => Option.bind (cR (nat_lit 93) [RT.own (68 : Go.TypeId) ty68] [inj (Ty.sl ty68) (List.take (List.length r_7) r_7), inj ty68 (a1.snd.snd.fst, false, r.snd.snd)]) fun r => some (injRs [RT.d (Ty.sl ty68), RT.d (Ty.int Go.IntKind.i64)] (List.take (List.length r) r, (0 : Int)))) none)))) none))))) (ifs ((a1.fst == (0 : Int)) = true) (ifs (decide (r ≥ (0 : Int)) = true) (some (injRs [RT.d (Ty.sl ty68), RT.d (Ty.int Go.IntKind.i64)] (a0, (10 : Int)))) (some (injRs [RT.d (Ty.sl ty68), RT.d (Ty.int Go.IntKind.i64)] (a0, (4 : Int))))) (ifs ((a1.fst == (1 : Int)) = true) (ifs (decide (r ≥ (0 : Int)) = true) (ifs ((0 : Int) ≤ r) (Option.bind a0[Int.toNat r]? fun r_3 => ifs (r_3.snd.fst = true) (some (injRs [RT.d (Ty.sl ty68), RT.d (Ty.int Go.IntKind.i64)] (a0, (11 : Int)))) (Option.bind (cR (nat_lit 94) [RT.d (Ty.int Go.IntKind.i64)] [inj (Ty.sl Ty.str) a1.snd.snd.snd]) fun r_4 => ifs ((r_4 != (0 : Int)) = true) (some (injRs [RT.d (Ty.sl ty68), RT.d (Ty.int Go.IntKind.i64)] (a0, r_4))) (ifs (decide (r < (0 : Int)) = true) (some (injRs [RT.d (Ty.sl ty68), RT.d (Ty.int Go.IntKind.i64)] (a0, (4 : Int)))) (Option.bind (cR (nat_lit 93) [RT.own (68 : Go.TypeId) ty68] [inj (Ty.sl ty68) a0, inj ty68 (a1.snd.fst, false, a1.snd.snd.snd)]) fun r => some (injRs [RT.d (Ty.sl ty68), RT.d (Ty.int Go.IntKind.i64)] (List.take (List.length r) r, (0 : Int))))))) none) (Option.bind (cR (nat_lit 94) [RT.d (Ty.int Go.IntKind.i64)] [inj (Ty.sl Ty.str) a1.snd.snd.snd]) fun r_3 => ifs ((r_3 != (0 : Int)) = true) (some (injRs [RT.d (Ty.sl ty68), RT.d (Ty.int Go.IntKind.i64)] (a0, r_3))) (ifs (decide (r < (0 : Int)) = true) (some (injRs [RT.d (Ty.sl ty68), RT.d (Ty.int Go.IntKind.i64)] (a0, (4 : Int)))) (Option.bind (cR (nat_lit 93) [RT.own (68 : Go.TypeId) ty68] [inj (Ty.sl ty68) a0, inj ty68 (a1.snd.fst, false, a1.snd.snd.snd)]) fun r => some (injRs [RT.d (Ty.sl ty68), RT.d (Ty.int Go.IntKind.i64)] (List.take (List.length r) r, (0 : Int))))))) (ifs ((a1.fst == (2 : Int)) = true) (ifs (decide (r < (0 : Int)) = true) (some (injRs [RT.d (Ty.sl ty68), RT.d (Ty.int Go.IntKind.i64)] (a0, (9 : Int)))) (l35_29 a0 (0 : Int) a1.fst a1.snd.fst a1.snd.snd.fst a1.snd.snd.snd)) (ifs (decide (r < (0 : Int)) = true) (some (injRs [RT.d (Ty.sl ty68), RT.d (Ty.int Go.IntKind.i64)] (a0, (9 : Int)))) (ifs ((0 : Int) ≤ r) (Option.bind a0[Int.toNat r]? fun r_3 => ifs (r_3.snd.fst = true) (some (injRs [RT.d (Ty.sl ty68), RT.d (Ty.int Go.IntKind.i64)] (a0, (11 : Int)))) (Option.bind (cR (nat_lit 40) [RT.d (Ty.int Go.IntKind.i64)] [inj (Ty.sl ty68) a0, inj Ty.str a1.snd.snd.fst]) fun r_4 => ifs (decide (r_4 ≥ (0 : Int)) = true) (some (injRs [RT.d (Ty.sl ty68), RT.d (Ty.int Go.IntKind.i64)] (a0, (10 : Int)))) (Option.bind (cR (nat_lit 41) [RT.d Ty.str] [inj Ty.str a1.snd.snd.fst]) fun r_5 => Option.bind (cR (nat_lit 92) [RT.d Ty.bool] [inj (Ty.sl ty68) a0, inj Ty.str r_5]) fun r_6 => ifs ((!r_6) = true) (some (injRs [RT.d (Ty.sl ty68), RT.d (Ty.int Go.IntKind.i64)] (a0, (9 : Int)))) (Option.bind (cR (nat_lit 95) [RT.own (68 : Go.TypeId) ty68] [inj (Ty.sl ty68) a0, inj Ty.str a1.snd.fst]) fun r_7 => ifs ((0 : Int) ≤ r) (Option.bind a0[Int.toNat r]? fun r => Option.bind (cR (nat_lit 93) [RT.own (68 : Go.TypeId) ty68] [inj (Ty.sl ty68) (List.take (List.length r_7) r_7), inj ty68 (a1.snd.snd.fst, false, r.snd.snd)]) fun r => some (injRs [RT.d (Ty.sl ty68), RT.d (Ty.int Go.IntKind.i64)] (List.take (List.length r) r, (0 : Int)))) none)))) none)))))) (Option.bind (cR (nat_lit 41) [RT.d Ty.str] [inj Ty.str a1.snd.fst]) fun r_1 => Option.bind (cR (nat_lit 92) [RT.d Ty.bool] [inj (Ty.sl ty68) a0, inj Ty.str r_1]) fun r_2 => ifs ((!r_2) = true) (ifs ((a1.fst == (0 : Int)) = true) (ifs (decide (r ≥ (0 : Int)) = true) (some (injRs [RT.d (Ty.sl ty68), RT.d (Ty.int Go.IntKind.i64)] (a0, (10 : Int)))) (some (injRs [RT.d (Ty.sl ty68), RT.d (Ty.int Go.IntKind.i64)] (a0, (9 : Int))))) (ifs ((a1.fst == (1 : Int)) = true) (ifs (decide (r ≥ (0 : Int)) = true) (ifs ((0 : Int) ≤ r) (Option.bind a0[Int.toNat r]? fun r_3 => ifs (r_3.snd.fst = true) (some (injRs [RT.d (Ty.sl ty68), RT.d (Ty.int Go.IntKind.i64)] (a0, (11 : Int)))) (Option.bind (cR (nat_lit 94) [RT.d (Ty.int Go.IntKind.i64)] [inj (Ty.sl Ty.str) a1.snd.snd.snd]) fun r_4 => ifs ((r_4 != (0 : Int)) = true) (some (injRs [RT.d (Ty.sl ty68), RT.d (Ty.int Go.IntKind.i64)] (a0, r_4))) (ifs (decide (r < (0 : Int)) = true) (some (injRs [RT.d (Ty.sl ty68), RT.d (Ty.int Go.IntKind.i64)] (a0, (9 : Int)))) (Option.bind (cR (nat_lit 93) [RT.own (68 : Go.TypeId) ty68] [inj (Ty.sl ty68) a0, inj ty68 (a1.snd.fst, false, a1.snd.snd.snd)]) fun r => some (injRs [RT.d (Ty.sl ty68), RT.d (Ty.int Go.IntKind.i64)] (List.take (List.length r) r, (0 : Int))))))) none) (Option.bind (cR (nat_lit 94) [RT.d (Ty.int Go.IntKind.i64)] [inj (Ty.sl Ty.str) a1.snd.snd.snd]) fun r_3 => ifs ((r_3 != (0 : Int)) = true) (some (injRs [RT.d (Ty.sl ty68), RT.d (Ty.int Go.IntKind.i64)] (a0, r_3))) (ifs (decide (r < (0 : Int)) = true) (some (injRs [RT.d (Ty.sl ty68), RT.d (Ty.int Go.IntKind.i64)] (a0, (9 : Int)))) (Option.bind (cR (nat_lit 93) [RT.own (68 : Go.TypeId) ty68] [inj (Ty.sl ty68) a0, inj ty68 (a1.snd.fst, false, a1.snd.snd.snd)]) fun r => some (injRs [RT.d (Ty.sl ty68), RT.d (Ty.int Go.IntKind.i64)] (List.take (List.length r) r, (0 : Int))))))) (ifs ((a1.fst == (2 : Int)) = true) (ifs (decide (r < (0 : Int)) = true) (some (injRs [RT.d (Ty.sl ty68), RT.d (Ty.int Go.IntKind.i64)] (a0, (9 : Int)))) (l35_29 a0 (0 : Int) a1.fst a1.snd.fst a1.snd.snd.fst a1.snd.snd.snd)) (ifs (decide (r < (0 : Int)) = true) (some (injRs [RT.d (Ty.sl ty68), RT.d (Ty.int Go.IntKind.i64)] (a0, (9 : Int)))) (ifs ((0 : Int) ≤ r) (Option.bind a0[Int.toNat r]? fun r_3 => ifs (r_3.snd.fst = true) (some (injRs [RT.d (Ty.sl ty68), RT.d (Ty.int Go.IntKind.i64)] (a0, (11 : Int)))) (Option.bind (cR (nat_lit 40) [RT.d (Ty.int Go.IntKind.i64)] [inj (Ty.sl ty68) a0, inj Ty.str a1.snd.snd.fst]) fun r_4 => ifs (decide (r_4 ≥ (0 : Int)) = true) (some (injRs [RT.d (Ty.sl ty68), RT.d (Ty.int Go.IntKind.i64)] (a0, (10 : Int)))) (Option.bind (cR (nat_lit 41) [RT.d Ty.str] [inj Ty.str a1.snd.snd.fst]) fun r_5 => Option.bind (cR (nat_lit 92) [RT.d Ty.bool] [inj (Ty.sl ty68) a0, inj Ty.str r_5]) fun r_6 => ifs ((!r_6) = true) (some (injRs [RT.d (Ty.sl ty68), RT.d (Ty.int Go.IntKind.i64)] (a0, (9 : Int)))) (Option.bind (cR (nat_lit 95) [RT.own (68 : Go.TypeId) ty68] [inj (Ty.sl ty68) a0, inj Ty.str a1.snd.fst]) fun r_7 => ifs ((0 : Int) ≤ r) (Option.bind a0[Int.toNat r]? fun r => Option.bind (cR (nat_lit 93) [RT.own (68 : Go.TypeId) ty68] [inj (Ty.sl ty68) (List.take (List.length r_7) r_7), inj ty68 (a1.snd.snd.fst, false, r.snd.snd)]) fun r => some (injRs [RT.d (Ty.sl ty68), RT.d (Ty.int Go.IntKind.i64)] (List.take (List.length r) r, (0 : Int)))) none)))) none))))) (ifs ((a1.fst == (0 : Int)) = true) (ifs (decide (r ≥ (0 : Int)) = true) (some (injRs [RT.d (Ty.sl ty68), RT.d (Ty.int Go.IntKind.i64)] (a0, (10 : Int)))) (Option.bind (cR (nat_lit 93) [RT.own (68 : Go.TypeId) ty68] [inj (Ty.sl ty68) a0, inj ty68 (a1.snd.fst, true, [])]) fun r => some (injRs [RT.d (Ty.sl ty68), RT.d (Ty.int Go.IntKind.i64)] (List.take (List.length r) r, (0 : Int))))) (ifs ((a1.fst == (1 : Int)) = true) (ifs (decide (r ≥ (0 : Int)) = true) (ifs ((0 : Int) ≤ r) (Option.bind a0[Int.toNat r]? fun r_3 => ifs (r_3.snd.fst = true) (some (injRs [RT.d (Ty.sl ty68), RT.d (Ty.int Go.IntKind.i64)] (a0, (11 : Int)))) (Option.bind (cR (nat_lit 94) [RT.d (Ty.int Go.IntKind.i64)] [inj (Ty.sl Ty.str) a1.snd.snd.snd]) fun r_4 => ifs ((r_4 != (0 : Int)) = true) (some (injRs [RT.d (Ty.sl ty68), RT.d (Ty.int Go.IntKind.i64)] (a0, r_4))) (ifs (decide (r < (0 : Int)) = true) (Option.bind (cR (nat_lit 93) [RT.own (68 : Go.TypeId) ty68] [inj (Ty.sl ty68) a0, inj ty68 (a1.snd.fst, false, a1.snd.snd.snd)]) fun r => some (injRs [RT.d (Ty.sl ty68), RT.d (Ty.int Go.IntKind.i64)] (List.take (List.length r) r, (0 : Int)))) (Option.bind (cR (nat_lit 93) [RT.own (68 : Go.TypeId) ty68] [inj (Ty.sl ty68) a0, inj ty68 (a1.snd.fst, false, a1.snd.snd.snd)]) fun r => some (injRs [RT.d (Ty.sl ty68), RT.d (Ty.int Go.IntKind.i64)] (List.take (List.length r) r, (0 : Int))))))) none) (Option.bind (cR (nat_lit 94) [RT.d (Ty.int Go.IntKind.i64)] [inj (Ty.sl Ty.str) a1.snd.snd.snd]) fun r_3 => ifs ((r_3 != (0 : Int)) = true) (some (injRs [RT.d (Ty.sl ty68), RT.d (Ty.int Go.IntKind.i64)] (a0, r_3))) (ifs (decide (r < (0 : Int)) = true) (Option.bind (cR (nat_lit 93) [RT.own (68 : Go.TypeId) ty68] [inj (Ty.sl ty68) a0, inj ty68 (a1.snd.fst, false, a1.snd.snd.snd)]) fun r => some (injRs [RT.d (Ty.sl ty68), RT.d (Ty.int Go.IntKind.i64)] (List.take (List.length r) r, (0 : Int)))) (Option.bind (cR (nat_lit 93) [RT.own (68 : Go.TypeId) ty68] [inj (Ty.sl ty68) a0, inj ty68 (a1.snd.fst, false, a1.snd.snd.snd)]) fun r => some (injRs [RT.d (Ty.sl ty68), RT.d (Ty.int Go.IntKind.i64)] (List.take (List.length r) r, (0 : Int))))))) (ifs ((a1.fst == (2 : Int)) = true) (ifs (decide (r < (0 : Int)) = true) (some (injRs [RT.d (Ty.sl ty68), RT.d (Ty.int Go.IntKind.i64)] (a0, (9 : Int)))) (l35_29 a0 (0 : Int) a1.fst a1.snd.fst a1.snd.snd.fst a1.snd.snd.snd)) (ifs (decide (r < (0 : Int)) = true) (some (injRs [RT.d (Ty.sl ty68), RT.d (Ty.int Go.IntKind.i64)] (a0, (9 : Int)))) (ifs ((0 : Int) ≤ r) (Option.bind a0[Int.toNat r]? fun r_3 => ifs (r_3.snd.fst = true) (some (injRs [RT.d (Ty.sl ty68), RT.d (Ty.int Go.IntKind.i64)] (a0, (11 : Int)))) (Option.bind (cR (nat_lit 40) [RT.d (Ty.int Go.IntKind.i64)] [inj (Ty.sl ty68) a0, inj Ty.str a1.snd.snd.fst]) fun r_4 => ifs (decide (r_4 ≥ (0 : Int)) = true) (some (injRs [RT.d (Ty.sl ty68), RT.d (Ty.int Go.IntKind.i64)] (a0, (10 : Int)))) (Option.bind (cR (nat_lit 41) [RT.d Ty.str] [inj Ty.str a1.snd.snd.fst]) fun r_5 => Option.bind (cR (nat_lit 92) [RT.d Ty.bool] [inj (Ty.sl ty68) a0, inj Ty.str r_5]) fun r_6 => ifs ((!r_6) = true) (some (injRs [RT.d (Ty.sl ty68), RT.d (Ty.int Go.IntKind.i64)] (a0, (9 : Int)))) (Option.bind (cR (nat_lit 95) [RT.own (68 : Go.TypeId) ty68] [inj (Ty.sl ty68) a0, inj Ty.str a1.snd.fst]) fun r_7 => ifs ((0 : Int) ≤ r) (Option.bind a0[Int.toNat r]? fun r => Option.bind (cR (nat_lit 93) [RT.own (68 : Go.TypeId) ty68] [inj (Ty.sl ty68) (List.take (List.length r_7) r_7), inj ty68 (a1.snd.snd.fst, false, r.snd.snd)]) fun r => some (injRs [RT.d (Ty.sl ty68), RT.d (Ty.int Go.IntKind.i64)] (List.take (List.length r) r, (0 : Int)))) none)))) none)))))))) (Option.bind (cR (nat_lit 79) [RT.d Ty.bool] [inj Ty.str a1.snd.snd.fst]) fun r => ifs ((!r) = true) (some (injRs [RT.d (Ty.sl ty68), RT.d (Ty.int Go.IntKind.i64)] (a0, (8 : Int)))) (Option.bind (cR (nat_lit 40) [RT.d (Ty.int Go.IntKind.i64)] [inj (Ty.sl ty68) a0, inj Ty.str a1.snd.fst]) fun r => ifs (decide ((↑(List.length a0) : Int) ≥ (500 : Int)) = true) (Option.bind (cR (nat_lit 41) [RT.d Ty.str] [inj Ty.str a1.snd.fst]) fun r_1 => Option.bind (cR (nat_lit 92) [RT.d Ty.bool] [inj (Ty.sl ty68) a0, inj Ty.str r_1]) fun r_2 => ifs ((!r_2) = true) (ifs ((a1.fst == (0 : Int)) = true) (ifs (decide (r ≥ (0 : Int)) = true) (some (injRs [RT.d (Ty.sl ty68), RT.d (Ty.int Go.IntKind.i64)] (a0, (10 : Int)))) (some (injRs [RT.d (Ty.sl ty68), RT.d (Ty.int Go.IntKind.i64)] (a0, (9 : Int))))) (ifs ((a1.fst == (1 : Int)) = true) (ifs (decide (r ≥ (0 : Int)) = true) (ifs ((0 : Int) ≤ r) (Option.bind a0[Int.toNat r]? fun r_3 => ifs (r_3.snd.fst = true) (some (injRs [RT.d (Ty.sl ty68), RT.d (Ty.int Go.IntKind.i64)] (a0, (11 : Int)))) (Option.bind (cR (nat_lit 94) [RT.d (Ty.int Go.IntKind.i64)] [inj (Ty.sl Ty.str) a1.snd.snd.snd]) fun r_4 => ifs ((r_4 != (0 : Int)) = true) (some (injRs [RT.d (Ty.sl ty68), RT.d (Ty.int Go.IntKind.i64)] (a0, r_4))) (ifs (decide (r < (0 : Int)) = true) (some (injRs [RT.d (Ty.sl ty68), RT.d (Ty.int Go.IntKind.i64)] (a0, (9 : Int)))) (Option.bind (cR (nat_lit 93) [RT.own (68 : Go.TypeId) ty68] [inj (Ty.sl ty68) a0, inj ty68 (a1.snd.fst, false, a1.snd.snd.snd)]) fun r => some (injRs [RT.d (Ty.sl ty68), RT.d (Ty.int Go.IntKind.i64)] (List.take (List.length r) r, (0 : Int))))))) none) (Option.bind (cR (nat_lit 94) [RT.d (Ty.int Go.IntKind.i64)] [inj (Ty.sl Ty.str) a1.snd.snd.snd]) fun r_3 => ifs ((r_3 != (0 : Int)) = true) (some (injRs [RT.d (Ty.sl ty68), RT.d (Ty.int Go.IntKind.i64)] (a0, r_3))) (ifs (decide (r < (0 : Int)) = true) (some (injRs [RT.d (Ty.sl ty68), RT.d (Ty.int Go.IntKind.i64)] (a0, (9 : Int)))) (Option.bind (cR (nat_lit 93) [RT.own (68 : Go.TypeId) ty68] [inj (Ty.sl ty68) a0, inj ty68 (a1.snd.fst, false, a1.snd.snd.snd)]) fun r => some (injRs [RT.d (Ty.sl ty68), RT.d (Ty.int Go.IntKind.i64)] (List.take (List.length r) r, (0 : Int))))))) (ifs ((a1.fst == (2 : Int)) = true) (ifs (decide (r < (0 : Int)) = true) (some (injRs [RT.d (Ty.sl ty68), RT.d (Ty.int Go.IntKind.i64)] (a0, (9 : Int)))) (l35_29 a0 (0 : Int) a1.fst a1.snd.fst a1.snd.snd.fst a1.snd.snd.snd)) (ifs (decide (r < (0 : Int)) = true) (some (injRs [RT.d (Ty.sl ty68), RT.d (Ty.int Go.IntKind.i64)] (a0, (9 : Int)))) (ifs ((0 : Int) ≤ r) (Option.bind a0[Int.toNat r]? fun r_3 => ifs (r_3.snd.fst = true) (some (injRs [RT.d (Ty.sl ty68), RT.d (Ty.int Go.IntKind.i64)] (a0, (11 : Int)))) (Option.bind (cR (nat_lit 40) [RT.d (Ty.int Go.IntKind.i64)] [inj (Ty.sl ty68) a0, inj Ty.str a1.snd.snd.fst]) fun r_4 => ifs (decide (r_4 ≥ (0 : Int)) = true) (some (injRs [RT.d (Ty.sl ty68), RT.d (Ty.int Go.IntKind.i64)] (a0, (10 : Int)))) (Option.bind (cR (nat_lit 41) [RT.d Ty.str] [inj Ty.str a1.snd.snd.fst]) fun r_5 => Option.bind (cR (nat_lit 92) [RT.d Ty.bool] [inj (Ty.sl ty68) a0, inj Ty.str r_5]) fun r_6 => ifs ((!r_6) = true) (some (injRs [RT.d (Ty.sl ty68), RT.d (Ty.int Go.IntKind.i64)] (a0, (9 : Int)))) (Option.bind (cR (nat_lit 95) [RT.own (68 : Go.TypeId) ty68] [inj (Ty.sl ty68) a0, inj Ty.str a1.snd.fst]) fun r_7 => ifs ((0 : Int) ≤ r) (Option.bind a0[Int.toNat r]? fun r => Option.bind (cR (nat_lit 93) [RT.own (68 : Go.TypeId) ty68] [inj (Ty.sl ty68) (List.take (List.length r_7) r_7), inj ty68 (a1.snd.snd.fst, false, r.snd.snd)]) fun r => some (injRs [RT.d (Ty.sl ty68), RT.d (Ty.int Go.IntKind.i64)] (List.take (List.length r) r, (0 : Int)))) none)))) none))))) (ifs ((a1.fst == (0 : Int)) = true) (ifs (decide (r ≥ (0 : Int)) = true) (some (injRs [RT.d (Ty.sl ty68), RT.d (Ty.int Go.IntKind.i64)] (a0, (10 : Int)))) (some (injRs [RT.d (Ty.sl ty68), RT.d (Ty.int Go.IntKind.i64)] (a0, (4 : Int))))) (ifs ((a1.fst == (1 : Int)) = true) (ifs (decide (r ≥ (0 : Int)) = true) (ifs ((0 : Int) ≤ r) (Option.bind a0[Int.toNat r]? fun r_3 => ifs (r_3.snd.fst = true) (some (injRs [RT.d (Ty.sl ty68), RT.d (Ty.int Go.IntKind.i64)] (a0, (11 : Int)))) (Option.bind (cR (nat_lit 94) [RT.d (Ty.int Go.IntKind.i64)] [inj (Ty.sl Ty.str) a1.snd.snd.snd]) fun r_4 => ifs ((r_4 != (0 : Int)) = true) (some (injRs [RT.d (Ty.sl ty68), RT.d (Ty.int Go.IntKind.i64)] (a0, r_4))) (ifs (decide (r < (0 : Int)) = true) (some (injRs [RT.d (Ty.sl ty68), RT.d (Ty.int Go.IntKind.i64)] (a0, (4 : Int)))) (Option.bind (cR (nat_lit 93) [RT.own (68 : Go.TypeId) ty68] [inj (Ty.sl ty68) a0, inj ty68 (a1.snd.fst, false, a1.snd.snd.snd)]) fun r => some (injRs [RT.d (Ty.sl ty68), RT.d (Ty.int Go.IntKind.i64)] (List.take (List.length r) r, (0 : Int))))))) none) (Option.bind (cR (nat_lit 94) [RT.d (Ty.int Go.IntKind.i64)] [inj (Ty.sl Ty.str) a1.snd.snd.snd]) fun r_3 => ifs ((r_3 != (0 : Int)) = true) (some (injRs [RT.d (Ty.sl ty68), RT.d (Ty.int Go.IntKind.i64)] (a0, r_3))) (ifs (decide (r < (0 : Int)) = true) (some (injRs [RT.d (Ty.sl ty68), RT.d (Ty.int Go.IntKind.i64)] (a0, (4 : Int)))) (Option.bind (cR (nat_lit 93) [RT.own (68 : Go.TypeId) ty68] [inj (Ty.sl ty68) a0, inj ty68 (a1.snd.fst, false, a1.snd.snd.snd)]) fun r => some (injRs [RT.d (Ty.sl ty68), RT.d (Ty.int Go.IntKind.i64)] (List.take (List.length r) r, (0 : Int))))))) (ifs ((a1.fst == (2 : Int)) = true) (ifs (decide (r < (0 : Int)) = true) (some (injRs [RT.d (Ty.sl ty68), RT.d (Ty.int Go.IntKind.i64)] (a0, (9 : Int)))) (l35_29 a0 (0 : Int) a1.fst a1.snd.fst a1.snd.snd.fst a1.snd.snd.snd)) (ifs (decide (r < (0 : Int)) = true) (some (injRs [RT.d (Ty.sl ty68), RT.d (Ty.int Go.IntKind.i64)] (a0, (9 : Int)))) (ifs ((0 : Int) ≤ r) (Option.bind a0[Int.toNat r]? fun r_3 => ifs (r_3.snd.fst = true) (some (injRs [RT.d (Ty.sl ty68), RT.d (Ty.int Go.IntKind.i64)] (a0, (11 : Int)))) (Option.bind (cR (nat_lit 40) [RT.d (Ty.int Go.IntKind.i64)] [inj (Ty.sl ty68) a0, inj Ty.str a1.snd.snd.fst]) fun r_4 => ifs (decide (r_4 ≥ (0 : Int)) = true) (some (injRs [RT.d (Ty.sl ty68), RT.d (Ty.int Go.IntKind.i64)] (a0, (10 : Int)))) (Option.bind (cR (nat_lit 41) [RT.d Ty.str] [inj Ty.str a1.snd.snd.fst]) fun r_5 => Option.bind (cR (nat_lit 92) [RT.d Ty.bool] [inj (Ty.sl ty68) a0, inj Ty.str r_5]) fun r_6 => ifs ((!r_6) = true) (some (injRs [RT.d (Ty.sl ty68), RT.d (Ty.int Go.IntKind.i64)] (a0, (9 : Int)))) (Option.bind (cR (nat_lit 95) [RT.own (68 : Go.TypeId) ty68] [inj (Ty.sl ty68) a0, inj Ty.str a1.snd.fst]) fun r_7 => ifs ((0 : Int) ≤ r) (Option.bind a0[Int.toNat r]? fun r => Option.bind (cR (nat_lit 93) [RT.own (68 : Go.TypeId) ty68] [inj (Ty.sl ty68) (List.take (List.length r_7) r_7), inj ty68 (a1.snd.snd.fst, false, r.snd.snd)]) fun r => some (injRs [RT.d (Ty.sl ty68), RT.d (Ty.int Go.IntKind.i64)] (List.take (List.length r) r, (0 : Int)))) none)))) none)))))) (Option.bind (cR (nat_lit 41) [RT.d Ty.str] [inj Ty.str a1.snd.fst]) fun r_1 => Option.bind (cR (nat_lit 92) [RT.d Ty.bool] [inj (Ty.sl ty68) a0, inj Ty.str r_1]) fun r_2 => ifs ((!r_2) = true) (ifs ((a1.fst == (0 : Int)) = true) (ifs (decide (r ≥ (0 : Int)) = true) (some (injRs [RT.d (Ty.sl ty68), RT.d (Ty.int Go.IntKind.i64)] (a0, (10 : Int)))) (some (injRs [RT.d (Ty.sl ty68), RT.d (Ty.int Go.IntKind.i64)] (a0, (9 : Int))))) (ifs ((a1.fst == (1 : Int)) = true) (ifs (decide (r ≥ (0 : Int)) = true) (ifs ((0 : Int) ≤ r) (Option.bind a0[Int.toNat r]? fun r_3 => ifs (r_3.snd.fst = true) (some (injRs [RT.d (Ty.sl ty68), RT.d (Ty.int Go.IntKind.i64)] (a0, (11 : Int)))) (Option.bind (cR (nat_lit 94) [RT.d (Ty.int Go.IntKind.i64)] [inj (Ty.sl Ty.str) a1.snd.snd.snd]) fun r_4 => ifs ((r_4 != (0 : Int)) = true) (some (injRs [RT.d (Ty.sl ty68), RT.d (Ty.int Go.IntKind.i64)] (a0, r_4))) (ifs (decide (r < (0 : Int)) = true) (some (injRs [RT.d (Ty.sl ty68), RT.d (Ty.int Go.IntKind.i64)] (a0, (9 : Int)))) (Option.bind (cR (nat_lit 93) [RT.own (68 : Go.TypeId) ty68] [inj (Ty.sl ty68) a0, inj ty68 (a1.snd.fst, false, a1.snd.snd.snd)]) fun r => some (injRs [RT.d (Ty.sl ty68), RT.d (Ty.int Go.IntKind.i64)] (List.take (List.length r) r, (0 : Int))))))) none) (Option.bind (cR (nat_lit 94) [RT.d (Ty.int Go.IntKind.i64)] [inj (Ty.sl Ty.str) a1.snd.snd.snd]) fun r_3 => ifs ((r_3 != (0 : Int)) = true) (some (injRs [RT.d (Ty.sl ty68), RT.d (Ty.int Go.IntKind.i64)] (a0, r_3))) (ifs (decide (r < (0 : Int)) = true) (some (injRs [RT.d (Ty.sl ty68), RT.d (Ty.int Go.IntKind.i64)] (a0, (9 : Int)))) (Option.bind (cR (nat_lit 93) [RT.own (68 : Go.TypeId) ty68] [inj (Ty.sl ty68) a0, inj ty68 (a1.snd.fst, false, a1.snd.snd.snd)]) fun r => some (injRs [RT.d (Ty.sl ty68), RT.d (Ty.int Go.IntKind.i64)] (List.take (List.length r) r, (0 : Int))))))) (ifs ((a1.fst == (2 : Int)) = true) (ifs (decide (r < (0 : Int)) = true) (some (injRs [RT.d (Ty.sl ty68), RT.d (Ty.int Go.IntKind.i64)] (a0, (9 : Int)))) (l35_29 a0 (0 : Int) a1.fst a1.snd.fst a1.snd.snd.fst a1.snd.snd.snd)) (ifs (decide (r < (0 : Int)) = true) (some (injRs [RT.d (Ty.sl ty68), RT.d (Ty.int Go.IntKind.i64)] (a0, (9 : Int)))) (ifs ((0 : Int) ≤ r) (Option.bind a0[Int.toNat r]? fun r_3 => ifs (r_3.snd.fst = true) (some (injRs [RT.d (Ty.sl ty68), RT.d (Ty.int Go.IntKind.i64)] (a0, (11 : Int)))) (Option.bind (cR (nat_lit 40) [RT.d (Ty.int Go.IntKind.i64)] [inj (Ty.sl ty68) a0, inj Ty.str a1.snd.snd.fst]) fun r_4 => ifs (decide (r_4 ≥ (0 : Int)) = true) (some (injRs [RT.d (Ty.sl ty68), RT.d (Ty.int Go.IntKind.i64)] (a0, (10 : Int)))) (Option.bind (cR (nat_lit 41) [RT.d Ty.str] [inj Ty.str a1.snd.snd.fst]) fun r_5 => Option.bind (cR (nat_lit 92) [RT.d Ty.bool] [inj (Ty.sl ty68) a0, inj Ty.str r_5]) fun r_6 => ifs ((!r_6) = true) (some (injRs [RT.d (Ty.sl ty68), RT.d (Ty.int Go.IntKind.i64)] (a0, (9 : Int)))) (Option.bind (cR (nat_lit 95) [RT.own (68 : Go.TypeId) ty68] [inj (Ty.sl ty68) a0, inj Ty.str a1.snd.fst]) fun r_7 => ifs ((0 : Int) ≤ r) (Option.bind a0[Int.toNat r]? fun r => Option.bind (cR (nat_lit 93) [RT.own (68 : Go.TypeId) ty68] [inj (Ty.sl ty68) (List.take (List.length r_7) r_7), inj ty68 (a1.snd.snd.fst, false, r.snd.snd)]) fun r => some (injRs [RT.d (Ty.sl ty68), RT.d (Ty.int Go.IntKind.i64)] (List.take (List.length r) r, (0 : Int)))) none)))) none))))) (ifs ((a1.fst == (0 : Int)) = true) (ifs (decide (r ≥ (0 : Int)) = true) (some (injRs [RT.d (Ty.sl ty68), RT.d (Ty.int Go.IntKind.i64)] (a0, (10 : Int)))) (Option.bind (cR (nat_lit 93) [RT.own (68 : Go.TypeId) ty68] [inj (Ty.sl ty68) a0, inj ty68 (a1.snd.fst, true, [])]) fun r => some (injRs [RT.d (Ty.sl ty68), RT.d (Ty.int Go.IntKind.i64)] (List.take (List.length r) r, (0 : Int))))) (ifs ((a1.fst == (1 : Int)) = true) (ifs (decide (r ≥ (0 : Int)) = true) (ifs ((0 : Int) ≤ r) (Option.bind a0[Int.toNat r]? fun r_3 => ifs (r_3.snd.fst = true) (some (injRs [RT.d (Ty.sl ty68), RT.d (Ty.int Go.IntKind.i64)] (a0, (11 : Int)))) (Option.bind (cR (nat_lit 94) [RT.d (Ty.int Go.IntKind.i64)] [inj (Ty.sl Ty.str) a1.snd.snd.snd]) fun r_4 => ifs ((r_4 != (0 : Int)) = true) (some (injRs [RT.d (Ty.sl ty68), RT.d (Ty.int Go.IntKind.i64)] (a0, r_4))) (ifs (decide (r < (0 : Int)) = true) (Option.bind (cR (nat_lit 93) [RT.own (68 : Go.TypeId) ty68] [inj (Ty.sl ty68) a0, inj ty68 (a1.snd.fst, false, a1.snd.snd.snd)]) fun r => some (injRs [RT.d (Ty.sl ty68), RT.d (Ty.int Go.IntKind.i64)] (List.take (List.length r) r, (0 : Int)))) (Option.bind (cR (nat_lit 93) [RT.own (68 : Go.TypeId) ty68] [inj (Ty.sl ty68) a0, inj ty68 (a1.snd.fst, false, a1.snd.snd.snd)]) fun r => some (injRs [RT.d (Ty.sl ty68), RT.d (Ty.int Go.IntKind.i64)] (List.take (List.length r) r, (0 : Int))))))) none) (Option.bind (cR (nat_lit 94) [RT.d (Ty.int Go.IntKind.i64)] [inj (Ty.sl Ty.str) a1.snd.snd.snd]) fun r_3 => ifs ((r_3 != (0 : Int)) = true) (some (injRs [RT.d (Ty.sl ty68), RT.d (Ty.int Go.IntKind.i64)] (a0, r_3))) (ifs (decide (r < (0 : Int)) = true) (Option.bind (cR (nat_lit 93) [RT.own (68 : Go.TypeId) ty68] [inj (Ty.sl ty68) a0, inj ty68 (a1.snd.fst, false, a1.snd.snd.snd)]) fun r => some (injRs [RT.d (Ty.sl ty68), RT.d (Ty.int Go.IntKind.i64)] (List.take (List.length r) r, (0 : Int)))) (Option.bind (cR (nat_lit 93) [RT.own (68 : Go.TypeId) ty68] [inj (Ty.sl ty68) a0, inj ty68 (a1.snd.fst, false, a1.snd.snd.snd)]) fun r => some (injRs [RT.d (Ty.sl ty68), RT.d (Ty.int Go.IntKind.i64)] (List.take (List.length r) r, (0 : Int))))))) (ifs ((a1.fst == (2 : Int)) = true) (ifs (decide (r < (0 : Int)) = true) (some (injRs [RT.d (Ty.sl ty68), RT.d (Ty.int Go.IntKind.i64)] (a0, (9 : Int)))) (l35_29 a0 (0 : Int) a1.fst a1.snd.fst a1.snd.snd.fst a1.snd.snd.snd)) (ifs (decide (r < (0 : Int)) = true) (some (injRs [RT.d (Ty.sl ty68), RT.d (Ty.int Go.IntKind.i64)] (a0, (9 : Int)))) (ifs ((0 : Int) ≤ r) (Option.bind a0[Int.toNat r]? fun r_3 => ifs (r_3.snd.fst = true) (some (injRs [RT.d (Ty.sl ty68), RT.d (Ty.int Go.IntKind.i64)] (a0, (11 : Int)))) (Option.bind (cR (nat_lit 40) [RT.d (Ty.int Go.IntKind.i64)] [inj (Ty.sl ty68) a0, inj Ty.str a1.snd.snd.fst]) fun r_4 => ifs (decide (r_4 ≥ (0 : Int)) = true) (some (injRs [RT.d (Ty.sl ty68), RT.d (Ty.int Go.IntKind.i64)] (a0, (10 : Int)))) (Option.bind (cR (nat_lit 41) [RT.d Ty.str] [inj Ty.str a1.snd.snd.fst]) fun r_5 => Option.bind (cR (nat_lit 92) [RT.d Ty.bool] [inj (Ty.sl ty68) a0, inj Ty.str r_5]) fun r_6 => ifs ((!r_6) = true) (some (injRs [RT.d (Ty.sl ty68), RT.d (Ty.int Go.IntKind.i64)] (a0, (9 : Int)))) (Option.bind (cR (nat_lit 95) [RT.own (68 : Go.TypeId) ty68] [inj (Ty.sl ty68) a0, inj Ty.str a1.snd.fst]) fun r_7 => ifs ((0 : Int) ≤ r) (Option.bind a0[Int.toNat r]? fun r => Option.bind (cR (nat_lit 93) [RT.own (68 : Go.TypeId) ty68] [inj (Ty.sl ty68) (List.take (List.length r_7) r_7), inj ty68 (a1.snd.snd.fst, false, r.snd.snd)]) fun r => some (injRs [RT.d (Ty.sl ty68), RT.d (Ty.int Go.IntKind.i64)] (List.take (List.length r) r, (0 : Int)))) none)))) none))))))))) (some (injRs [RT.d (Ty.sl ty68), RT.d (Ty.int Go.IntKind.i64)] (a0, (8 : Int)))) := by kernel_rfl
theorem q35_29 (x0 : List (ByteArray × Bool × List ByteArray)) (x1 : Int) (x2 : Int) (x3 : ByteArray) (x4 : ByteArray) (x5 : List ByteArray) : cutG W0 (callW W0) (cutW W0) n35 td35_29 { fr := [((0 : Nat), F.a (A.c (C.sl ty68 x0))), ((3 : Nat), F.a (A.c (C.pt (Pt.own (0 : Nat) (0 : Nat) (0 : Nat))))), ((9 : Nat), F.a (A.c (C.sc (Go.Value.int Go.IntKind.i64 x1))))], mem := [some (Row.box (57 : Nat) (some ty57) [C.sc (Go.Value.int Go.IntKind.i64 x2), C.sc (Go.Value.string x3), C.sc (Go.Value.string x4), C.sl Ty.str x5] false)], nx := (1 : Nat) } = ifs (decide (x1 < (↑(List.length x0) : Int)) = true) (ifs ((0 : Int) ≤ x1) (Option.bind x0[Int.toNat x1]? fun r => Option.bind (cR (nat_lit 41) [RT.d Ty.str] [inj Ty.str r.fst]) fun r => ifs ((ByteArray.toList r == ByteArray.toList x3) = true) (some (injRs [RT.d (Ty.sl ty68), RT.d (Ty.int Go.IntKind.i64)] (x0, (12 : Int)))) (l35_29 x0 (Go.IntKind.wrap Go.IntKind.i64 (x1 + (1 : Int))) x2 x3 x4 x5)) none) (Option.bind (cR (nat_lit 95) [RT.own (68 : Go.TypeId) ty68] [inj (Ty.sl ty68) x0, inj Ty.str x3]) fun r => some (injRs [RT.d (Ty.sl ty68), RT.d (Ty.int Go.IntKind.i64)] (List.take (List.length r) r, (0 : Int)))) := by kernel_rfl
theorem e32 : callG W0 (callW W0) (cutW W0) 32 [] = Option.bind (cR (nat_lit 87) [RT.d ty55, RT.d (Ty.int Go.IntKind.i64)] [inj ty55 ([], ()), inj Ty.str { data := #[(97 : UInt8)] }]) fun r => Option.bind (cR (nat_lit 88) [RT.d ty55, RT.d (Ty.int Go.IntKind.i64)] [inj ty55 (r.fst.fst, ()), inj Ty.str { data := #[(97 : UInt8), (47 : UInt8), (98 : UInt8)] }, inj (Ty.sl Ty.str) [{ data := #[(120 : UInt8)] }]]) fun r_1 => Option.bind (cR (nat_lit 89) [RT.d ty55, RT.d (Ty.int Go.IntKind.i64)] [inj ty55 (r_1.fst.fst, ()), inj Ty.str { data := #[(97 : UInt8), (47 : UInt8), (98 : UInt8)] }, inj Ty.str { data := #[(99 : UInt8)] }]) fun r_2 => Option.bind (cR (nat_lit 39) [RT.d ty68, RT.d Ty.bool] [inj ty55 (r_2.fst.fst, ()), inj Ty.str { data := #[(99 : UInt8)] }]) fun r_3 => Option.bind (cR (nat_lit 37) [RT.d (Ty.int Go.IntKind.i64), RT.d (Ty.int Go.IntKind.i64)] [inj ty55 (r_2.fst.fst, ())]) fun r_4 => ifs ((r.snd == (0 : Int)) = true) (ifs ((r_1.snd == (0 : Int)) = true) (ifs ((r_2.snd == (0 : Int)) = true) (ifs (r_3.snd = true) (ifs (((↑(List.length r_3.fst.snd.snd) : Int) == (1 : Int)) = true) (ifs ((r_4.fst == (1 : Int)) = true) (ifs ((r_4.snd == (1 : Int)) = true) (Option.bind (cR (nat_lit 43) [RT.own (9 : Go.TypeId) Ty.str] [inj ty55 (r_1.fst.fst, ()), inj Ty.str { data := #[(97 : UInt8)] }]) fun r => ifs (((↑(List.length r) : Int) == (1 : Int)) = true) (Option.bind (cR (nat_lit 90) [RT.d Ty.bool] [inj ty55 (r_1.fst.fst, ()), inj ty55 (r_1.fst.fst, ())]) fun r => some (injRs [RT.d Ty.bool] r)) (some (injRs [RT.d Ty.bool] false))) (some (injRs [RT.d Ty.bool] false))) (some (injRs [RT.d Ty.bool] false))) (some (injRs [RT.d Ty.bool] false))) (some (injRs [RT.d Ty.bool] false))) (some (injRs [RT.d Ty.bool] false))) (some (injRs [RT.d Ty.bool] false))) (some (injRs [RT.d Ty.bool] false)) := by kernel_rfl
noncomputable def td7_6 : List Item := (findT (code Tryd.f7) [] 6).getD []
noncomputable def l7_6 (x0 : List (Int × ByteArray × ByteArray × List ByteArray)) (x1 : ByteArray) (x2 : Int) : Option (List RV) := cutW W0 n7 td7_6 { fr := [((0 : Nat), F.a (A.c (C.sl ty57 x0))), ((1 : Nat), F.a (A.c (C.sc (Go.Value.string x1)))), ((5 : Nat), F.a (A.c (C.pt (Pt.own (0 : Nat) (0 : Nat) (0 : Nat))))), ((6 : Nat), F.a (A.c C.nl)), ((7 : Nat), F.a (A.c (C.sc (Go.Value.int Go.IntKind.i64 x2))))], mem := [some (Row.box (55 : Nat) (some ty55) [C.nl] false)], nx := (1 : Nat) }
noncomputable def l7_6v1 (x0 : List (Int × ByteArray × ByteArray × List ByteArray)) (x1 : ByteArray) (x2 : List (ByteArray × Bool × List ByteArray)) (x3 : Int) (x4 : List (ByteArray × Bool × List ByteArray)) : Option (List RV) := cutW W0 n7 td7_6 { fr := [((0 : Nat), F.a (A.c (C.sl ty57 x0))), ((1 : Nat), F.a (A.c (C.sc (Go.Value.string x1)))), ((5 : Nat), F.a (A.c (C.pt (Pt.own (0 : Nat) (0 : Nat) (0 : Nat))))), ((6 : Nat), F.a (A.c (C.sl ty68 x2))), ((7 : Nat), F.a (A.c (C.sc (Go.Value.int Go.IntKind.i64 x3))))], mem := [some (Row.box (55 : Nat) (some ty55) [C.sl ty68 x4] false)], nx := (1 : Nat) }
noncomputable def td7_25 : List Item := (findT (code Tryd.f7) [] 25).getD []
noncomputable def l7_25 (x0 : ByteArray) (x1 : Bool) (x2 : Int) (x3 : Int) (x4 : ByteArray) (x5 : Bool) (x6 : List ByteArray) (x7 : List ByteArray) : Option (List RV) := cutW W0 n7 td7_25 { fr := [((1 : Nat), F.a (A.c (C.sc (Go.Value.string x0)))), ((5 : Nat), F.a (A.c (C.pt (Pt.own (0 : Nat) (0 : Nat) (0 : Nat))))), ((6 : Nat), F.a (A.c C.nl)), ((15 : Nat), F.a (A.c (C.pt (Pt.own (1 : Nat) (0 : Nat) (0 : Nat))))), ((16 : Nat), F.a (A.c (C.sc (Go.Value.bool x1)))), ((17 : Nat), F.a (A.c (C.sc (Go.Value.int Go.IntKind.i64 x2)))), ((18 : Nat), F.a (A.c (C.ow (2 : Nat) (List.length x7)))), ((19 : Nat), F.a (A.c (C.sc (Go.Value.int Go.IntKind.i64 x3))))], mem := [some (Row.box (55 : Nat) (some ty55) [C.nl] false), some (Row.box (68 : Nat) (some ty68) [C.sc (Go.Value.string x4), C.sc (Go.Value.bool x5), C.sl Ty.str x6] false), some (Row.arr (9 : Nat) Ty.str x7 false)], nx := (3 : Nat) }
noncomputable def l7_25v1 (x0 : ByteArray) (x1 : List (ByteArray × Bool × List ByteArray)) (x2 : Bool) (x3 : Int) (x4 : Int) (x5 : List (ByteArray × Bool × List ByteArray)) (x6 : ByteArray) (x7 : Bool) (x8 : List ByteArray) (x9 : List ByteArray) : Option (List RV) := cutW W0 n7 td7_25 { fr := [((1 : Nat), F.a (A.c (C.sc (Go.Value.string x0)))), ((5 : Nat), F.a (A.c (C.pt (Pt.own (0 : Nat) (0 : Nat) (0 : Nat))))), ((6 : Nat), F.a (A.c (C.sl ty68 x1))), ((15 : Nat), F.a (A.c (C.pt (Pt.own (1 : Nat) (0 : Nat) (0 : Nat))))), ((16 : Nat), F.a (A.c (C.sc (Go.Value.bool x2)))), ((17 : Nat), F.a (A.c (C.sc (Go.Value.int Go.IntKind.i64 x3)))), ((18 : Nat), F.a (A.c (C.ow (2 : Nat) (List.length x9)))), ((19 : Nat), F.a (A.c (C.sc (Go.Value.int Go.IntKind.i64 x4))))], mem := [some (Row.box (55 : Nat) (some ty55) [C.sl ty68 x5] false), some (Row.box (68 : Nat) (some ty68) [C.sc (Go.Value.string x6), C.sc (Go.Value.bool x7), C.sl Ty.str x8] false), some (Row.arr (9 : Nat) Ty.str x9 false)], nx := (3 : Nat) }
theorem e7 (a0 : List (Int × ByteArray × ByteArray × List ByteArray)) (a1 : ByteArray) : callG W0 (callW W0) (cutW W0) 7 [inj (Ty.sl ty57) a0, inj Ty.str a1] = ifs (decide ((↑(ByteArray.size a1) : Int) > (300 : Int)) = true) (Option.bind (cR (nat_lit 32) [RT.d Ty.bool] []) fun r => some (injRs [RT.d Ty.bool] r)) (l7_6 a0 a1 (0 : Int)) := by kernel_rfl
theorem q7_6 (x0 : List (Int × ByteArray × ByteArray × List ByteArray)) (x1 : ByteArray) (x2 : Int) : cutG W0 (callW W0) (cutW W0) n7 td7_6 { fr := [((0 : Nat), F.a (A.c (C.sl ty57 x0))), ((1 : Nat), F.a (A.c (C.sc (Go.Value.string x1)))), ((5 : Nat), F.a (A.c (C.pt (Pt.own (0 : Nat) (0 : Nat) (0 : Nat))))), ((6 : Nat), F.a (A.c C.nl)), ((7 : Nat), F.a (A.c (C.sc (Go.Value.int Go.IntKind.i64 x2))))], mem := [some (Row.box (55 : Nat) (some ty55) [C.nl] false)], nx := (1 : Nat) } = ifs (decide (x2 < (↑(List.length x0) : Int)) = true) (ifs (decide (x2 < (40 : Int)) = true) (ifs ((0 : Int) ≤ x2) (Option.bind x0[Int.toNat x2]? fun r => ifs (decide ((↑(ByteArray.size r.snd.fst) : Int) > (300 : Int)) = false) (ifs (decide ((↑(ByteArray.size r.snd.snd.fst) : Int) > (300 : Int)) = false) (Option.bind (cR (nat_lit 33) [RT.d Ty.bool] [inj (Ty.sl Ty.str) r.snd.snd.snd]) fun r_1 => ifs ((!r_1) = true) (Option.bind (cR (nat_lit 32) [RT.d Ty.bool] []) fun r => some (injRs [RT.d Ty.bool] r)) (Option.bind (cR (nat_lit 34) [RT.d ty55, RT.d (Ty.int Go.IntKind.i64)] [inj ty55 ([], ()), inj ty57 r]) fun r_2 => Option.bind (cR (nat_lit 35) [RT.d (Ty.sl ty68), RT.d (Ty.int Go.IntKind.i64)] [inj (Ty.sl ty68) [], inj ty57 r]) fun r => ifs ((r_2.snd != r.snd) = false) (ifs ((r_2.snd != (0 : Int)) = true) (Option.bind (cR (nat_lit 36) [RT.own (68 : Go.TypeId) ty68] [inj ty55 (r_2.fst.fst, ())]) fun r_3 => ifs (((↑(List.length r_3) : Int) != (0 : Int)) = true) (some (injRs [RT.d Ty.bool] false)) (ifs ((r_2.snd == (0 : Int)) = true) (Option.bind (cR (nat_lit 37) [RT.d (Ty.int Go.IntKind.i64), RT.d (Ty.int Go.IntKind.i64)] [inj ty55 (r_2.fst.fst, ())]) fun r_4 => Option.bind (cR (nat_lit 36) [RT.own (68 : Go.TypeId) ty68] [inj ty55 (r_2.fst.fst, ())]) fun r_5 => Option.bind (cR (nat_lit 38) [RT.d Ty.bool] [inj (Ty.sl ty68) (List.take (List.length r_5) r_5), inj (Ty.sl ty68) r.fst]) fun r_6 => ifs ((!r_6) = false) (ifs ((Go.IntKind.wrap Go.IntKind.i64 (r_4.fst + r_4.snd) != (↑(List.length r.fst) : Int)) = true) (some (injRs [RT.d Ty.bool] false)) (l7_6v1 x0 x1 r.fst (Go.IntKind.wrap Go.IntKind.i64 (x2 + (1 : Int))) r_2.fst.fst)) (some (injRs [RT.d Ty.bool] false))) (Option.bind (cR (nat_lit 37) [RT.d (Ty.int Go.IntKind.i64), RT.d (Ty.int Go.IntKind.i64)] [inj ty55 ([], ())]) fun r => Option.bind (cR (nat_lit 36) [RT.own (68 : Go.TypeId) ty68] [inj ty55 ([], ())]) fun r_4 => Option.bind (cR (nat_lit 38) [RT.d Ty.bool] [inj (Ty.sl ty68) (List.take (List.length r_4) r_4), inj (Ty.sl ty68) []]) fun r_5 => ifs ((!r_5) = false) (ifs ((Go.IntKind.wrap Go.IntKind.i64 (r.fst + r.snd) != (0 : Int)) = true) (some (injRs [RT.d Ty.bool] false)) (l7_6 x0 x1 (Go.IntKind.wrap Go.IntKind.i64 (x2 + (1 : Int))))) (some (injRs [RT.d Ty.bool] false))))) (ifs ((r_2.snd == (0 : Int)) = true) (Option.bind (cR (nat_lit 37) [RT.d (Ty.int Go.IntKind.i64), RT.d (Ty.int Go.IntKind.i64)] [inj ty55 (r_2.fst.fst, ())]) fun r_3 => Option.bind (cR (nat_lit 36) [RT.own (68 : Go.TypeId) ty68] [inj ty55 (r_2.fst.fst, ())]) fun r_4 => Option.bind (cR (nat_lit 38) [RT.d Ty.bool] [inj (Ty.sl ty68) (List.take (List.length r_4) r_4), inj (Ty.sl ty68) r.fst]) fun r_5 => ifs ((!r_5) = false) (ifs ((Go.IntKind.wrap Go.IntKind.i64 (r_3.fst + r_3.snd) != (↑(List.length r.fst) : Int)) = true) (some (injRs [RT.d Ty.bool] false)) (l7_6v1 x0 x1 r.fst (Go.IntKind.wrap Go.IntKind.i64 (x2 + (1 : Int))) r_2.fst.fst)) (some (injRs [RT.d Ty.bool] false))) (Option.bind (cR (nat_lit 37) [RT.d (Ty.int Go.IntKind.i64), RT.d (Ty.int Go.IntKind.i64)] [inj ty55 ([], ())]) fun r => Option.bind (cR (nat_lit 36) [RT.own (68 : Go.TypeId) ty68] [inj ty55 ([], ())]) fun r_3 => Option.bind (cR (nat_lit 38) [RT.d Ty.bool] [inj (Ty.sl ty68) (List.take (List.length r_3) r_3), inj (Ty.sl ty68) []]) fun r_4 => ifs ((!r_4) = false) (ifs ((Go.IntKind.wrap Go.IntKind.i64 (r.fst + r.snd) != (0 : Int)) = true) (some (injRs [RT.d Ty.bool] false)) (l7_6 x0 x1 (Go.IntKind.wrap Go.IntKind.i64 (x2 + (1 : Int))))) (some (injRs [RT.d Ty.bool] false))))) (some (injRs [RT.d Ty.bool] false)))) (Option.bind (cR (nat_lit 32) [RT.d Ty.bool] []) fun r => some (injRs [RT.d Ty.bool] r))) (Option.bind (cR (nat_lit 32) [RT.d Ty.bool] []) fun r => some (injRs [RT.d Ty.bool] r))) none) (Option.bind (cR (nat_lit 39) [RT.d ty68, RT.d Ty.bool] [inj ty55 ([], ()), inj Ty.str x1]) fun r => Option.bind (cR (nat_lit 40) [RT.d (Ty.int Go.IntKind.i64)] [inj (Ty.sl ty68) [], inj Ty.str x1]) fun r_1 => l7_25 x1 r.snd r_1 (0 : Int) r.fst.fst r.fst.snd.fst r.fst.snd.snd [])) (Option.bind (cR (nat_lit 39) [RT.d ty68, RT.d Ty.bool] [inj ty55 ([], ()), inj Ty.str x1]) fun r => Option.bind (cR (nat_lit 40) [RT.d (Ty.int Go.IntKind.i64)] [inj (Ty.sl ty68) [], inj Ty.str x1]) fun r_1 => l7_25 x1 r.snd r_1 (0 : Int) r.fst.fst r.fst.snd.fst r.fst.snd.snd []) := by kernel_rfl
theorem q7_6v1 (x0 : List (Int × ByteArray × ByteArray × List ByteArray)) (x1 : ByteArray) (x2 : List (ByteArray × Bool × List ByteArray)) (x3 : Int) (x4 : List (ByteArray × Bool × List ByteArray)) : cutG W0 (callW W0) (cutW W0) n7 td7_6 { fr := [((0 : Nat), F.a (A.c (C.sl ty57 x0))), ((1 : Nat), F.a (A.c (C.sc (Go.Value.string x1)))), ((5 : Nat), F.a (A.c (C.pt (Pt.own (0 : Nat) (0 : Nat) (0 : Nat))))), ((6 : Nat), F.a (A.c (C.sl ty68 x2))), ((7 : Nat), F.a (A.c (C.sc (Go.Value.int Go.IntKind.i64 x3))))], mem := [some (Row.box (55 : Nat) (some ty55) [C.sl ty68 x4] false)], nx := (1 : Nat) } = ifs (decide (x3 < (↑(List.length x0) : Int)) = true) (ifs (decide (x3 < (40 : Int)) = true) (ifs ((0 : Int) ≤ x3) (Option.bind x0[Int.toNat x3]? fun r => ifs (decide ((↑(ByteArray.size r.snd.fst) : Int) > (300 : Int)) = false) (ifs (decide ((↑(ByteArray.size r.snd.snd.fst) : Int) > (300 : Int)) = false) (Option.bind (cR (nat_lit 33) [RT.d Ty.bool] [inj (Ty.sl Ty.str) r.snd.snd.snd]) fun r_1 => ifs ((!r_1) = true) (Option.bind (cR (nat_lit 32) [RT.d Ty.bool] []) fun r => some (injRs [RT.d Ty.bool] r)) (Option.bind (cR (nat_lit 34) [RT.d ty55, RT.d (Ty.int Go.IntKind.i64)] [inj ty55 (x4, ()), inj ty57 r]) fun r_2 => Option.bind (cR (nat_lit 35) [RT.d (Ty.sl ty68), RT.d (Ty.int Go.IntKind.i64)] [inj (Ty.sl ty68) x2, inj ty57 r]) fun r => ifs ((r_2.snd != r.snd) = false) (ifs ((r_2.snd != (0 : Int)) = true) (Option.bind (cR (nat_lit 36) [RT.own (68 : Go.TypeId) ty68] [inj ty55 (r_2.fst.fst, ())]) fun r_3 => ifs (((↑(List.length r_3) : Int) != (0 : Int)) = true) (some (injRs [RT.d Ty.bool] false)) (ifs ((r_2.snd == (0 : Int)) = true) (Option.bind (cR (nat_lit 37) [RT.d (Ty.int Go.IntKind.i64), RT.d (Ty.int Go.IntKind.i64)] [inj ty55 (r_2.fst.fst, ())]) fun r_4 => Option.bind (cR (nat_lit 36) [RT.own (68 : Go.TypeId) ty68] [inj ty55 (r_2.fst.fst, ())]) fun r_5 => Option.bind (cR (nat_lit 38) [RT.d Ty.bool] [inj (Ty.sl ty68) (List.take (List.length r_5) r_5), inj (Ty.sl ty68) r.fst]) fun r_6 => ifs ((!r_6) = false) (ifs ((Go.IntKind.wrap Go.IntKind.i64 (r_4.fst + r_4.snd) != (↑(List.length r.fst) : Int)) = true) (some (injRs [RT.d Ty.bool] false)) (l7_6v1 x0 x1 r.fst (Go.IntKind.wrap Go.IntKind.i64 (x3 + (1 : Int))) r_2.fst.fst)) (some (injRs [RT.d Ty.bool] false))) (Option.bind (cR (nat_lit 37) [RT.d (Ty.int Go.IntKind.i64), RT.d (Ty.int Go.IntKind.i64)] [inj ty55 (x4, ())]) fun r => Option.bind (cR (nat_lit 36) [RT.own (68 : Go.TypeId) ty68] [inj ty55 (x4, ())]) fun r_4 => Option.bind (cR (nat_lit 38) [RT.d Ty.bool] [inj (Ty.sl ty68) (List.take (List.length r_4) r_4), inj (Ty.sl ty68) x2]) fun r_5 => ifs ((!r_5) = false) (ifs ((Go.IntKind.wrap Go.IntKind.i64 (r.fst + r.snd) != (↑(List.length x2) : Int)) = true) (some (injRs [RT.d Ty.bool] false)) (l7_6v1 x0 x1 x2 (Go.IntKind.wrap Go.IntKind.i64 (x3 + (1 : Int))) x4)) (some (injRs [RT.d Ty.bool] false))))) (ifs ((r_2.snd == (0 : Int)) = true) (Option.bind (cR (nat_lit 37) [RT.d (Ty.int Go.IntKind.i64), RT.d (Ty.int Go.IntKind.i64)] [inj ty55 (r_2.fst.fst, ())]) fun r_3 => Option.bind (cR (nat_lit 36) [RT.own (68 : Go.TypeId) ty68] [inj ty55 (r_2.fst.fst, ())]) fun r_4 => Option.bind (cR (nat_lit 38) [RT.d Ty.bool] [inj (Ty.sl ty68) (List.take (List.length r_4) r_4), inj (Ty.sl ty68) r.fst]) fun r_5 => ifs ((!r_5) = false) (ifs ((Go.IntKind.wrap Go.IntKind.i64 (r_3.fst + r_3.snd) != (↑(List.length r.fst) : Int)) = true) (some (injRs [RT.d Ty.bool] false)) (l7_6v1 x0 x1 r.fst (Go.IntKind.wrap Go.IntKind.i64 (x3 + (1 : Int))) r_2.fst.fst)) (some (injRs [RT.d Ty.bool] false))) (Option.bind (cR (nat_lit 37) [RT.d (Ty.int Go.IntKind.i64), RT.d (Ty.int Go.IntKind.i64)] [inj ty55 (x4, ())]) fun r => Option.bind (cR (nat_lit 36) [RT.own (68 : Go.TypeId) ty68] [inj ty55 (x4, ())]) fun r_3 => Option.bind (cR (nat_lit 38) [RT.d Ty.bool] [inj (Ty.sl ty68) (List.take (List.length r_3) r_3), inj (Ty.sl ty68) x2]) fun r_4 => ifs ((!r_4) = false) (ifs ((Go.IntKind.wrap Go.IntKind.i64 (r.fst + r.snd) != (↑(List.length x2) : Int)) = true) (some (injRs [RT.d Ty.bool] false)) (l7_6v1 x0 x1 x2 (Go.IntKind.wrap Go.IntKind.i64 (x3 + (1 : Int))) x4)) (some (injRs [RT.d Ty.bool] false))))) (some (injRs [RT.d Ty.bool] false)))) (Option.bind (cR (nat_lit 32) [RT.d Ty.bool] []) fun r => some (injRs [RT.d Ty.bool] r))) (Option.bind (cR (nat_lit 32) [RT.d Ty.bool] []) fun r => some (injRs [RT.d Ty.bool] r))) none) (Option.bind (cR (nat_lit 39) [RT.d ty68, RT.d Ty.bool] [inj ty55 (x4, ()), inj Ty.str x1]) fun r => Option.bind (cR (nat_lit 40) [RT.d (Ty.int Go.IntKind.i64)] [inj (Ty.sl ty68) x2, inj Ty.str x1]) fun r_1 => l7_25v1 x1 x2 r.snd r_1 (0 : Int) x4 r.fst.fst r.fst.snd.fst r.fst.snd.snd [])) (Option.bind (cR (nat_lit 39) [RT.d ty68, RT.d Ty.bool] [inj ty55 (x4, ()), inj Ty.str x1]) fun r => Option.bind (cR (nat_lit 40) [RT.d (Ty.int Go.IntKind.i64)] [inj (Ty.sl ty68) x2, inj Ty.str x1]) fun r_1 => l7_25v1 x1 x2 r.snd r_1 (0 : Int) x4 r.fst.fst r.fst.snd.fst r.fst.snd.snd []) := by kernel_rfl
theorem q7_25 (x0 : ByteArray) (x1 : Bool) (x2 : Int) (x3 : Int) (x4 : ByteArray) (x5 : Bool) (x6 : List ByteArray) (x7 : List ByteArray) : cutG W0 (callW W0) (cutW W0) n7 td7_25 { fr := [((1 : Nat), F.a (A.c (C.sc (Go.Value.string x0)))), ((5 : Nat), F.a (A.c (C.pt (Pt.own (0 : Nat) (0 : Nat) (0 : Nat))))), ((6 : Nat), F.a (A.c C.nl)), ((15 : Nat), F.a (A.c (C.pt (Pt.own (1 : Nat) (0 : Nat) (0 : Nat))))), ((16 : Nat), F.a (A.c (C.sc (Go.Value.bool x1)))), ((17 : Nat), F.a (A.c (C.sc (Go.Value.int Go.IntKind.i64 x2)))), ((18 : Nat), F.a (A.c (C.ow (2 : Nat) (List.length x7)))), ((19 : Nat), F.a (A.c (C.sc (Go.Value.int Go.IntKind.i64 x3))))], mem := [some (Row.box (55 : Nat) (some ty55) [C.nl] false), some (Row.box (68 : Nat) (some ty68) [C.sc (Go.Value.string x4), C.sc (Go.Value.bool x5), C.sl Ty.str x6] false), some (Row.arr (9 : Nat) Ty.str x7 false)], nx := (3 : Nat) } = ifs (decide (x3 < (0 : Int)) = true) none (Option.bind (cR (nat_lit 32) [RT.d Ty.bool] []) fun r => ifs (r = true) (ifs ((x1 == decide (x2 ≥ (0 : Int))) = true) (ifs ((!x1) = false) none (Option.bind (cR (nat_lit 43) [RT.own (9 : Go.TypeId) Ty.str] [inj ty55 ([], ()), inj Ty.str x0]) fun r => Option.bind (cR (nat_lit 42) [RT.d Ty.bool] [inj (Ty.sl Ty.str) (List.take (List.length r) r), inj (Ty.sl Ty.str) (List.take (List.length x7) x7)]) fun r => some (injRs [RT.d Ty.bool] r))) (some (injRs [RT.d Ty.bool] false))) (some (injRs [RT.d Ty.bool] false))) := by kernel_rfl
theorem q7_25v1 (x0 : ByteArray) (x1 : List (ByteArray × Bool × List ByteArray)) (x2 : Bool) (x3 : Int) (x4 : Int) (x5 : List (ByteArray × Bool × List ByteArray)) (x6 : ByteArray) (x7 : Bool) (x8 : List ByteArray) (x9 : List ByteArray) : cutG W0 (callW W0) (cutW W0) n7 td7_25 { fr := [((1 : Nat), F.a (A.c (C.sc (Go.Value.string x0)))), ((5 : Nat), F.a (A.c (C.pt (Pt.own (0 : Nat) (0 : Nat) (0 : Nat))))), ((6 : Nat), F.a (A.c (C.sl ty68 x1))), ((15 : Nat), F.a (A.c (C.pt (Pt.own (1 : Nat) (0 : Nat) (0 : Nat))))), ((16 : Nat), F.a (A.c (C.sc (Go.Value.bool x2)))), ((17 : Nat), F.a (A.c (C.sc (Go.Value.int Go.IntKind.i64 x3)))), ((18 : Nat), F.a (A.c (C.ow (2 : Nat) (List.length x9)))), ((19 : Nat), F.a (A.c (C.sc (Go.Value.int Go.IntKind.i64 x4))))], mem := [some (Row.box (55 : Nat) (some ty55) [C.sl ty68 x5] false), some (Row.box (68 : Nat) (some ty68) [C.sc (Go.Value.string x6), C.sc (Go.Value.bool x7), C.sl Ty.str x8] false), some (Row.arr (9 : Nat) Ty.str x9 false)], nx := (3 : Nat) } = ifs (decide (x4 < (↑(List.length x1) : Int)) = true) (ifs ((0 : Int) ≤ x4) (Option.bind x1[Int.toNat x4]? fun r => Option.bind (cR (nat_lit 41) [RT.d Ty.str] [inj Ty.str r.fst]) fun r => ifs ((ByteArray.toList r == ByteArray.toList x0) = true) (ifs ((0 : Int) ≤ x4) (Option.bind x1[Int.toNat x4]? fun r => ifs ((List.length x9 + (1 : Nat)) * nat_lit 16 ≤ (140737488355328 : Nat)) (l7_25v1 x0 x1 x2 x3 (Go.IntKind.wrap Go.IntKind.i64 (x4 + (1 : Int))) x5 x6 x7 x8 (List.take (List.length x9) x9 ++ [r.fst])) none) none) (l7_25v1 x0 x1 x2 x3 (Go.IntKind.wrap Go.IntKind.i64 (x4 + (1 : Int))) x5 x6 x7 x8 x9)) none) (Option.bind (cR (nat_lit 32) [RT.d Ty.bool] []) fun r => ifs (r = true) (ifs ((x2 == decide (x3 ≥ (0 : Int))) = true) (ifs ((!x2) = false) (ifs ((0 : Int) ≤ Go.IntKind.wrap Go.IntKind.i64 (x3 + (1 : Int)) ∧ Go.IntKind.wrap Go.IntKind.i64 (x3 + (1 : Int)) ≤ (↑(List.length x1) : Int)) (ifs ((0 : Int) ≤ x3 ∧ x3 ≤ Go.IntKind.wrap Go.IntKind.i64 (x3 + (1 : Int))) (Option.bind (cR (nat_lit 38) [RT.d Ty.bool] [inj (Ty.sl ty68) [(x6, x7, x8)], inj (Ty.sl ty68) (List.drop (Int.toNat x3) (List.take (Int.toNat (Go.IntKind.wrap Go.IntKind.i64 (x3 + (1 : Int)))) x1))]) fun r => ifs (r = true) (Option.bind (cR (nat_lit 43) [RT.own (9 : Go.TypeId) Ty.str] [inj ty55 (x5, ()), inj Ty.str x0]) fun r => Option.bind (cR (nat_lit 42) [RT.d Ty.bool] [inj (Ty.sl Ty.str) (List.take (List.length r) r), inj (Ty.sl Ty.str) (List.take (List.length x9) x9)]) fun r => some (injRs [RT.d Ty.bool] r)) (some (injRs [RT.d Ty.bool] false))) none) none) (Option.bind (cR (nat_lit 43) [RT.own (9 : Go.TypeId) Ty.str] [inj ty55 (x5, ()), inj Ty.str x0]) fun r => Option.bind (cR (nat_lit 42) [RT.d Ty.bool] [inj (Ty.sl Ty.str) (List.take (List.length r) r), inj (Ty.sl Ty.str) (List.take (List.length x9) x9)]) fun r => some (injRs [RT.d Ty.bool] r))) (some (injRs [RT.d Ty.bool] false))) (some (injRs [RT.d Ty.bool] false))) := by kernel_rfl
end Go.Proofs.YtokecnkjgoghhaaDoor.Tb
end
section
/- The order of paths: by their names; the program's and the reference's. Conditions: lengths as they stand in each statement. -/
set_option linter.unusedVariables false
set_option linter.unusedSimpArgs false
namespace Go.Proofs.YtokecnkjgoghhaaDoor.Sp
open Go Go.Proofs.YtokecnkjgoghhaaDoor.Ab Go.Proofs.YtokecnkjgoghhaaDoor.Tb Go.Proofs.YtokecnkjgoghhaaDoor.EText

abbrev Fil := Txt × Bool × List Txt
theorem bl (a b : Txt) : Op.bytesLess a.toList b.toList = decide (a.toList < b.toList) := bytesLess_eq _ _
theorem tri_b {a b : Txt} (h1 : ¬ a.toList < b.toList) (h2 : ¬ b.toList < a.toList) : a = b := bytes_eq.1 (List.le_antisymm (List.not_lt.1 h2) (List.not_lt.1 h1))
theorem isnan_ok (a : Txt) : cR 228 [RT.d .bool] [inj .str a] = some false := callT_of ((e228 a).trans (by simp))
def cmpT (a b : Txt) : Int := if a.toList < b.toList then -1 else if a = b then 0 else 1
theorem cmps_ok (a b : Txt) : cR 220 [RT.d (.int .i64)] [inj .str a, inj .str b] = some (cmpT a b) := by
  refine callT_of ((e220 a b).trans ?_)
  rw [isnan_ok, Option.bind_some, isnan_ok, Option.bind_some, ifs_neg (by simp), ifs_neg (by simp), bl, bat]
  unfold cmpT
  by_cases h : a.toList < b.toList
  · rw [ifs_pos (by simpa using h), if_pos h]
  · rw [ifs_neg (by simpa using h), if_neg h]
    by_cases h2 : a = b
    · rw [ifs_neg (by simp [h2]), if_pos h2]
    · rw [ifs_pos (by simp [h, h2]), if_neg h2]

def lessL : List Txt → List Txt → Bool
  | [], [] => false
  | [], _ :: _ => true
  | _ :: _, [] => false
  | a :: x, b :: y => if a = b then lessL x y else decide (a.toList < b.toList)
theorem lessL_nil (y : List Txt) : lessL [] y = decide (0 < y.length) := by cases y <;> simp [lessL]
theorem cmpl_ok (x y : List Txt) (hx : x.length ≤ 100000) (hy : y.length ≤ 100000) : ∃ r : Int, cR 199 [RT.d (.int .i64)] [inj (.sl .str) x, inj (.sl .str) y] = some r ∧ decide (r < 0) = lessL x y := by
  have key : ∀ i : Nat, i ≤ x.length → ∃ r : Int, (i ≤ y.length → l199_2 x y x x.length (i : Int) = some (injRs [RT.d (.int .i64)] r) ∧ decide (r < 0) = lessL (x.drop i) (y.drop i)) := by
    refine upTo (fun i hi ih => ?_) ?_
    · obtain ⟨r, ih⟩ := ih
      by_cases hy1 : i < y.length
      · obtain ⟨h1, h2⟩ := (⟨ih (by omega), trivial⟩ : _ ∧ True).1
        by_cases he : x[i] = y[i]
        · refine ⟨r, fun _ => ⟨cutG_step ((q199_2 ..).trans ?_), ?_⟩⟩
          · rw [ifs_pos (by simpa using hi), ifs_pos (by omega), Int.toNat_natCast, List.getElem?_eq_getElem hi, Option.bind_some, ifs_neg (by simp; omega), ifs_pos (by omega), List.getElem?_eq_getElem hy1, Option.bind_some, cmps_ok, Option.bind_some, ifs_neg (by unfold cmpT; rw [he, if_neg (List.lt_irrefl _), if_pos rfl]; simp), wrS hi (by simp only [top]; omega)]
            exact h1
          · rw [h2, List.drop_eq_getElem_cons hi, List.drop_eq_getElem_cons hy1, lessL, if_pos he]
        · refine ⟨cmpT x[i] y[i], fun _ => ⟨cutG_step ((q199_2 ..).trans ?_), ?_⟩⟩
          · have hne : cmpT x[i] y[i] ≠ 0 := by
              unfold cmpT
              split
              · decide
              · first | decide | (rw [if_neg he]; decide)
            rw [ifs_pos (by simpa using hi), ifs_pos (by omega), Int.toNat_natCast, List.getElem?_eq_getElem hi, Option.bind_some, ifs_neg (by simp; omega), ifs_pos (by omega), List.getElem?_eq_getElem hy1, Option.bind_some, cmps_ok, Option.bind_some, ifs_pos (by simpa using hne)]
          · rw [List.drop_eq_getElem_cons hi, List.drop_eq_getElem_cons hy1, lessL, if_neg he]
            unfold cmpT
            by_cases h : x[i].toList < y[i].toList
            · rw [if_pos h]; simp [h]
            · rw [if_neg h, if_neg he]; simp [h]
      · refine ⟨1, fun hle => ⟨cutG_step ((q199_2 ..).trans ?_), ?_⟩⟩
        · rw [ifs_pos (by simpa using hi), ifs_pos (by omega), Int.toNat_natCast, List.getElem?_eq_getElem hi, Option.bind_some, ifs_pos (by simp; omega)]
        · rw [List.drop_eq_getElem_cons hi, List.drop_of_length_le (show y.length ≤ i by omega)]; rfl
    · by_cases h : x.length < y.length
      · refine ⟨-1, fun _ => ⟨cutG_step ((q199_2 ..).trans ?_), ?_⟩⟩
        · rw [ifs_neg (by simp), ifs_pos (by simp; omega)]
        · rw [List.drop_length, lessL_nil]; simp; omega
      · refine ⟨0, fun _ => ⟨cutG_step ((q199_2 ..).trans ?_), ?_⟩⟩
        · rw [ifs_neg (by simp), ifs_neg (by simp; omega)]
        · rw [List.drop_length, lessL_nil]; simp; omega
  obtain ⟨r, hr⟩ := key 0 (Nat.zero_le _)
  obtain ⟨h1, h2⟩ := hr (Nat.zero_le _)
  exact ⟨r, callT_of ((e199 x y).trans h1), by simpa using h2⟩
theorem less6_loop (x y : List Txt) (hx : x.length ≤ 100000) : ∀ i : Nat, i ≤ x.length → i ≤ y.length → l176_6 (i : Int) x y = some (injRs [RT.d .bool] (lessL (x.drop i) (y.drop i))) := by
  refine upTo (fun i hi ih => ?_) ?_
  · intro hy
    refine cutG_step ((q176_6 ..).trans ?_)
    rw [ifs_pos (by simpa using hi), List.drop_eq_getElem_cons hi]
    by_cases hy1 : i < y.length
    · rw [ifs_pos (by simpa using hy1), ifs_pos (by omega), Int.toNat_natCast, List.getElem?_eq_getElem hi, Option.bind_some, ifs_pos (by omega), List.getElem?_eq_getElem hy1, Option.bind_some, bat, List.drop_eq_getElem_cons hy1, lessL]
      by_cases he : x[i] = y[i]
      · rw [ifs_neg (by simp [he]), if_pos he, wrS hi (by simp only [top]; omega)]
        exact ih (by omega)
      · rw [ifs_pos (by simp [he]), if_neg he, ifs_pos (by omega), Option.bind_some, ifs_pos (by omega), Option.bind_some, bl]
    · rw [ifs_neg (by simpa using hy1), List.drop_of_length_le (show y.length ≤ i by omega)]
      have : ¬ (x.length : Int) < (y.length : Int) := by omega
      simp [lessL, this]
  · intro hy
    refine cutG_step ((q176_6 ..).trans ?_)
    rw [ifs_neg (by simp), List.drop_length, lessL_nil]
    congr 2
    rw [decide_eq_decide]
    simp; omega

theorem psplit_ok (p : Txt) (hp : p.size ≤ 100000) : cR 148 [RT.own 9 .str] [inj .str p] = some (names p) := by
  refine callT_of ((e148 p).trans ?_)
  rw [pright_ok p hp, Option.bind_some]
  unfold names
  cases rightP p with
  | false => rw [ifs_pos (by simp)]; rfl
  | true => rw [ifs_neg (by simp), split_ok p slash (by omega) (by decide), Option.bind_some, List.take_length]; rfl
theorem names_le (p : Txt) : (names p).length ≤ 16 := by
  unfold names
  split
  · rename_i h
    unfold rightP at h
    simp only [Bool.and_eq_true, decide_eq_true_eq] at h
    exact h.2.1
  · simp
def lessP (a b : Txt) : Bool := if names a = [] ∧ names b = [] then decide (a.toList < b.toList) else lessL (names a) (names b)
theorem len0 {α : Type} (l : List α) : (((l.length : Nat) : Int) == 0) = decide (l = []) := by
  cases l with
  | nil => rfl
  | cons a l => rw [show (((a :: l).length : Nat) : Int) = (l.length : Int) + 1 by simp]; simp; omega
theorem pless_ok (a b : Txt) (ha : a.size ≤ 100000) (hb : b.size ≤ 100000) : cR 178 [RT.d .bool] [inj .str a, inj .str b] = some (lessP a b) := by
  refine callT_of ((e178 a b).trans ?_)
  have h1 := names_le a
  have h2 := names_le b
  obtain ⟨r, hr, hd⟩ := cmpl_ok (names a) (names b) (by omega) (by omega)
  rw [psplit_ok a ha, Option.bind_some, psplit_ok b hb, Option.bind_some, List.take_length, List.take_length, hr, Option.bind_some, hd, len0, len0, bl]
  unfold lessP
  by_cases e1 : names a = []
  · rw [ifs_pos (by simpa using e1)]
    by_cases e2 : names b = []
    · rw [ifs_pos (by simpa using e2), if_pos ⟨e1, e2⟩]
    · rw [ifs_neg (by simpa using e2), if_neg (fun h => e2 h.2)]
  · rw [ifs_neg (by simpa using e1), if_neg (fun h => e1 h.1)]
theorem less5_ok (a b : Txt) : cR 176 [RT.d .bool] [inj .str a, inj .str b] = some (lessP a b) := by
  refine callT_of ((e176 a b).trans ?_)
  have h1 := names_le a
  rw [names5_ok, Option.bind_some, names5_ok, Option.bind_some, len0, len0, bl, show (0 : Int) = ((0 : Nat) : Int) from rfl, less6_loop (names a) (names b) (by omega) 0 (Nat.zero_le _) (Nat.zero_le _)]
  unfold lessP
  by_cases e1 : names a = []
  · rw [ifs_pos (by simpa using e1)]
    by_cases e2 : names b = []
    · rw [ifs_pos (by simpa using e2), if_pos ⟨e1, e2⟩]
    · rw [ifs_neg (by simpa using e2), if_neg (fun h => e2 h.2)]; rfl
  · rw [ifs_neg (by simpa using e1), if_neg (fun h => e1 h.1)]; rfl

/-! ### It is an order -/
theorem lessL_irrefl : ∀ x : List Txt, lessL x x = false
  | [] => rfl
  | a :: x => by rw [lessL, if_pos rfl]; exact lessL_irrefl x
theorem lessL_trans : ∀ {x y z : List Txt}, lessL x y = true → lessL y z = true → lessL x z = true
  | [], [], _, h, _ => by cases h
  | [], _ :: _, [], _, h => by cases h
  | [], _ :: _, _ :: _, _, _ => rfl
  | _ :: _, [], _, h, _ => by cases h
  | _ :: _, _ :: _, [], _, h => by cases h
  | a :: x, b :: y, c :: z, h1, h2 => by
    unfold lessL at h1 h2 ⊢
    by_cases e1 : a = b
    · rw [if_pos e1] at h1
      subst e1
      by_cases e2 : a = c
      · rw [if_pos e2] at h2 ⊢; exact lessL_trans h1 h2
      · rw [if_neg e2] at h2 ⊢; exact h2
    · rw [if_neg e1] at h1
      by_cases e2 : b = c
      · subst e2; rw [if_neg e1]; exact h1
      · rw [if_neg e2] at h2
        have h3 := List.lt_trans (of_decide_eq_true h1) (of_decide_eq_true h2)
        have e3 : a ≠ c := fun e => by subst e; exact List.lt_irrefl _ h3
        rw [if_neg e3]; exact decide_eq_true h3
theorem lessL_tri : ∀ {x y : List Txt}, lessL x y = false → lessL y x = false → x = y
  | [], [], _, _ => rfl
  | [], _ :: _, h, _ => by cases h
  | _ :: _, [], _, h => by cases h
  | a :: x, b :: y, h1, h2 => by
    unfold lessL at h1 h2
    by_cases e : a = b
    · subst e
      rw [if_pos rfl] at h1 h2
      rw [lessL_tri h1 h2]
    · rw [if_neg e] at h1
      rw [if_neg (fun h => e h.symm)] at h2
      exact absurd (tri_b (of_decide_eq_false h1) (of_decide_eq_false h2)) e
theorem names_ne {p : Txt} (h : names p ≠ []) : rightP p = true ∧ names p = splitL p slash := by
  unfold names at h ⊢
  split
  · rename_i hr; exact ⟨hr, rfl⟩
  · rename_i hr; rw [if_neg hr] at h; exact absurd rfl h
theorem names_inj {a b : Txt} (h : names a ≠ []) (e : names a = names b) : a = b := by
  have h1 := (names_ne h).2
  have h2 := (names_ne (e ▸ h)).2
  have h3 : splitL a slash = splitL b slash := by rw [← h1, ← h2, e]
  have h4 := congrArg (List.map (·.data.toList)) h3
  rw [split_parts, split_parts] at h4
  have h5 := congrArg joinP h4
  rw [join_parts, join_parts] at h5
  exact ext_of h5
theorem lessP_irrefl (a : Txt) : lessP a a = false := by
  unfold lessP
  split
  · exact decide_eq_false (List.lt_irrefl _)
  · exact lessL_irrefl _
theorem lessL_right {x : List Txt} (h : lessL x [] = true) : False := by cases x <;> cases h
theorem lessP_trans {a b c : Txt} (h1 : lessP a b = true) (h2 : lessP b c = true) : lessP a c = true := by
  unfold lessP at *
  by_cases ea : names a = [] ∧ names b = []
  · rw [if_pos ea] at h1
    by_cases ec : names c = []
    · rw [if_pos ⟨ea.2, ec⟩] at h2
      rw [if_pos ⟨ea.1, ec⟩]
      exact decide_eq_true (List.lt_trans (of_decide_eq_true h1) (of_decide_eq_true h2))
    · rw [if_neg (fun h => ec h.2), ea.1, lessL_nil]
      exact decide_eq_true (List.length_pos_iff.2 ec)
  · rw [if_neg ea] at h1
    have hb : names b ≠ [] := fun e => by rw [e] at h1; exact lessL_right h1
    rw [if_neg (fun h => hb h.1)] at h2
    have hc : names c ≠ [] := fun e => by rw [e] at h2; exact lessL_right h2
    rw [if_neg (fun h => hc h.2)]
    exact lessL_trans h1 h2
theorem lessP_tri {a b : Txt} (h1 : lessP a b = false) (h2 : lessP b a = false) : a = b := by
  unfold lessP at *
  by_cases ea : names a = [] ∧ names b = []
  · rw [if_pos ea] at h1
    rw [if_pos ⟨ea.2, ea.1⟩] at h2
    exact tri_b (of_decide_eq_false h1) (of_decide_eq_false h2)
  · rw [if_neg ea] at h1
    rw [if_neg (fun h => ea ⟨h.2, h.1⟩)] at h2
    have e := lessL_tri h1 h2
    refine names_inj (fun h => ea ⟨h, by rw [← e]; exact h⟩) e
theorem lessP_asym {a b : Txt} (h : lessP a b = true) : lessP b a = false := by
  cases h2 : lessP b a with
  | false => rfl
  | true => have := lessP_trans h h2; rw [lessP_irrefl] at this; cases this

def ordP (a b : Txt) : Int := if lessP a b then -1 else if lessP b a then 1 else 0
theorem torder_ok (f g : Fil) (hf : f.1.size ≤ 100000) (hg : g.1.size ≤ 100000) : cR 146 [RT.d (.int .i64)] [inj ty68 f, inj ty68 g] = some (ordP f.1 g.1) := by
  refine callT_of ((e146 f g).trans ?_)
  rw [pless_ok _ _ hf hg, Option.bind_some, pless_ok _ _ hg hf, Option.bind_some]
  unfold ordP
  cases lessP f.1 g.1 with
  | true => rw [ifs_pos rfl]; rfl
  | false =>
    rw [ifs_neg (by simp)]
    cases lessP g.1 f.1 with
    | true => rw [ifs_pos rfl]; rfl
    | false => rw [ifs_neg (by simp)]; rfl

end Go.Proofs.YtokecnkjgoghhaaDoor.Sp
end
section
/- In which directory a path lies: the program's answer and the reference's. Conditions: lengths as they stand in each statement. -/
set_option linter.unusedVariables false
set_option linter.unusedSimpArgs false
namespace Go.Proofs.YtokecnkjgoghhaaDoor.Sp
open Go Go.Proofs.YtokecnkjgoghhaaDoor.Ab Go.Proofs.YtokecnkjgoghhaaDoor.Tb Go.Proofs.YtokecnkjgoghhaaDoor.EText

theorem inter_joinP : ∀ L : List (List UInt8), List.intercalate [47] L = joinP L
  | [] => rfl
  | [x] => by simp [List.intercalate, joinP]
  | x :: y :: r => by
    have ih := inter_joinP (y :: r)
    simp only [List.intercalate] at ih ⊢
    rw [joinP, ← ih]
    simp [List.intersperse]
abbrev dl (x : Txt) : List UInt8 := x.data.toList
def joinN (xs : List Txt) : Txt := Ex.joinT xs slash
theorem joinN_data (xs : List Txt) : (joinN xs).data.toList = joinP (xs.map dl) := by
  show (Lib.join (xs.map (·.data.toList)) [47]).toArray.toList = _
  rw [List.toList_toArray]
  exact inter_joinP _
theorem joinN_size (xs : List Txt) : (joinN xs).size = (joinP (xs.map dl)).length := by
  rw [← joinN_data]; exact (Array.length_toList (xs := (joinN xs).data)).symm
theorem joinP_snoc (a : List (List UInt8)) (x : List UInt8) (h : a ≠ []) : joinP (a ++ [x]) = joinP a ++ 47 :: x := joinP_app [x] (by simp) a h
theorem joinP_len (m : Nat) : ∀ L : List (List UInt8), (∀ x ∈ L, x.length ≤ m) → (joinP L).length ≤ (m + 1) * L.length
  | [], _ => by simp [joinP]
  | [x], h => by have := h x (by simp); simp [joinP]; omega
  | x :: y :: r, h => by
    have ih := joinP_len m (y :: r) (fun z hz => h z (List.mem_cons_of_mem _ hz))
    have := h x (by simp)
    simp only [joinP, List.length_append, List.length_cons] at ih ⊢
    have e : (m + 1) * (r.length + 1 + 1) = (m + 1) * (r.length + 1) + (m + 1) := by rw [Nat.mul_add (m + 1) (r.length + 1) 1, Nat.mul_one]
    omega
theorem parts_no : ∀ l : List UInt8, ∀ x ∈ parts l, ∀ c ∈ x, c ≠ 47
  | [], x, hx, c, hc => by simp [parts] at hx; subst hx; cases hc
  | a :: l, x, hx, c, hc => by
    unfold parts at hx
    split at hx
    · rcases List.mem_cons.1 hx with rfl | hx
      · cases hc
      · exact parts_no l x hx c hc
    · rename_i ha
      cases hp : parts l with
      | nil => exact absurd hp (parts_ne l)
      | cons y r =>
        rw [hp] at hx
        simp only [consP] at hx
        rcases List.mem_cons.1 hx with rfl | hx
        · rcases List.mem_cons.1 hc with rfl | hc
          · exact ha
          · exact parts_no l y (by rw [hp]; simp) c hc
        · exact parts_no l x (by rw [hp]; simp [hx]) c hc
theorem parts_join : ∀ L : List (List UInt8), L ≠ [] → (∀ x ∈ L, ∀ c ∈ x, c ≠ 47) → parts (joinP L) = L
  | [], h, _ => absurd rfl h
  | [x], _, h => parts_none x (h x (by simp))
  | x :: y :: r, _, h => by
    rw [joinP, parts_hit x _ (h x (by simp)), parts_join (y :: r) (by simp) (fun z hz => h z (List.mem_cons_of_mem _ hz))]
theorem map_dl_inj : ∀ {a b : List Txt}, a.map dl = b.map dl → a = b
  | [], [], _ => rfl
  | [], _ :: _, h => by cases h
  | _ :: _, [], h => by cases h
  | x :: a, y :: b, h => by
    simp only [List.map_cons, List.cons.injEq] at h
    rw [ext_of h.1, map_dl_inj h.2]
theorem split_joinN (xs : List Txt) (h : xs ≠ []) (hn : ∀ x ∈ xs, ∀ c ∈ dl x, c ≠ 47) : splitL (joinN xs) slash = xs := by
  refine map_dl_inj ?_
  rw [split_parts, joinN_data]
  refine parts_join _ (by simpa using h) (fun x hx => ?_)
  obtain ⟨y, hy, rfl⟩ := List.mem_map.1 hx
  exact hn y hy

theorem names_size {p x : Txt} (h : x ∈ names p) : x.size ≤ 200 := by
  obtain ⟨h1, h2⟩ := names_ne (p := p) (fun e => by rw [e] at h; cases h)
  rw [h2] at h
  unfold rightP at h1
  simp only [Bool.and_eq_true, decide_eq_true_eq] at h1
  have := splitB_sizes slash _ p x h
  omega
def upP (p : Txt) : Txt := joinN (names p).dropLast
theorem names_empty : names ⟨#[]⟩ = [] := by decide +kernel
theorem names_up (p : Txt) : names (upP p) = (names p).dropLast := by
  unfold upP
  by_cases h0 : (names p).dropLast = []
  · rw [h0]; exact names_empty
  · have hne : names p ≠ [] := fun e => by rw [e] at h0; exact h0 rfl
    obtain ⟨hr, hs⟩ := names_ne hne
    have hmem : ∀ x ∈ (names p).dropLast, x ∈ splitL p slash := fun x hx => by rw [← hs]; exact List.dropLast_subset _ hx
    have hno : ∀ x ∈ (names p).dropLast, ∀ c ∈ dl x, c ≠ 47 := fun x hx => parts_no (dl p) (dl x) (by rw [← split_parts]; exact List.mem_map_of_mem (hmem x hx))
    have e := split_joinN _ h0 hno
    have hr2 : rightP (joinN (names p).dropLast) = true := by
      unfold rightP at hr ⊢
      simp only [Bool.and_eq_true, decide_eq_true_eq, List.all_eq_true] at hr ⊢
      rw [e]
      refine ⟨?_, ?_, fun x hx => hr.2.2 x (hmem x hx)⟩
      · rw [joinN_size]
        have h1 : (names p).dropLast ++ [(names p).getLast hne] = names p := List.dropLast_concat_getLast hne
        have h2 : joinP ((names p).map dl) = dl p := by
          rw [hs]
          show joinP ((splitL p slash).map (·.data.toList)) = _
          rw [split_parts, join_parts]
        rw [← h1, List.map_append, List.map_singleton, joinP_snoc _ _ (fun e => h0 (List.map_eq_nil_iff.1 e))] at h2
        have h3 := congrArg List.length h2
        rw [data_len] at h3
        simp only [List.length_append, List.length_cons] at h3
        omega
      · rw [List.length_dropLast, hs]; omega
    show names (joinN (names p).dropLast) = _
    rw [show names (joinN (names p).dropLast) = if rightP (joinN (names p).dropLast) then splitL (joinN (names p).dropLast) slash else [] from rfl, if_pos hr2, e]

theorem sjoin_ok (xs : List Txt) (h1 : xs.length ≤ 100000) (h2 : (joinN xs).size ≤ 100000000) : cR 180 [RT.d .str] [inj (.sl .str) xs, inj .str slash] = some (joinN xs) :=
  callT_of (by
    show (if xs.length ≤ 140737488355328 ∧ (Ex.joinT xs slash).size ≤ 140737488355328 then some [RV.d (inj .str (Ex.joinT xs slash))] else none) = _
    rw [if_pos ⟨by omega, by unfold joinN at h2; omega⟩]; rfl)
theorem joinN_up_size (p : Txt) : (joinN (names p).dropLast).size ≤ 10000 := by
  rw [joinN_size]
  have h := joinP_len 200 ((names p).dropLast.map dl) (fun x hx => by
    obtain ⟨y, hy, rfl⟩ := List.mem_map.1 hx
    have := names_size (List.dropLast_subset _ hy)
    show y.data.toList.length ≤ 200
    rw [data_len]; exact this)
  have h2 := names_le p
  rw [List.length_map, List.length_dropLast] at h
  have : (200 + 1) * ((names p).length - 1) ≤ 201 * 15 := Nat.mul_le_mul_left _ (by omega)
  omega
theorem pjoin_ok (p : Txt) : cR 149 [RT.d .str] [inj (.sl .str) (names p).dropLast] = some (upP p) := by
  refine callT_of ((e149 _).trans ?_)
  have h1 := names_le p
  have h2 := joinN_up_size p
  rw [sjoin_ok _ (by rw [List.length_dropLast]; omega) (by omega), Option.bind_some]
  show (Option.bind (cR 148 [RT.own 9 .str] [inj .str (upP p)]) _) = _
  rw [psplit_ok (upP p) (by unfold upP; omega), Option.bind_some, names_up, ifs_neg (by simp)]
  rfl
theorem take_last {α : Type} (l : List α) : l.take (l.length - 1) = l.dropLast := (List.dropLast_eq_take ..).symm
theorem pdir_ok (p : Txt) (hp : p.size ≤ 100000) : cR 101 [RT.d .str] [inj .str p] = some (upP p) := by
  refine callT_of ((e101 p).trans ?_)
  have h1 := names_le p
  rw [psplit_ok p hp, Option.bind_some, wr _ (by omega)]
  have e : imax (((names p).length : Int) - 1) 0 = (((names p).length - 1 : Nat) : Int) := by
    unfold imax; split <;> omega
  rw [e, ifs_pos (by omega), Int.toNat_natCast, take_last, pjoin_ok, Option.bind_some]
theorem join5_loop (xs : List Txt) (hl : xs.length ≤ 16) (hs : ∀ x ∈ xs, x.size ≤ 200) : ∀ i : Nat, i ≤ xs.length → l99_3 xs (joinN (xs.take i)) (i : Int) = some (injRs [RT.d .str] (joinN xs)) := by
  have bnd : ∀ i, (joinN (xs.take i)).size ≤ 201 * 16 := fun i => by
    rw [joinN_size]
    have h := joinP_len 200 ((xs.take i).map dl) (fun x hx => by
      obtain ⟨y, hy, rfl⟩ := List.mem_map.1 hx
      show y.data.toList.length ≤ 200
      rw [data_len]; exact hs y (List.mem_of_mem_take hy))
    rw [List.length_map, List.length_take] at h
    have : (200 + 1) * min i xs.length ≤ 201 * 16 := Nat.mul_le_mul_left _ (by omega)
    omega
  refine upTo (fun i hi ih => ?_) ?_
  · refine cutG_step ((q99_3 ..).trans ?_)
    have hb := bnd i
    have hx := hs _ (List.getElem_mem hi)
    have hsz : ({ data := #[47] } : Txt).size = 1 := rfl
    have ht : (xs.take (i + 1)).map dl = (xs.take i).map dl ++ [dl xs[i]] := by rw [List.take_succ_eq_append_getElem hi, List.map_append]; rfl
    rw [ifs_pos (by simpa using hi)]
    by_cases h0 : i = 0
    · subst h0
      have e : joinN (xs.take 0) ++ xs[0] = joinN (xs.take (0 + 1)) := ext_of (by
        rw [joinN_data, ht, ByteArray.data_append, Array.toList_append, joinN_data]
        simp [joinP])
      rw [ifs_neg (by simp), ifs_pos (by omega), show Int.toNat ((0 : Nat) : Int) = 0 from rfl, List.getElem?_eq_getElem hi, Option.bind_some, ifs_pos (by omega), e, wrS hi (by simp only [top]; omega)]
      exact ih
    · have e : joinN (xs.take i) ++ slash ++ xs[i] = joinN (xs.take (i + 1)) := ext_of (by
        rw [joinN_data, ht, joinP_snoc _ _ (fun e => by have := congrArg List.length e; simp only [List.length_map, List.length_take, List.length_nil] at this; omega), ByteArray.data_append, Array.toList_append, ByteArray.data_append, Array.toList_append, joinN_data]
        simp)
      have h2 : (joinN (xs.take i) ++ ({ data := #[47] } : Txt)).size = (joinN (xs.take i)).size + 1 := by rw [ByteArray.size_append]; rfl
      rw [ifs_pos (by simp; omega), ifs_pos (by omega), ifs_pos (by omega), Int.toNat_natCast, List.getElem?_eq_getElem hi, Option.bind_some, ifs_pos (by omega), wrS hi (by simp only [top]; omega)]
      rw [show (joinN (xs.take i) ++ { data := #[47] } ++ xs[i] : Txt) = joinN (xs.take (i + 1)) from e]
      exact ih
  · refine cutG_step ((q99_3 ..).trans ?_)
    rw [ifs_neg (by simp), List.take_length]
theorem join5_ok (xs : List Txt) (hl : xs.length ≤ 16) (hs : ∀ x ∈ xs, x.size ≤ 200) : cR 99 [RT.d .str] [inj (.sl .str) xs] = some (joinN xs) :=
  callT_of ((e99 xs).trans (join5_loop xs hl hs 0 (Nat.zero_le _)))
theorem up6_ok (p : Txt) : cR 41 [RT.d .str] [inj .str p] = some (upP p) := by
  refine callT_of ((e41 p).trans ?_)
  have h1 := names_le p
  rw [names5_ok, Option.bind_some, len0]
  by_cases h0 : names p = []
  · rw [ifs_pos (by simpa using h0)]
    unfold upP
    rw [h0]; rfl
  · have h2 := List.length_pos_iff.2 h0
    rw [ifs_neg (by simpa using h0), wr _ (by omega), ifs_pos (by omega), show ((names p).length : Int) - 1 = (((names p).length - 1 : Nat) : Int) by omega, Int.toNat_natCast, take_last, join5_ok _ (by rw [List.length_dropLast]; omega) (fun x hx => names_size (List.dropLast_subset _ hx)), Option.bind_some]
    rfl

end Go.Proofs.YtokecnkjgoghhaaDoor.Sp
end
section
/- Rows of files in order: where a path stands, a file put in; the program's answers and the reference's. Conditions: lengths as they stand in each statement. -/
set_option linter.unusedVariables false
set_option linter.unusedSimpArgs false
namespace Go.Proofs.YtokecnkjgoghhaaDoor.Sp
open Go Go.Proofs.YtokecnkjgoghhaaDoor.Ab Go.Proofs.YtokecnkjgoghhaaDoor.Tb Go.Proofs.YtokecnkjgoghhaaDoor.EText

def Srt (l : List Fil) : Prop := l.Pairwise (fun a b => lessP a.1 b.1 = true)
def cnt (l : List Fil) (p : Txt) : Nat := (l.filter (fun e => lessP e.1 p)).length
def hasP (l : List Fil) (p : Txt) : Bool := match l[cnt l p]? with | some e => decide (e.1 = p) | none => false
def lo (l : List Fil) (p : Txt) : List Fil := l.filter (fun e => lessP e.1 p)
def hi (l : List Fil) (p : Txt) : List Fil := l.filter (fun e => lessP p e.1)
/-- A file, put in at its place. -/
def put (l : List Fil) (f : Fil) : List Fil := lo l f.1 ++ [f] ++ hi l f.1
def del (l : List Fil) (p : Txt) : List Fil := l.filter (fun x => !decide (x.1 = p))
theorem cnt_le (l : List Fil) (p : Txt) : cnt l p ≤ l.length := List.length_filter_le _ _
theorem srt_none {a : Fil} {l : List Fil} {p : Txt} (h : Srt (a :: l)) (hp : lessP a.1 p = false) : ∀ e ∈ l, lessP e.1 p = false := fun e he => by
  cases h2 : lessP e.1 p with
  | false => rfl
  | true =>
    have := lessP_trans ((List.pairwise_cons.1 h).1 e he) h2
    rw [hp] at this; cases this
theorem cnt_cons (a : Fil) (l : List Fil) (p : Txt) : cnt (a :: l) p = (if lessP a.1 p then 1 else 0) + cnt l p := by
  unfold cnt
  rw [List.filter_cons]
  split <;> simp <;> omega
theorem cnt_zero {l : List Fil} {p : Txt} (h : ∀ e ∈ l, lessP e.1 p = false) : cnt l p = 0 := by
  unfold cnt
  rw [List.filter_eq_nil_iff.2 (fun e he => by simp [h e he])]; rfl
theorem srt_at : ∀ {l : List Fil} {p : Txt}, Srt l → ∀ (i : Nat) (h : i < l.length), lessP l[i].1 p = decide (i < cnt l p)
  | a :: l, p, hs, i, h => by
    have hs' := (List.pairwise_cons.1 hs).2
    rw [cnt_cons]
    cases ha : lessP a.1 p with
    | true =>
      cases i with
      | zero => simp [ha]; omega
      | succ i =>
        rw [List.getElem_cons_succ, srt_at hs' i (by simpa using h), decide_eq_decide]
        simp; omega
    | false =>
      have hn := srt_none hs ha
      rw [cnt_zero hn]
      cases i with
      | zero => simp [ha]
      | succ i =>
        rw [List.getElem_cons_succ, hn _ (List.getElem_mem _)]
        simp
theorem take_lo : ∀ {l : List Fil} (p : Txt), Srt l → l.take (cnt l p) = lo l p
  | [], _, _ => rfl
  | a :: l, p, hs => by
    have hs' := (List.pairwise_cons.1 hs).2
    unfold lo
    rw [cnt_cons, List.filter_cons]
    cases ha : lessP a.1 p with
    | true =>
      rw [if_pos rfl, if_pos rfl, Nat.add_comm, List.take_succ_cons, take_lo p hs']
      rfl
    | false =>
      have hn := srt_none hs ha
      rw [cnt_zero hn, if_neg (by simp), if_neg (by simp), List.filter_eq_nil_iff.2 (fun e he => by simp [hn e he])]
      rfl
theorem hi_all {a : Fil} {l : List Fil} {p : Txt} (h : Srt (a :: l)) (hp : lessP p a.1 = true ∨ a.1 = p) : l.filter (fun e => lessP p e.1) = l :=
  List.filter_eq_self.2 fun e he => by
    have h1 := (List.pairwise_cons.1 h).1 e he
    rcases hp with hp | hp
    · exact lessP_trans hp h1
    · rw [← hp]; exact h1
theorem drop_hi : ∀ {l : List Fil} (p : Txt), Srt l → hi l p = l.drop (cnt l p + (if hasP l p then 1 else 0))
  | [], _, _ => by simp [hi, cnt]
  | a :: l, p, hs => by
    have hs' := (List.pairwise_cons.1 hs).2
    cases ha : lessP a.1 p with
    | true =>
      have e1 : cnt (a :: l) p = cnt l p + 1 := by rw [cnt_cons, ha, if_pos rfl]; omega
      have e2 : hasP (a :: l) p = hasP l p := by unfold hasP; rw [e1]; rfl
      have e3 : hi (a :: l) p = hi l p := by unfold hi; rw [List.filter_cons, if_neg (by rw [lessP_asym ha]; simp)]
      rw [e1, e2, e3, drop_hi p hs', show cnt l p + 1 + (if hasP l p = true then 1 else 0) = (cnt l p + (if hasP l p = true then 1 else 0)) + 1 by omega, List.drop_succ_cons]
    | false =>
      have hn := srt_none hs ha
      have e1 : cnt (a :: l) p = 0 := by rw [cnt_cons, ha, if_neg (by simp), cnt_zero hn]
      have e2 : hasP (a :: l) p = decide (a.1 = p) := by unfold hasP; rw [e1]; rfl
      rw [e1, e2]
      by_cases h : a.1 = p
      · rw [if_pos (by simpa using h)]
        unfold hi
        rw [List.filter_cons, if_neg (by rw [h, lessP_irrefl]; simp), hi_all hs (.inr h)]
        rfl
      · rw [if_neg (by simpa using h)]
        have hpa : lessP p a.1 = true := by
          cases h2 : lessP p a.1 with
          | true => rfl
          | false => exact absurd (lessP_tri ha h2) h
        unfold hi
        rw [List.filter_cons, if_pos hpa, hi_all hs (.inl hpa)]
        rfl
theorem hasP_at {l : List Fil} {p : Txt} (h : hasP l p = true) : ∃ hlt : cnt l p < l.length, l[cnt l p].1 = p := by
  unfold hasP at h
  split at h
  · rename_i e he
    obtain ⟨h1, h2⟩ := List.getElem?_eq_some_iff.1 he
    exact ⟨h1, by rw [h2]; exact of_decide_eq_true h⟩
  · cases h
theorem hasP_mem {l : List Fil} {p : Txt} (hs : Srt l) : hasP l p = true ↔ ∃ e ∈ l, e.1 = p := by
  constructor
  · intro h
    obtain ⟨h1, h2⟩ := hasP_at h
    exact ⟨_, List.getElem_mem h1, h2⟩
  · rintro ⟨e, he, rfl⟩
    obtain ⟨i, hi, rfl⟩ := List.getElem_of_mem he
    have h1 := srt_at (p := l[i].1) hs i hi
    rw [lessP_irrefl] at h1
    have hic : ¬ i < cnt l l[i].1 := of_decide_eq_false h1.symm
    have hci : ¬ cnt l l[i].1 < i := fun hlt => by
      have h2 := (List.pairwise_iff_getElem.1 hs) (cnt l l[i].1) i (by omega) hi hlt
      rw [srt_at hs _ (by omega)] at h2
      exact Nat.lt_irrefl _ (of_decide_eq_true h2)
    have e : cnt l l[i].1 = i := by omega
    unfold hasP
    rw [e, List.getElem?_eq_getElem hi]
    simp

/-! ### What may stand in a row -/
structure Fk (f : Fil) : Prop where
  r : rightP f.1 = true
  l : LOk f.2.2
  n : f.2.2.length ≤ 1000
theorem Fk.size {f : Fil} (h : Fk f) : f.1.size ≤ 200 := by
  have h := h.r
  unfold rightP at h
  simp only [Bool.and_eq_true, decide_eq_true_eq] at h
  exact h.1
structure Tk (l : List Fil) : Prop where
  s : Srt l
  f : ∀ f ∈ l, Fk f
  n : l.length ≤ 1000

theorem own_ok (f : Fil) (h : f.2.2.length ≤ 1000) : cR 96 [RT.d ty68] [inj ty68 f] = some f := by
  refine callT_of ((e96 f).trans ?_)
  rw [clone_ok _ (by omega), Option.bind_some, List.take_length]
theorem mid_ok (i j : Nat) (h : i + j ≤ 1000000) : IntKind.i64.wrap (Int.fdiv (IntKind.u64.wrap (IntKind.i64.wrap ((i : Int) + (j : Int)))) ((2 : Int) ^ min (Int.toNat 1) (IntKind.bits IntKind.u64))) = (((i + j) / 2 : Nat) : Int) := by
  have e1 : IntKind.i64.wrap ((i : Int) + (j : Int)) = (i : Int) + j := wr _ (by omega)
  rw [e1, IntWalk.u64_in _ (by omega)]
  have e : ((2 : Int) ^ min (Int.toNat 1) (IntKind.bits IntKind.u64)) = 2 := by decide
  rw [e, Int.fdiv_eq_ediv_of_nonneg _ (by omega), wr _ (by omega)]
  omega
theorem bin_loop (l : List Fil) (hl : Tk l) (p : Txt) (hp : p.size ≤ 100000) : ∀ (d i j : Nat), j - i ≤ d → i ≤ cnt l p → cnt l p ≤ j → j ≤ l.length →
    l145_3 l l.length (i : Int) (j : Int) p false [] = some (injRs [RT.d (.int .i64), RT.d .bool] ((cnt l p : Int), hasP l p)) := by
  intro d
  have fin : ∀ i j : Nat, j ≤ i → i ≤ cnt l p → cnt l p ≤ j → j ≤ l.length → l145_3 l l.length (i : Int) (j : Int) p false [] = some (injRs [RT.d (.int .i64), RT.d .bool] ((cnt l p : Int), hasP l p)) := by
    intro i j hd hi hj hn
    obtain rfl : i = cnt l p := by omega
    obtain rfl : j = cnt l p := by omega
    refine cutG_step ((q145_3 ..).trans ?_)
    rw [ifs_neg (by simp)]
    by_cases hlt : cnt l p < l.length
    · rw [ifs_pos (by simpa using hlt), ifs_pos (by omega), Int.toNat_natCast, List.getElem?_eq_getElem hlt, Option.bind_some, torder_ok _ (p, false, []) (by have := (hl.f _ (List.getElem_mem hlt)).size; omega) hp, Option.bind_some]
      congr 3
      unfold hasP
      rw [List.getElem?_eq_getElem hlt]
      have hno : lessP l[cnt l p].1 p = false := by rw [srt_at hl.s _ hlt]; simp
      unfold ordP
      rw [hno]
      by_cases h : l[cnt l p].1 = p
      · rw [h, lessP_irrefl]; simp [h]
      · cases h2 : lessP p l[cnt l p].1 with
        | true => simp [h]
        | false => exact absurd (lessP_tri hno h2) h
    · rw [ifs_neg (by simpa using hlt)]
      congr 3
      unfold hasP
      rw [List.getElem?_eq_none (by omega)]
  induction d with
  | zero => intro i j hd; exact fin i j (by omega)
  | succ d ih =>
    intro i j hd hi hj hn
    by_cases hij : i < j
    · have hln := hl.n
      have hmid : (i + j) / 2 < l.length := by omega
      refine cutG_step ((q145_3 ..).trans ?_)
      rw [mid_ok i j (by omega), ifs_pos (by simp; omega), ifs_pos (by omega), Int.toNat_natCast, List.getElem?_eq_getElem hmid, Option.bind_some, torder_ok _ (p, false, []) (by have := (hl.f _ (List.getElem_mem hmid)).size; omega) hp, Option.bind_some]
      have ha := srt_at (p := p) hl.s _ hmid
      by_cases hlt : (i + j) / 2 < cnt l p
      · rw [ifs_pos (by unfold ordP; rw [ha, if_pos (by simpa using hlt)]; decide), wrS hmid (by simp only [top]; omega)]
        exact ih _ _ (by omega) (by omega) hj hn
      · rw [ifs_neg (by unfold ordP; rw [ha, if_neg (by simpa using hlt)]; split <;> decide)]
        exact ih _ _ (by omega) hi (by omega) (by omega)
    · exact fin i j (by omega) hi hj hn
theorem place_ok (l : List Fil) (hl : Tk l) (p : Txt) (hp : p.size ≤ 100000) : cR 97 [RT.d (.int .i64), RT.d .bool] [inj ty55 (l, ()), inj .str p] = some ((cnt l p : Int), hasP l p) := by
  refine callT_of ((e97 (l, ()) p).trans ?_)
  have hb : cR 145 [RT.d (.int .i64), RT.d .bool] [inj (.sl ty68) l, inj ty68 (p, false, []), A.c (C.cl 146 [])] = some ((cnt l p : Int), hasP l p) :=
    callT_of ((e145 l (p, false, [])).trans (bin_loop l hl p hp l.length 0 l.length (by omega) (Nat.zero_le _) (cnt_le _ _) (Nat.le_refl _)))
  rw [hb, Option.bind_some]
def zf : Fil := (⟨#[]⟩, false, [])
def getP (l : List Fil) (p : Txt) : Fil × Bool := match l[cnt l p]? with | some e => if e.1 = p then (e, true) else (zf, false) | none => (zf, false)
theorem getP_snd (l : List Fil) (p : Txt) : (getP l p).2 = hasP l p := by
  unfold getP hasP
  split
  · rename_i e he
    by_cases h : e.1 = p <;> simp [h]
  · rfl
theorem get_ok (l : List Fil) (hl : Tk l) (p : Txt) (hp : p.size ≤ 100000) : cR 39 [RT.d ty68, RT.d .bool] [inj ty55 (l, ()), inj .str p] = some (getP l p) := by
  refine callT_of ((e39 (l, ()) p).trans ?_)
  rw [place_ok l hl p hp, Option.bind_some]
  cases h : hasP l p with
  | false =>
    rw [ifs_pos (by simp)]
    have e : getP l p = (zf, false) := by
      unfold getP
      unfold hasP at h
      split at h
      · rw [if_neg (of_decide_eq_false h)]
      · rfl
    rw [e]; rfl
  | true =>
    obtain ⟨h1, h2⟩ := hasP_at h
    rw [ifs_neg (by simp), ifs_pos (by omega), Int.toNat_natCast, List.getElem?_eq_getElem h1, Option.bind_some, own_ok _ (hl.f _ (List.getElem_mem h1)).n, Option.bind_some]
    unfold getP
    rw [List.getElem?_eq_getElem h1]
    simp [h2]
def findP (l : List Fil) (p : Txt) : Int := if hasP l p then (cnt l p : Int) else -1
theorem find6_ok (l : List Fil) (hl : Tk l) (p : Txt) : cR 40 [RT.d (.int .i64)] [inj (.sl ty68) l, inj .str p] = some (findP l p) := by
  have hln := hl.n
  have key : ∀ i : Nat, i ≤ l.length → l40_2 l p (i : Int) = some (injRs [RT.d (.int .i64)] (if i ≤ cnt l p ∧ hasP l p = true then (cnt l p : Int) else -1)) := by
    refine upTo (fun i hi ih => ?_) ?_
    · refine cutG_step ((q40_2 ..).trans ?_)
      rw [ifs_pos (by simpa using hi), ifs_pos (by omega), Int.toNat_natCast, List.getElem?_eq_getElem hi, Option.bind_some, bat]
      by_cases h : l[i].1 = p
      · have hp : hasP l p = true := (hasP_mem hl.s).2 ⟨_, List.getElem_mem hi, h⟩
        obtain ⟨h1, h2⟩ := hasP_at hp
        have h3 := srt_at (p := p) hl.s i hi
        rw [h, lessP_irrefl] at h3
        have h4 : ¬ i < cnt l p := of_decide_eq_false h3.symm
        have h5 : ¬ cnt l p < i := fun hlt => by
          have h6 := (List.pairwise_iff_getElem.1 hl.s) (cnt l p) i h1 hi hlt
          rw [h2, h, lessP_irrefl] at h6; cases h6
        rw [ifs_pos (by simpa using h), if_pos ⟨by omega, hp⟩, show cnt l p = i by omega]
      · rw [ifs_neg (by simpa using h), wrS hi (by simp only [top]; omega), ih]
        congr 2
        by_cases hp : hasP l p = true
        · obtain ⟨h1, h2⟩ := hasP_at hp
          have : i ≠ cnt l p := fun e => by subst e; exact h h2
          by_cases hc : i ≤ cnt l p
          · rw [if_pos ⟨by omega, hp⟩, if_pos ⟨hc, hp⟩]
          · rw [if_neg (fun h => hc (by omega)), if_neg (fun h => hc h.1)]
        · rw [if_neg (fun h => hp h.2), if_neg (fun h => hp h.2)]
    · refine cutG_step ((q40_2 ..).trans ?_)
      rw [ifs_neg (by simp)]
      rw [if_neg]
      rintro ⟨h1, h2⟩
      obtain ⟨h3, _⟩ := hasP_at h2
      omega
  refine callT_of ((e40 l p).trans (key 0 (Nat.zero_le _) |>.trans ?_))
  unfold findP
  congr 2
  by_cases h : hasP l p = true
  · rw [if_pos ⟨Nat.zero_le _, h⟩, if_pos h]
  · rw [if_neg (fun x => h x.2), if_neg h]

theorem clonef_ok (l : List Fil) (h : l.length ≤ 1000) : cR 172 [RT.own 68 ty68] [inj (.sl ty68) l] = some l :=
  callT_of (by
    show (if l.length * 48 ≤ 140737488355328 then some [RV.own 68 ClF.tyP l] else none) = _
    rw [if_pos (by omega)]; rfl)
theorem insf_ok (l : List Fil) (i : Nat) (f : Fil) (h : l.length ≤ 1000) (hi : i ≤ l.length) : cR 173 [RT.own 68 ty68] [inj (.sl ty68) l, inj (.int .i64) (i : Int), inj (.sl ty68) [f]] = some (l.take i ++ [f] ++ l.drop i) :=
  callT_of (by
    show (if (0 : Int) ≤ (i : Int) ∧ (i : Int) ≤ l.length ∧ [f].length = 1 ∧ (l.length + 1) * 48 ≤ 100000000000000 then some [RV.own 68 ClF.tyP (l.take (i : Int).toNat ++ [f] ++ l.drop (i : Int).toNat)] else none) = _
    rw [if_pos ⟨by omega, by omega, rfl, by omega⟩, Int.toNat_natCast]; rfl)
theorem delf_ok (l : List Fil) (p : Txt) (h : l.length ≤ 1000) : cR 174 [RT.own 68 ty68] [inj (.sl ty68) l, A.c (C.cl 175 [Pt.sh .str p 0])] = some (del l p) :=
  callT_of (by
    show (if l.length ≤ 9223372036854775806 then some [RV.own 68 ClF.tyP (l.filter fun x => !decide (x.1 = p))] else none) = _
    rw [if_pos (by omega)]; rfl)
theorem with_ok (l : List Fil) (hl : Tk l) (f : Fil) (hf : Fk f) : cR 138 [RT.d ty55] [inj ty55 (l, ()), inj ty68 f] = some (put l f, ()) := by
  refine callT_of ((e138 (l, ()) f).trans ?_)
  have hc := cnt_le l f.1
  have h2 := drop_hi f.1 hl.s
  rw [place_ok l hl f.1 (by have := hf.size; omega), Option.bind_some, clonef_ok l hl.n, Option.bind_some, own_ok f hf.n, Option.bind_some]
  unfold put
  rw [← take_lo f.1 hl.s, h2]
  cases h : hasP l f.1 with
  | true =>
    obtain ⟨h1, _⟩ := hasP_at h
    rw [ifs_pos rfl]
    show ifs ((0 : Int) ≤ (cnt l f.1 : Int) ∧ (cnt l f.1 : Int) < (l.length : Int)) (Option.bind l[Int.toNat (cnt l f.1 : Int)]? fun r_3 => some (injRs [RT.d ty55] (List.take l.length (l.set (Int.toNat (cnt l f.1 : Int)) f), ()))) none = _
    rw [ifs_pos (by omega), Int.toNat_natCast, List.getElem?_eq_getElem h1, Option.bind_some, if_pos rfl, List.take_of_length_le (by simp), List.set_eq_take_append_cons_drop, if_pos h1]
    simp
  | false =>
    rw [ifs_neg (by simp), Option.bind_some, List.take_length, insf_ok l _ f hl.n hc, Option.bind_some, List.take_length, if_neg (by simp)]
    rfl
theorem without_ok (l : List Fil) (hl : l.length ≤ 1000) (p : Txt) : cR 140 [RT.d ty55] [inj ty55 (l, ()), inj .str p] = some (del l p, ()) := by
  refine callT_of ((e140 (l, ()) p).trans ?_)
  rw [clonef_ok l hl, Option.bind_some, List.take_length, delf_ok l p hl, Option.bind_some, List.take_length]

end Go.Proofs.YtokecnkjgoghhaaDoor.Sp
end
section
/- The reference's rows of files: put in, taken out, in order; what lies in a directory. Conditions: lengths as they stand in each statement. -/
set_option linter.unusedVariables false
set_option linter.unusedSimpArgs false
namespace Go.Proofs.YtokecnkjgoghhaaDoor.Sp
open Go Go.Proofs.YtokecnkjgoghhaaDoor.Ab Go.Proofs.YtokecnkjgoghhaaDoor.Tb Go.Proofs.YtokecnkjgoghhaaDoor.EText

theorem without6_ok (l : List Fil) (hl : l.length ≤ 2000) (p : Txt) : cR 95 [RT.own 68 ty68] [inj (.sl ty68) l, inj .str p] = some (del l p) := by
  have key : ∀ i : Nat, i ≤ l.length → ∀ acc : List Fil, acc.length ≤ i → l95_3 l p (i : Int) acc = some (injRs [RT.own 68 ty68] (acc ++ del (l.drop i) p)) := by
    refine upTo (fun i hi ih => ?_) ?_
    · intro acc ha
      refine cutG_step ((q95_3 ..).trans ?_)
      have b1 : (acc.length + 1) * 48 ≤ 140737488355328 := by omega
      have hd : del (l.drop i) p = (if l[i].1 = p then [] else [l[i]]) ++ del (l.drop (i + 1)) p := by
        rw [List.drop_eq_getElem_cons hi]
        unfold del
        rw [List.filter_cons]
        by_cases h : l[i].1 = p <;> simp [h]
      rw [ifs_pos (by simpa using hi), ifs_pos (by omega), Int.toNat_natCast, List.getElem?_eq_getElem hi, Option.bind_some, bat, hd]
      by_cases h : l[i].1 = p
      · rw [ifs_neg (by simp [h]), if_pos h, wrS hi (by simp only [top]; omega), ih acc (by omega)]
        rfl
      · rw [ifs_pos (by simp [h]), if_neg h, ifs_pos (by omega), Option.bind_some, ifs_pos b1, List.take_length, wrS hi (by simp only [top]; omega), ih _ (by simp; omega), List.append_assoc]
    · intro acc ha
      refine cutG_step ((q95_3 ..).trans ?_)
      rw [ifs_neg (by simp), List.take_length, List.drop_length]
      simp [del]
  have := key 0 (Nat.zero_le _) [] (Nat.zero_le _)
  rw [List.drop_zero, List.nil_append] at this
  exact callT_of ((e95 l p).trans this)

/-- An element put in at a place. -/
theorem sort6_ok (l : List Fil) (hl : Tk l) (f : Fil) (hne : hasP l f.1 = false) : cR 143 [RT.own 68 ty68] [inj (.sl ty68) (l ++ [f])] = some (put l f) := by
  have hln := hl.n
  have hput : l.take (cnt l f.1) ++ [f] ++ l.drop (cnt l f.1) = put l f := by
    unfold put
    rw [take_lo f.1 hl.s, drop_hi f.1 hl.s, hne, if_neg (by simp)]
    rfl
  have hlen : (put l f).length = l.length + 1 := by
    rw [← hput]
    have := cnt_le l f.1
    simp only [List.length_append, List.length_take, List.length_drop, List.length_cons, List.length_nil]; omega
  have last : l143_3 (l ++ [f]) ((l.length + 1 : Nat) : Int) (put l f) = some (injRs [RT.own 68 ty68] (put l f)) := by
    refine cutG_step ((q143_3 ..).trans ?_)
    rw [ifs_neg (by simp), List.take_length]
  have gl : (l ++ [f])[l.length]? = some f := by simp
  have inner : ∀ d : Nat, cnt l f.1 + d ≤ l.length → l143_6 (l ++ [f]) (l.length : Int) ((cnt l f.1 + d : Nat) : Int) l = some (injRs [RT.own 68 ty68] (put l f)) := by
    intro d
    induction d with
    | zero =>
      intro hk
      refine cutG_step ((q143_6 ..).trans ?_)
      have hw : IntKind.i64.wrap ((l.length : Int) + 1) = ((l.length + 1 : Nat) : Int) := by rw [wr _ (by omega)]; omega
      by_cases h0 : cnt l f.1 = 0
      · rw [ifs_neg (by simp [h0]), ifs_pos (by omega), ifs_pos (by simp; omega), ifs_pos (by omega), Int.toNat_natCast, Int.toNat_natCast, gl, Option.bind_some, ifs_pos (by simp; omega), ifs_pos (by omega), ifs_pos (by omega), ifs_pos (by simp; omega)]
        simp only [List.nil_append, List.take_length, Int.toNat_natCast, Nat.add_zero, hput, hw]
        exact last
      · obtain ⟨k, hk1⟩ : ∃ k, cnt l f.1 = k + 1 := ⟨cnt l f.1 - 1, by omega⟩
        have hkl : k < l.length := by omega
        have hw2 : IntKind.i64.wrap (((cnt l f.1 + 0 : Nat) : Int) - 1) = (k : Int) := by rw [wr _ (by omega)]; omega
        have hless : lessP f.1 l[k].1 = false := lessP_asym (by rw [srt_at hl.s _ hkl]; exact decide_eq_true (by omega))
        rw [ifs_pos (by simp; omega), ifs_pos (by omega), Int.toNat_natCast, gl, Option.bind_some, hw2, ifs_pos (by omega), Int.toNat_natCast, List.getElem?_eq_getElem hkl, Option.bind_some, less5_ok, Option.bind_some, hless, ifs_neg (by simp), ifs_pos (by omega), ifs_pos (by simp; omega), ifs_pos (by omega), Option.bind_some, ifs_pos (by simp; omega), ifs_pos (by omega), ifs_pos (by omega), ifs_pos (by simp; omega)]
        simp only [List.nil_append, List.take_length, Int.toNat_natCast, Nat.add_zero, hput, hw]
        exact last
    | succ d ih =>
      intro hk
      refine cutG_step ((q143_6 ..).trans ?_)
      have hkl : cnt l f.1 + d < l.length := by omega
      have hw2 : IntKind.i64.wrap (((cnt l f.1 + (d + 1) : Nat) : Int) - 1) = ((cnt l f.1 + d : Nat) : Int) := by rw [wr _ (by omega)]; omega
      have hless : lessP f.1 l[cnt l f.1 + d].1 = true := by
        cases h : lessP f.1 l[cnt l f.1 + d].1 with
        | true => rfl
        | false =>
          have h2 : lessP l[cnt l f.1 + d].1 f.1 = false := by rw [srt_at hl.s _ hkl]; simp
          have h3 := lessP_tri h2 h
          have := (hasP_mem (p := f.1) hl.s).2 ⟨_, List.getElem_mem hkl, h3⟩
          rw [hne] at this; cases this
      rw [ifs_pos (by simp; omega), ifs_pos (by omega), Int.toNat_natCast, gl, Option.bind_some, hw2, ifs_pos (by omega), Int.toNat_natCast, List.getElem?_eq_getElem hkl, Option.bind_some, less5_ok, Option.bind_some, hless, ifs_pos rfl]
      exact ih (by omega)
  have key : ∀ i : Nat, i ≤ l.length → l143_3 (l ++ [f]) (i : Int) (l.take i) = some (injRs [RT.own 68 ty68] (put l f)) := by
    refine upTo (fun i hi ih => ?_) ?_
    · refine cutG_step ((q143_3 ..).trans ?_)
      have g : (l ++ [f])[i]? = some l[i] := by rw [List.getElem?_append_left hi, List.getElem?_eq_getElem hi]
      have hti : (l.take i).length = i := by rw [List.length_take]; omega
      have hw : IntKind.i64.wrap ((i : Int) + 1) = ((i + 1 : Nat) : Int) := by rw [wr _ (by omega)]; omega
      have hjoin : (l.take i).take i ++ [l[i]] ++ (l.take i).drop i = l.take (i + 1) := by
        rw [List.take_of_length_le (by omega), List.drop_of_length_le (by omega), List.append_nil, List.take_succ_eq_append_getElem hi]
      rw [ifs_pos (by simp; omega), hti]
      refine cutG_step ((q143_6 ..).trans ?_)
      rw [hti]
      by_cases h0 : i = 0
      · rw [ifs_neg (by simp [h0]), ifs_pos (by omega), ifs_pos (by simp; omega), ifs_pos (by omega), Int.toNat_natCast, g, Option.bind_some, ifs_pos (by simp; omega), ifs_pos (by omega), ifs_pos (by omega), ifs_pos (by simp; omega)]
        simp only [List.nil_append, List.take_length, hw]
        have e : (l.take i).take i = l.take i := List.take_of_length_le (by omega)
        rw [e] at hjoin ⊢
        rw [hjoin]
        exact ih
      · obtain ⟨k, rfl⟩ : ∃ k, i = k + 1 := ⟨i - 1, by omega⟩
        have hw2 : IntKind.i64.wrap (((k + 1 : Nat) : Int) - 1) = (k : Int) := by rw [wr _ (by omega)]; omega
        have gk : (l.take (k + 1))[k]? = some l[k] := by rw [List.getElem?_take, if_pos (by omega), List.getElem?_eq_getElem (by omega)]
        have hless : lessP l[k + 1].1 l[k].1 = false := lessP_asym ((List.pairwise_iff_getElem.1 hl.s) k (k + 1) (by omega) hi (by omega))
        rw [ifs_pos (by simp), ifs_pos (by omega), Int.toNat_natCast, g, Option.bind_some, hw2, ifs_pos (by omega), Int.toNat_natCast, gk, Option.bind_some, less5_ok, Option.bind_some, hless, ifs_neg (by simp), ifs_pos (by omega), ifs_pos (by simp; omega), ifs_pos (by omega), Option.bind_some, ifs_pos (by simp; omega), ifs_pos (by omega), ifs_pos (by omega), ifs_pos (by simp; omega)]
        simp only [List.nil_append, List.take_length, hw]
        have e : (l.take (k + 1)).take (k + 1) = l.take (k + 1) := List.take_of_length_le (by omega)
        rw [e] at hjoin ⊢
        rw [hjoin]
        exact ih
    · refine cutG_step ((q143_3 ..).trans ?_)
      have hc := cnt_le l f.1
      have := inner (l.length - cnt l f.1) (by omega)
      rw [show cnt l f.1 + (l.length - cnt l f.1) = l.length by omega] at this
      rw [ifs_pos (by simp; omega), List.take_length]
      exact this
  exact callT_of ((e143 _).trans (key 0 (Nat.zero_le _)))

theorem srt_del {l : List Fil} (h : Srt l) (p : Txt) : Srt (del l p) := h.filter _
theorem tk_del {l : List Fil} (h : Tk l) (p : Txt) : Tk (del l p) :=
  ⟨srt_del h.s p, fun f hf => h.f f ((List.mem_filter.1 hf).1), Nat.le_trans (List.length_filter_le _ _) h.n⟩
theorem has_del {l : List Fil} (h : Srt l) (p : Txt) : hasP (del l p) p = false := by
  cases hh : hasP (del l p) p with
  | false => rfl
  | true =>
    obtain ⟨e, he, h2⟩ := (hasP_mem (srt_del h p)).1 hh
    have := (List.mem_filter.1 he).2
    simp [h2] at this
theorem put_del (l : List Fil) (f : Fil) : put (del l f.1) f = put l f := by
  unfold put lo hi del
  rw [List.filter_filter, List.filter_filter]
  congr 1
  · congr 1
    apply List.filter_congr
    intro e _
    by_cases h : e.1 = f.1
    · simp [h, lessP_irrefl]
    · simp [h]
  · apply List.filter_congr
    intro e _
    by_cases h : e.1 = f.1
    · simp [h, lessP_irrefl]
    · simp [h]
theorem with6_ok (l : List Fil) (hl : Tk l) (f : Fil) : cR 93 [RT.own 68 ty68] [inj (.sl ty68) l, inj ty68 f] = some (put l f) := by
  refine callT_of ((e93 l f).trans ?_)
  have hd := tk_del hl f.1
  have hdn := hd.n
  have b1 : ((del l f.1).length + 1) * 48 ≤ 140737488355328 := by omega
  have hs : cR 143 [RT.own 68 ty68] [inj (.sl ty68) (del l f.1 ++ [f])] = some (put l f) := by rw [sort6_ok _ hd f (has_del hl.s f.1), put_del]
  rw [without6_ok l (by have := hl.n; omega), Option.bind_some, ifs_pos b1, List.take_length, List.take_length, hs, Option.bind_some, List.take_length]

/-! ### Directories -/
def nope : Txt := ⟨#[]⟩
def dirB (l : List Fil) (p : Txt) : Bool := decide (p = nope) || (getP l p).1.2.1
theorem tdir_ok (l : List Fil) (hl : Tk l) (p : Txt) (hp : p.size ≤ 100000) : cR 139 [RT.d .bool] [inj ty55 (l, ()), inj .str p] = some (dirB l p) := by
  refine callT_of ((e139 (l, ()) p).trans ?_)
  rw [get_ok l hl p hp, Option.bind_some, bat]
  unfold dirB nope
  by_cases h : p = ⟨#[]⟩
  · rw [ifs_neg (by simp [h])]; simp [h]
  · rw [ifs_pos (by simp [h]), getP_snd]
    have hz : hasP l p = false → (getP l p).1.2.1 = false := fun hh => by
      unfold getP
      unfold hasP at hh
      split
      · rename_i e he
        rw [he] at hh
        rw [if_neg (of_decide_eq_false hh)]; rfl
      · rfl
    cases hh : hasP l p with
    | true => rw [ifs_pos rfl]; simp [h]
    | false => rw [ifs_neg (by simp), hz hh]; simp [h]
theorem getP_find {l : List Fil} {p : Txt} (h : hasP l p = true) : l[cnt l p]? = some (getP l p).1 := by
  obtain ⟨h1, h2⟩ := hasP_at h
  unfold getP
  rw [List.getElem?_eq_getElem h1]
  simp [h2]
theorem getP_no {l : List Fil} {p : Txt} (h : hasP l p = false) : getP l p = (zf, false) := by
  unfold getP
  unfold hasP at h
  split
  · rename_i e he
    rw [he] at h
    rw [if_neg (of_decide_eq_false h)]
  · rfl
theorem dir6_ok (l : List Fil) (hl : Tk l) (p : Txt) : cR 92 [RT.d .bool] [inj (.sl ty68) l, inj .str p] = some (dirB l p) := by
  refine callT_of ((e92 l p).trans ?_)
  rw [find6_ok l hl p, Option.bind_some, bat]
  unfold dirB nope findP
  by_cases h : p = ⟨#[]⟩
  · rw [ifs_neg (by simp [h])]; simp [h]
  · rw [ifs_pos (by simp [h])]
    cases hh : hasP l p with
    | true => rw [if_pos rfl, ifs_pos (by simp), ifs_pos (by omega), Int.toNat_natCast, getP_find hh, Option.bind_some]; simp [h]
    | false => rw [if_neg (by simp), ifs_neg (by decide), getP_no hh]; simp [h, zf]
def roomB (l : List Fil) (p : Txt) : Int := if dirB l (upP p) = false then 9 else if l.length ≥ 500 then 4 else 0
theorem room_ok (l : List Fil) (hl : Tk l) (p : Txt) (hp : p.size ≤ 100000) : cR 137 [RT.d (.int .i64)] [inj ty55 (l, ()), inj .str p] = some (roomB l p) := by
  refine callT_of ((e137 (l, ()) p).trans ?_)
  have hu : (upP p).size ≤ 10000 := joinN_up_size p
  rw [pdir_ok p hp, Option.bind_some, tdir_ok l hl _ (by omega), Option.bind_some]
  unfold roomB
  cases h : dirB l (upP p) with
  | false => rw [ifs_pos (by simp)]; rfl
  | true =>
    rw [ifs_neg (by simp), if_neg (by simp)]
    by_cases h5 : l.length ≥ 500
    · rw [ifs_pos (by simp; omega), if_pos h5]
    · rw [ifs_neg (by simp; omega), if_neg h5]

theorem all_ok (l : List Fil) (hl : Tk l) : cR 36 [RT.own 68 ty68] [inj ty55 (l, ())] = some l := by
  have hln := hl.n
  have key : ∀ i : Nat, i ≤ l.length → l36_3 l l.length (i : Int) (l.take i) = some (injRs [RT.own 68 ty68] l) := by
    refine upTo (fun i hi ih => ?_) ?_
    · refine cutG_step ((q36_3 ..).trans ?_)
      rw [ifs_pos (by simpa using hi), ifs_pos (by omega), Int.toNat_natCast, List.getElem?_eq_getElem hi, Option.bind_some, own_ok _ (hl.f _ (List.getElem_mem hi)).n, Option.bind_some, ifs_pos (by simp; omega), List.take_length, wrS hi (by simp only [top]; omega), ← List.take_succ_eq_append_getElem hi]
      exact ih
    · refine cutG_step ((q36_3 ..).trans ?_)
      rw [ifs_neg (by simp), List.take_length, List.take_length]
  exact callT_of ((e36 (l, ())).trans (key 0 (Nat.zero_le _)))
def inP (l : List Fil) (p : Txt) : List Txt := (l.filter (fun e => decide (upP e.1 = p))).map (·.1)
theorem inP_drop (l : List Fil) (p : Txt) {i : Nat} (hi : i < l.length) : inP (l.drop i) p = (if upP l[i].1 = p then [l[i].1] else []) ++ inP (l.drop (i + 1)) p := by
  rw [List.drop_eq_getElem_cons hi]
  unfold inP
  rw [List.filter_cons]
  by_cases h : upP l[i].1 = p <;> simp [h]
theorem tin1_ok (q p : Txt) (hq : q.size ≤ 100000) : cR 100 [RT.d .bool] [inj .str q, A.c (C.pt (Pt.sh .str p 0))] = some (decide (upP q = p)) := by
  refine callT_of ((e100 q p).trans ?_)
  rw [pdir_ok q hq, Option.bind_some, bat]
theorem tin_loop (l : List Fil) (hl : Tk l) (p : Txt) : ∀ i : Nat, i ≤ l.length → ∀ acc : List Txt, acc.length ≤ i → l43_4v1 l l.length (i : Int) acc p = some (injRs [RT.own 9 .str] (acc ++ inP (l.drop i) p)) := by
  have hln := hl.n
  refine upTo (fun i hi ih => ?_) ?_
  · intro acc ha
    refine cutG_step ((q43_4v1 ..).trans ?_)
    have b1 : (acc.length + 1) * 16 ≤ 140737488355328 := by omega
    rw [ifs_pos (by simpa using hi), ifs_pos (by omega), Int.toNat_natCast, List.getElem?_eq_getElem hi, Option.bind_some, tin1_ok _ p (by have := (hl.f _ (List.getElem_mem hi)).size; omega), Option.bind_some, inP_drop l p hi]
    by_cases h : upP l[i].1 = p
    · rw [ifs_pos (by simpa using h), ifs_pos b1, List.take_length, wrS hi (by simp only [top]; omega), ih _ (by simp; omega), if_pos h, List.append_assoc]
    · rw [ifs_neg (by simpa using h), wrS hi (by simp only [top]; omega), ih _ (by omega), if_neg h]; rfl
  · intro acc ha
    refine cutG_step ((q43_4v1 ..).trans ?_)
    rw [ifs_neg (by simp), List.take_length, List.drop_length]
    simp [inP]
theorem tin_ok (l : List Fil) (hl : Tk l) (p : Txt) : cR 43 [RT.own 9 .str] [inj ty55 (l, ()), inj .str p] = some (inP l p) := by
  have hln := hl.n
  refine callT_of ((e43 (l, ()) p).trans ?_)
  refine cutG_step ((q43_4 ..).trans ?_)
  rcases Nat.eq_zero_or_pos l.length with h0 | h0
  · obtain rfl := List.eq_nil_of_length_eq_zero h0
    rw [ifs_neg (by simp)]; rfl
  · have g0 : l[Int.toNat 0]? = some l[0] := List.getElem?_eq_getElem h0
    have hw : IntKind.i64.wrap ((0 : Int) + 1) = ((0 + 1 : Nat) : Int) := wr _ (by omega)
    have e := inP_drop l p h0
    rw [List.drop_zero] at e
    rw [ifs_pos (by simpa using h0), ifs_pos (by omega), g0, Option.bind_some, tin1_ok _ p (by have := (hl.f _ (List.getElem_mem h0)).size; omega), Option.bind_some, hw, e]
    by_cases h : upP l[0].1 = p
    · rw [ifs_pos (by simpa using h), ifs_pos (by simp), if_pos h]
      exact tin_loop l hl p 1 (by omega) [l[0].1] (by simp)
    · rw [ifs_neg (by simpa using h), if_neg h]
      exact tin_loop l hl p 1 (by omega) [] (by simp)
theorem size_ok (l : List Fil) (hl : l.length ≤ 1000) : ∃ a b : Int, cR 37 [RT.d (.int .i64), RT.d (.int .i64)] [inj ty55 (l, ())] = some (a, b) ∧ a + b = l.length ∧ 0 ≤ a ∧ 0 ≤ b := by
  have key : ∀ i : Nat, i ≤ l.length → ∀ a b : Int, 0 ≤ a → 0 ≤ b → a + b = i → ∃ c d : Int, l37_3 a b l l.length (i : Int) = some (injRs [RT.d (.int .i64), RT.d (.int .i64)] (c, d)) ∧ c + d = l.length ∧ 0 ≤ c ∧ 0 ≤ d := by
    refine upTo (fun i hi ih => ?_) ?_
    · intro a b ha hb hab
      by_cases h : l[i].2.1 = true
      · obtain ⟨c, d, h1, h2⟩ := ih a (b + 1) ha (by omega) (by omega)
        refine ⟨c, d, cutG_step ((q37_3 ..).trans ?_), h2⟩
        rw [ifs_pos (by simpa using hi), ifs_pos (by omega), Int.toNat_natCast, List.getElem?_eq_getElem hi, Option.bind_some, ifs_pos h, wr _ (by omega), wrS hi (by simp only [top]; omega)]
        exact h1
      · obtain ⟨c, d, h1, h2⟩ := ih (a + 1) b (by omega) hb (by omega)
        refine ⟨c, d, cutG_step ((q37_3 ..).trans ?_), h2⟩
        rw [ifs_pos (by simpa using hi), ifs_pos (by omega), Int.toNat_natCast, List.getElem?_eq_getElem hi, Option.bind_some, ifs_neg h, wr _ (by omega), wrS hi (by simp only [top]; omega)]
        exact h1
    · intro a b ha hb hab
      exact ⟨a, b, cutG_step ((q37_3 ..).trans (by rw [ifs_neg (by simp)])), hab, ha, hb⟩
  obtain ⟨c, d, h1, h2⟩ := key 0 (Nat.zero_le _) 0 0 (Int.le_refl _) (Int.le_refl _) rfl
  exact ⟨c, d, callT_of ((e37 (l, ())).trans h1), h2⟩
theorem same6_ok (l : List Fil) (hl : l.length ≤ 1000) (hf : ∀ f ∈ l, f.2.2.length ≤ 1000) : cR 38 [RT.d .bool] [inj (.sl ty68) l, inj (.sl ty68) l] = some true := by
  have key : ∀ i : Nat, i ≤ l.length → l38_4 l l (i : Int) = some (injRs [RT.d .bool] true) := by
    refine upTo (fun i hi ih => ?_) ?_
    · refine cutG_step ((q38_4 ..).trans ?_)
      rw [ifs_pos (by simpa using hi), ifs_pos (by omega), Int.toNat_natCast, List.getElem?_eq_getElem hi, Option.bind_some, ifs_pos (by omega), Option.bind_some, ifs_pos (by simp), ifs_pos (by omega), Option.bind_some, ifs_pos (by omega), Option.bind_some, ifs_pos (by simp), ifs_pos (by omega), Option.bind_some, ifs_pos (by omega), Option.bind_some, same1_ok _ _ (by have := hf _ (List.getElem_mem hi); simp only [top]; omega), Option.bind_some, ifs_neg (by simp), wrS hi (by simp only [top]; omega)]
      exact ih
    · refine cutG_step ((q38_4 ..).trans ?_)
      rw [ifs_neg (by simp)]
  refine callT_of ((e38 l l).trans ?_)
  rw [ifs_neg (by simp)]
  exact key 0 (Nat.zero_le _)

end Go.Proofs.YtokecnkjgoghhaaDoor.Sp
end
section
/- Each call of a tree: the program's answer and the reference's. Conditions: lengths as they stand in each statement. -/
set_option linter.unusedVariables false
set_option linter.unusedSimpArgs false
namespace Go.Proofs.YtokecnkjgoghhaaDoor.Sp
open Go Go.Proofs.YtokecnkjgoghhaaDoor.Ab Go.Proofs.YtokecnkjgoghhaaDoor.Tb Go.Proofs.YtokecnkjgoghhaaDoor.EText

abbrev Cal := Int × Txt × Txt × List Txt
def mkP (l : List Fil) (p : Txt) : List Fil × Int := if rightP p = false then ([], 8) else if hasP l p = true then ([], 10) else if roomB l p ≠ 0 then ([], roomB l p) else (put l (p, true, []), 0)
def wrP (l : List Fil) (p : Txt) (ls : List Txt) : List Fil × Int :=
  if rightP p = false then ([], 8) else if (getP l p).1.2.1 = true then ([], 11) else if checkL ls ≠ 0 then ([], checkL ls) else if roomB l p ≠ 0 ∧ hasP l p = false then ([], roomB l p) else (put l (p, false, ls), 0)
def rmP (l : List Fil) (p : Txt) : List Fil × Int :=
  if rightP p = false then ([], 8) else if hasP l p = false then ([], 9) else if (getP l p).1.2.1 = true ∧ inP l p ≠ [] then ([], 12) else (del l p, 0)
def mvP (l : List Fil) (p q : Txt) : List Fil × Int :=
  if rightP p = false ∨ rightP q = false then ([], 8) else if hasP l p = false then ([], 9) else if (getP l p).1.2.1 = true then ([], 11) else if hasP l q = true then ([], 10) else if dirB l (upP q) = false then ([], 9)
  else (put (del l p) (q, false, (getP l p).1.2.2), 0)
def DoP (l : List Fil) (c : Cal) : List Fil × Int := if c.1 = 0 then mkP l c.2.1 else if c.1 = 1 then wrP l c.2.1 c.2.2.2 else if c.1 = 2 then rmP l c.2.1 else mvP l c.2.1 c.2.2.1

theorem right_size {p : Txt} (h : rightP p = true) : p.size ≤ 200 := by
  unfold rightP at h
  simp only [Bool.and_eq_true, decide_eq_true_eq] at h
  exact h.1
theorem mkdir_ok (l : List Fil) (hl : Tk l) (p : Txt) (hp : p.size ≤ 100000) : cR 87 [RT.d ty55, RT.d (.int .i64)] [inj ty55 (l, ()), inj .str p] = some (((mkP l p).1, ()), (mkP l p).2) := by
  refine callT_of ((e87 (l, ()) p).trans ?_)
  rw [pright_ok p hp, Option.bind_some, get_ok l hl p hp, Option.bind_some, getP_snd, room_ok l hl p hp, Option.bind_some]
  unfold mkP
  cases hr : rightP p with
  | false => rw [ifs_pos (by rfl), if_pos rfl]
  | true =>
    rw [ifs_neg (by simp), if_neg (by simp)]
    cases hh : hasP l p with
    | true => rw [ifs_pos rfl, if_pos rfl]
    | false =>
      rw [ifs_neg (by simp), if_neg (by simp)]
      by_cases h0 : roomB l p = 0
      · rw [ifs_neg (by simp [h0]), if_neg (by simp [h0]), with_ok l hl (p, true, []) ⟨hr, ⟨by simp [top], fun s h => by cases h⟩, by simp⟩, Option.bind_some]
      · rw [ifs_pos (by simpa using h0), if_pos h0]
theorem write_ok (l : List Fil) (hl : Tk l) (p : Txt) (hp : p.size ≤ 100000) (ls : List Txt) (hls : LOk ls) (hn : ls.length ≤ 1000) : cR 88 [RT.d ty55, RT.d (.int .i64)] [inj ty55 (l, ()), inj .str p, inj (.sl .str) ls] = some (((wrP l p ls).1, ()), (wrP l p ls).2) := by
  refine callT_of ((e88 (l, ()) p ls).trans ?_)
  rw [pright_ok p hp, Option.bind_some, get_ok l hl p hp, Option.bind_some, getP_snd, room_ok l hl p hp, Option.bind_some, lcheck_ok ls hls, Option.bind_some]
  unfold wrP
  cases hr : rightP p with
  | false => rw [ifs_pos (by rfl), if_pos rfl]
  | true =>
    rw [ifs_neg (by simp), if_neg (by simp)]
    cases hd : (getP l p).1.2.1 with
    | true => rw [ifs_pos rfl, if_pos rfl]
    | false =>
      rw [ifs_neg (by simp), if_neg (by simp)]
      by_cases hc : checkL ls = 0
      · rw [ifs_neg (by simp [hc]), if_neg (by simp [hc])]
        have hw := with_ok l hl (p, false, ls) ⟨hr, hls, hn⟩
        by_cases h0 : roomB l p = 0
        · rw [ifs_neg (by simp [h0]), if_neg (by simp [h0]), hw, Option.bind_some]
        · rw [ifs_pos (by simpa using h0)]
          cases hh : hasP l p with
          | false => rw [ifs_pos (by rfl), if_pos ⟨h0, rfl⟩]
          | true => rw [ifs_neg (by simp), if_neg (by simp), hw, Option.bind_some]
      · rw [ifs_pos (by simpa using hc), if_pos hc]
theorem lenpos {α : Type} (l : List α) : decide (((l.length : Nat) : Int) > 0) = decide (l ≠ []) := by
  cases l with
  | nil => rfl
  | cons a l => simp
theorem remove_ok (l : List Fil) (hl : Tk l) (p : Txt) (hp : p.size ≤ 100000) : cR 91 [RT.d ty55, RT.d (.int .i64)] [inj ty55 (l, ()), inj .str p] = some (((rmP l p).1, ()), (rmP l p).2) := by
  refine callT_of ((e91 (l, ()) p).trans ?_)
  have hw := without_ok l hl.n p
  rw [pright_ok p hp, Option.bind_some, get_ok l hl p hp, Option.bind_some, getP_snd, tin_ok l hl p, Option.bind_some, lenpos]
  unfold rmP
  cases hr : rightP p with
  | false => rw [ifs_pos (by rfl), if_pos rfl]
  | true =>
    rw [ifs_neg (by simp), if_neg (by simp)]
    cases hh : hasP l p with
    | false => rw [ifs_pos (by rfl), if_pos rfl]
    | true =>
      rw [ifs_neg (by simp), if_neg (by simp)]
      cases hd : (getP l p).1.2.1 with
      | true =>
        rw [ifs_pos rfl]
        by_cases h0 : inP l p = []
        · rw [ifs_neg (by simp [h0]), if_neg (by simp [h0]), hw, Option.bind_some]
        · rw [ifs_pos (by simpa using h0), if_pos ⟨rfl, h0⟩]
      | false => rw [ifs_neg (by simp), if_neg (by simp), hw, Option.bind_some]
theorem getP_mem {l : List Fil} {p : Txt} (h : hasP l p = true) : (getP l p).1 ∈ l ∧ (getP l p).1.1 = p := by
  have h1 := getP_find h
  obtain ⟨h2, h3⟩ := hasP_at h
  have h4 := List.mem_of_getElem? h1
  rw [List.getElem?_eq_getElem h2] at h1
  refine ⟨h4, ?_⟩
  rw [← Option.some.inj h1]; exact h3
theorem move_ok (l : List Fil) (hl : Tk l) (p q : Txt) (hp : p.size ≤ 100000) (hq : q.size ≤ 100000) : cR 89 [RT.d ty55, RT.d (.int .i64)] [inj ty55 (l, ()), inj .str p, inj .str q] = some (((mvP l p q).1, ()), (mvP l p q).2) := by
  refine callT_of ((e89 (l, ()) p q).trans ?_)
  have hu : (upP q).size ≤ 10000 := joinN_up_size q
  rw [pright_ok p hp, Option.bind_some, pright_ok q hq, Option.bind_some, get_ok l hl p hp, Option.bind_some, get_ok l hl q hq, Option.bind_some, getP_snd, getP_snd, pdir_ok q hq, Option.bind_some, tdir_ok l hl _ (by omega), Option.bind_some, without_ok l hl.n p, Option.bind_some]
  unfold mvP
  cases hr : rightP p with
  | false => rw [ifs_neg (by simp), if_pos (.inl rfl)]
  | true =>
    rw [ifs_pos (by simp)]
    cases hr2 : rightP q with
    | false => rw [ifs_pos (by rfl), if_pos (.inr rfl)]
    | true =>
      rw [ifs_neg (by simp), if_neg (by simp)]
      cases hh : hasP l p with
      | false => rw [ifs_pos (by rfl), if_pos rfl]
      | true =>
        rw [ifs_neg (by simp), if_neg (by simp)]
        cases hd : (getP l p).1.2.1 with
        | true => rw [ifs_pos rfl, if_pos rfl]
        | false =>
          rw [ifs_neg (by simp), if_neg (by simp)]
          cases hh2 : hasP l q with
          | true => rw [ifs_pos rfl, if_pos rfl]
          | false =>
            rw [ifs_neg (by simp), if_neg (by simp)]
            cases hd2 : dirB l (upP q) with
            | false => rw [ifs_pos (by rfl), if_pos rfl]
            | true =>
              have hf := hl.f _ (getP_mem hh).1
              have e : ((q, (getP l p).1.2) : Fil) = (q, false, (getP l p).1.2.2) := by rw [← hd]
              have hw := with_ok (del l p) (tk_del hl p) (q, false, (getP l p).1.2.2) ⟨hr2, hf.l, hf.n⟩
              rw [← e] at hw
              rw [ifs_neg (by simp), if_neg (by simp)]
              refine (congrArg (fun o => Option.bind o _) hw).trans ?_
              rw [Option.bind_some, e]
theorem do06_ok (l : List Fil) (hl : Tk l) (c : Cal) (hp : c.2.1.size ≤ 100000) (hq : c.2.2.1.size ≤ 100000) (hls : LOk c.2.2.2) (hn : c.2.2.2.length ≤ 1000) : cR 34 [RT.d ty55, RT.d (.int .i64)] [inj ty55 (l, ()), inj ty57 c] = some (((DoP l c).1, ()), (DoP l c).2) := by
  refine callT_of ((e34 (l, ()) c).trans ?_)
  rw [mkdir_ok l hl _ hp, Option.bind_some, write_ok l hl _ hp _ hls hn, Option.bind_some, remove_ok l hl _ hp, Option.bind_some, move_ok l hl _ _ hp hq, Option.bind_some]
  unfold DoP
  by_cases h0 : c.1 = 0
  · rw [ifs_pos (by simpa using h0), if_pos h0]
  · rw [ifs_neg (by simpa using h0), if_neg h0]
    by_cases h1 : c.1 = 1
    · rw [ifs_pos (by simpa using h1), if_pos h1]
    · rw [ifs_neg (by simpa using h1), if_neg h1]
      by_cases h2 : c.1 = 2
      · rw [ifs_pos (by simpa using h2), if_pos h2]
      · rw [ifs_neg (by simpa using h2), if_neg h2]

end Go.Proofs.YtokecnkjgoghhaaDoor.Sp
end
section
/- The reference's call of files is the program's of a tree, where each file's directory is there; which stays so. Conditions: lengths as they stand in each statement. -/
set_option linter.unusedVariables false
set_option linter.unusedSimpArgs false
namespace Go.Proofs.YtokecnkjgoghhaaDoor.Sp
open Go Go.Proofs.YtokecnkjgoghhaaDoor.Ab Go.Proofs.YtokecnkjgoghhaaDoor.Tb Go.Proofs.YtokecnkjgoghhaaDoor.EText

/-- Each file's directory is there. -/
def Dirs (l : List Fil) : Prop := ∀ f ∈ l, upP f.1 = nope ∨ ∃ g ∈ l, g.1 = upP f.1 ∧ g.2.1 = true
theorem getP_of {l : List Fil} (hs : Srt l) {g : Fil} (hg : g ∈ l) : getP l g.1 = (g, true) := by
  have hh := (hasP_mem (p := g.1) hs).2 ⟨g, hg, rfl⟩
  obtain ⟨h1, h2⟩ := getP_mem hh
  have h3 := getP_snd l g.1
  rw [hh] at h3
  obtain ⟨i, hi, e1⟩ := List.getElem_of_mem h1
  obtain ⟨j, hj, e2⟩ := List.getElem_of_mem hg
  have key : ∀ a b : Nat, ∀ (ha : a < l.length) (hb : b < l.length), l[a].1 = l[b].1 → ¬ a < b := fun a b ha hb he hlt => by
    have := (List.pairwise_iff_getElem.1 hs) a b ha hb hlt
    rw [he, lessP_irrefl] at this; cases this
  have hij : i = j := by
    have e3 : l[i].1 = l[j].1 := by rw [e1, e2]; exact h2
    have := key i j hi hj e3
    have := key j i hj hi e3.symm
    omega
  subst hij
  have e4 : (getP l g.1).1 = g := by rw [← e1]; exact e2
  exact Prod.ext e4 h3
theorem nope_up {p : Txt} (h : rightP p = true) : p ≠ nope := fun e => by
  subst e
  have h1 : names nope ≠ [] := by
    unfold names
    rw [if_pos h]
    have := segs_len nope
    intro e; rw [e] at this; simp at this
  exact h1 names_empty
theorem in_none {l : List Fil} (hl : Tk l) (hd : Dirs l) {p : Txt} (hr : rightP p = true) (h : (getP l p).1.2.1 = false) : inP l p = [] := by
  unfold inP
  rw [List.map_eq_nil_iff, List.filter_eq_nil_iff]
  intro f hf he
  have he : upP f.1 = p := of_decide_eq_true he
  rcases hd f hf with h0 | ⟨g, hg, h1, h2⟩
  · exact nope_up hr (by rw [← he]; exact h0)
  · have := getP_of hl.s hg
    rw [h1, he] at this
    rw [this] at h
    rw [h2] at h; cases h
theorem rm_loop (l : List Fil) (hl : Tk l) (k : Int) (p q : Txt) (ls : List Txt) : ∀ i : Nat, i ≤ l.length → l35_29 l (i : Int) k p q ls = some (injRs [RT.d (.sl ty68), RT.d (.int .i64)] (if inP (l.drop i) p ≠ [] then (l, 12) else (del l p, 0))) := by
  have hln := hl.n
  refine upTo (fun i hi ih => ?_) ?_
  · refine cutG_step ((q35_29 ..).trans ?_)
    rw [ifs_pos (by simpa using hi), ifs_pos (by omega), Int.toNat_natCast, List.getElem?_eq_getElem hi, Option.bind_some, up6_ok, Option.bind_some, bat, inP_drop l p hi]
    by_cases h : upP l[i].1 = p
    · rw [ifs_pos (by simpa using h), if_pos h, if_pos (by simp)]
    · rw [ifs_neg (by simpa using h), if_neg h, wrS hi (by simp only [top]; omega), ih]
      rfl
  · refine cutG_step ((q35_29 ..).trans ?_)
    rw [ifs_neg (by simp), without6_ok l (by omega) p, Option.bind_some, List.take_length, List.drop_length, if_neg (by simp [inP])]
theorem natge (n : Nat) : decide ((n : Int) ≥ 0) = true := by simp
theorem natlt (n : Nat) : decide ((n : Int) < 0) = false := by simp
set_option maxHeartbeats 2000000 in
theorem do6_ok (l : List Fil) (hl : Tk l) (hdir : Dirs l) (c : Cal) (hls : LOk c.2.2.2) : cR 35 [RT.d (.sl ty68), RT.d (.int .i64)] [inj (.sl ty68) l, inj ty57 c] = some (if (DoP l c).2 = 0 then (DoP l c).1 else l, (DoP l c).2) := by
  obtain ⟨k, p, q, ls⟩ := c
  refine callT_of ((e35 l (k, p, q, ls)).trans ?_)
  have hf := find6_ok l hl p
  have hfq := find6_ok l hl q
  have hup := up6_ok p
  have huq := up6_ok q
  have hdp := dir6_ok l hl (upP p)
  have hdq := dir6_ok l hl (upP q)
  have hck : cR 94 [RT.d (.int .i64)] [inj (.sl .str) ls] = some (checkL ls) := check3_ok ls hls
  have hw1 := with6_ok l hl (p, true, [])
  have hw2 := with6_ok l hl (p, false, ls)
  have hwo := without6_ok l (by have := hl.n; omega) p
  have hw3 : ∀ x, cR 93 [RT.own 68 ty68] [inj (.sl ty68) (del l p), inj ty68 (q, false, x)] = some (put (del l p) (q, false, x)) := fun x => with6_ok _ (tk_del hl p) _
  have hrm := rm_loop l hl k p q ls 0 (Nat.zero_le _)
  rw [List.drop_zero] at hrm
  have h5 : (¬ 500 ≤ l.length ∧ ¬ (500 : Int) ≤ (l.length : Int) ∧ (l.length : Int) < 500 ∧ l.length < 500) ∨ (500 ≤ l.length ∧ (500 : Int) ≤ (l.length : Int) ∧ ¬ (l.length : Int) < 500 ∧ ¬ l.length < 500) := by omega
  have hcn : ¬ ((cnt l p : Int) < 0) := by omega
  have hcq : ¬ ((cnt l q : Int) < 0) := by omega
  unfold DoP
  rw [right5_ok, Option.bind_some, right5_ok, Option.bind_some]
  cases hr : rightP p with
  | false =>
    rw [ifs_neg (by simp)]
    by_cases h0 : k = 0
    · rw [if_pos h0]; unfold mkP; rw [hr]; rfl
    · rw [if_neg h0]
      by_cases h1 : k = 1
      · rw [if_pos h1]; unfold wrP; rw [hr]; rfl
      · rw [if_neg h1]
        by_cases h2 : k = 2
        · rw [if_pos h2]; unfold rmP; rw [hr]; rfl
        · rw [if_neg h2]; unfold mvP; rw [hr]; rfl
  | true =>
    rw [ifs_pos (by rfl)]
    by_cases h0 : k = 0
    · subst h0
      rw [if_pos rfl, ifs_pos (by rfl), ifs_neg (by simp), hf, Option.bind_some]
      unfold mkP roomB findP
      rw [hr, hup, Option.bind_some, hdp, Option.bind_some]
      rcases h5 with h5 | h5 <;> cases hd : dirB l (upP p) <;> cases hh : hasP l p <;> simp [ifs, h5, hup, hdp, hcn, hcq, hw1, hd, hh]
    · rw [if_neg h0]
      by_cases h1 : k = 1
      · subst h1
        rw [if_pos rfl, ifs_pos (by rfl), ifs_neg (by simp), hf, Option.bind_some]
        unfold wrP roomB findP
        rw [hr, hup, Option.bind_some, hdp, Option.bind_some]
        cases hh : hasP l p with
        | false =>
          rw [getP_no hh]
          rcases h5 with h5 | h5 <;> cases hd : dirB l (upP p) <;> by_cases hc : checkL ls = 0 <;> simp [ifs, h5, hup, hdp, hcn, hcq, hw2, hd, hck, hc, zf]
        | true =>
          have hg := getP_find hh
          rcases h5 with h5 | h5 <;> cases hd : dirB l (upP p) <;> by_cases hc : checkL ls = 0 <;> cases hgd : (getP l p).1.2.1 <;> simp [ifs, h5, hup, hdp, hcn, hcq, hw2, hd, hck, hc, hg, hgd]
      · rw [if_neg h1]
        by_cases h2 : k = 2
        · subst h2
          rw [if_pos rfl, ifs_pos (by rfl), ifs_neg (by simp), hf, Option.bind_some]
          unfold rmP findP
          rw [hr, hup, Option.bind_some, hdp, Option.bind_some]
          have hrm : l35_29 l 0 2 p q ls = _ := hrm
          have hi : (getP l p).1.2.1 = false → inP l p = [] := in_none hl hdir hr
          cases hh : hasP l p with
          | false => rcases h5 with h5 | h5 <;> cases hd : dirB l (upP p) <;> simp [ifs, h5, hup, hdp, hcn, hcq, hd]
          | true =>
            cases hgd : (getP l p).1.2.1 with
            | false => rcases h5 with h5 | h5 <;> cases hd : dirB l (upP p) <;> simp [ifs, h5, hup, hdp, hcn, hcq, hd, hrm, hi hgd]
            | true => rcases h5 with h5 | h5 <;> cases hd : dirB l (upP p) <;> by_cases h6 : inP l p = [] <;> simp [ifs, h5, hup, hdp, hcn, hcq, hd, hrm, h6]
        · rw [if_neg h2]
          have hmv : ∀ e : Option (List RV), e = some (injRs [RT.d (.sl ty68), RT.d (.int .i64)] (if (mvP l p q).2 = 0 then (mvP l p q).1 else l, (mvP l p q).2)) → e = some (injRs [RT.d (.sl ty68), RT.d (.int .i64)] (if (mvP l p q).2 = 0 then (mvP l p q).1 else l, (mvP l p q).2)) := fun _ h => h
          have k0 : (k == 0) = false := by simpa using h0
          have k1 : (k == 1) = false := by simpa using h1
          have k2 : (k == 2) = false := by simpa using h2
          have hbr : ∀ X Y : Option (List RV), X = Y → (∀ Z, ifs (decide (k < 0) = false) (ifs (decide (k > 2) = true) X Z) Y = X) := fun X Y e Z => by
            by_cases h3 : k < 0
            · rw [ifs_neg (by simpa using h3)]; exact e.symm
            · rw [ifs_pos (by simpa using h3), ifs_pos (by simp; omega)]
          rw [hbr _ _ rfl]
          unfold mvP
          dsimp only
          rw [hr]
          cases hr2 : rightP q with
          | false => rw [ifs_pos (by rfl)]; simp
          | true =>
            have hx : ¬ (true = false ∨ true = false) := by simp
            simp only [if_neg hx]
            rw [ifs_neg (by simp), hf, Option.bind_some, hup, Option.bind_some, hdp, Option.bind_some]
            unfold findP at hfq ⊢
            cases hh : hasP l p with
            | false => rcases h5 with h5 | h5 <;> cases hd : dirB l (upP p) <;> simp [ifs, h5, hup, hdp, hcn, hcq, hd, k0, k1, k2]
            | true =>
              have hg := getP_find hh
              cases hgd : (getP l p).1.2.1 with
              | true => rcases h5 with h5 | h5 <;> cases hd : dirB l (upP p) <;> simp [ifs, h5, hup, hdp, hcn, hcq, hd, k0, k1, k2, hg, hgd]
              | false =>
                cases hq : hasP l q with
                | true =>
                  rw [hq, if_pos rfl] at hfq
                  rcases h5 with h5 | h5 <;> cases hd : dirB l (upP p) <;> simp [ifs, h5, hup, hdp, hcn, hcq, hd, k0, k1, k2, hg, hgd, hfq]
                | false =>
                  rw [hq, if_neg (by simp)] at hfq
                  cases hd2 : dirB l (upP q) <;> rw [hd2] at hdq <;> rcases h5 with h5 | h5 <;> cases hd : dirB l (upP p) <;> simp [ifs, h5, hup, hdp, hcn, hcq, hd, k0, k1, k2, hg, hgd, hfq, huq, hdq, hwo, hw3]

end Go.Proofs.YtokecnkjgoghhaaDoor.Sp
end
section
/- TreeDoes answers true, where its awake does. Conditions: lengths as they stand in each statement. -/
set_option linter.unusedVariables false
set_option linter.unusedSimpArgs false
namespace Go.Proofs.YtokecnkjgoghhaaDoor.Sp
open Go Go.Proofs.YtokecnkjgoghhaaDoor.Ab Go.Proofs.YtokecnkjgoghhaaDoor.Tb Go.Proofs.YtokecnkjgoghhaaDoor.EText

theorem put_len {l : List Fil} (hs : Srt l) (f : Fil) : (put l f).length ≤ l.length + 1 := by
  have h1 := cnt_le l f.1
  unfold put
  rw [drop_hi f.1 hs, ← take_lo f.1 hs]
  simp only [List.length_append, List.length_take, List.length_drop, List.length_cons, List.length_nil]
  omega
theorem mem_put {l : List Fil} {f e : Fil} : e ∈ put l f ↔ e = f ∨ (e ∈ l ∧ e.1 ≠ f.1) := by
  unfold put lo hi
  simp only [List.mem_append, List.mem_filter, List.mem_singleton]
  constructor
  · rintro ((⟨h1, h2⟩ | h) | ⟨h1, h2⟩)
    · exact .inr ⟨h1, fun e => by rw [e, lessP_irrefl] at h2; cases h2⟩
    · exact .inl h
    · exact .inr ⟨h1, fun e => by rw [e, lessP_irrefl] at h2; cases h2⟩
  · rintro (h | ⟨h1, h2⟩)
    · exact .inl (.inr h)
    · cases h3 : lessP e.1 f.1 with
      | true => exact .inl (.inl ⟨h1, rfl⟩)
      | false => cases h4 : lessP f.1 e.1 with
        | true => exact .inr ⟨h1, rfl⟩
        | false => exact absurd (lessP_tri h3 h4) h2
theorem srt_put {l : List Fil} (hs : Srt l) (f : Fil) : Srt (put l f) := by
  unfold put
  refine List.pairwise_append.2 ⟨List.pairwise_append.2 ⟨hs.filter _, List.pairwise_singleton _ _, fun a ha b hb => ?_⟩, hs.filter _, fun a ha b hb => ?_⟩
  · rw [List.mem_singleton.1 hb]; exact (List.mem_filter.1 ha).2
  · have h2 : lessP f.1 b.1 = true := (List.mem_filter.1 hb).2
    rcases List.mem_append.1 ha with ha | ha
    · exact lessP_trans (List.mem_filter.1 ha).2 h2
    · rw [List.mem_singleton.1 ha]; exact h2
theorem tk_put {l : List Fil} (hl : Tk l) {f : Fil} (hf : Fk f) (hn : l.length ≤ 900) : Tk (put l f) :=
  ⟨srt_put hl.s f, fun e he => by
    rcases mem_put.1 he with rfl | ⟨h, _⟩
    · exact hf
    · exact hl.f e h, Nat.le_trans (put_len hl.s f) (by omega)⟩
theorem up_ne {p : Txt} (h : rightP p = true) : upP p ≠ p := fun e => by
  have h1 := names_up p
  rw [e] at h1
  have h2 := congrArg List.length h1
  rw [List.length_dropLast] at h2
  have h3 := names_len p
  rw [h] at h3
  have := of_decide_eq_true h3
  omega
theorem dir_get {l : List Fil} (hs : Srt l) {p : Txt} (h : dirB l p = true) : p = nope ∨ ∃ g ∈ l, g.1 = p ∧ g.2.1 = true := by
  unfold dirB at h
  simp only [Bool.or_eq_true, decide_eq_true_eq] at h
  rcases h with h | h
  · exact .inl h
  · cases hh : hasP l p with
    | false => rw [getP_no hh] at h; cases h
    | true =>
      obtain ⟨h1, h2⟩ := getP_mem hh
      exact .inr ⟨_, h1, h2, h⟩
theorem dirs_put {l : List Fil} (hd : Dirs l) {f : Fil} (hr : rightP f.1 = true) (h1 : upP f.1 = nope ∨ ∃ g ∈ l, g.1 = upP f.1 ∧ g.2.1 = true) (h2 : ∀ g ∈ l, g.1 = f.1 → g.2.1 = true → f.2.1 = true) : Dirs (put l f) := by
  have key : ∀ u, (u = nope ∨ ∃ g ∈ l, g.1 = u ∧ g.2.1 = true) → u = nope ∨ ∃ g ∈ put l f, g.1 = u ∧ g.2.1 = true := fun u h => by
    rcases h with h | ⟨g, hg, e1, e2⟩
    · exact .inl h
    · by_cases hgf : g.1 = f.1
      · exact .inr ⟨f, mem_put.2 (.inl rfl), by rw [← hgf]; exact e1, h2 g hg hgf e2⟩
      · exact .inr ⟨g, mem_put.2 (.inr ⟨hg, hgf⟩), e1, e2⟩
  intro e he
  rcases mem_put.1 he with rfl | ⟨h, _⟩
  · exact key _ h1
  · exact key _ (hd e h)
theorem dirs_del {l : List Fil} (hd : Dirs l) {p : Txt} (h : ∀ g ∈ l, g.1 = p → g.2.1 = true → inP l p = []) : Dirs (del l p) := by
  intro e he
  obtain ⟨h1, h2⟩ := List.mem_filter.1 he
  rcases hd e h1 with h0 | ⟨g, hg, e1, e2⟩
  · exact .inl h0
  · refine .inr ⟨g, List.mem_filter.2 ⟨hg, ?_⟩, e1, e2⟩
    by_cases hgp : g.1 = p
    · exfalso
      have h3 := h g hg hgp e2
      unfold inP at h3
      rw [List.map_eq_nil_iff, List.filter_eq_nil_iff] at h3
      exact h3 e h1 (decide_eq_true (by rw [← e1]; exact hgp))
    · simp [hgp]
theorem do_nil {l : List Fil} {c : Cal} (h : (DoP l c).2 ≠ 0) : (DoP l c).1 = [] := by
  unfold DoP at h ⊢
  split at h <;> rename_i h0
  · rw [if_pos h0]; unfold mkP at h ⊢; repeat' split at h
    all_goals first | (simp_all; done) | (exact absurd rfl h)
  · rw [if_neg h0]
    split at h <;> rename_i h1
    · rw [if_pos h1]; unfold wrP at h ⊢; repeat' split at h
      all_goals first | (simp_all; done) | (exact absurd rfl h)
    · rw [if_neg h1]
      split at h <;> rename_i h2
      · rw [if_pos h2]; unfold rmP at h ⊢; repeat' split at h
        all_goals first | (simp_all; done) | (exact absurd rfl h)
      · rw [if_neg h2]; unfold mvP at h ⊢; repeat' split at h
        all_goals first | (simp_all; done) | (exact absurd rfl h)
theorem roomB_dir {l : List Fil} {p : Txt} (h : roomB l p = 0) : dirB l (upP p) = true := by
  unfold roomB at h
  cases hd : dirB l (upP p) with
  | true => rfl
  | false => rw [hd, if_pos rfl] at h; cases h
theorem do_keeps (l : List Fil) (hl : Tk l) (hd : Dirs l) (hn : l.length ≤ 900) (c : Cal) (hls : LOk c.2.2.2) (hlen : c.2.2.2.length ≤ 1000) (h : (DoP l c).2 = 0) : Tk (DoP l c).1 ∧ Dirs (DoP l c).1 ∧ (DoP l c).1.length ≤ l.length + 1 := by
  obtain ⟨k, p, q, ls⟩ := c
  unfold DoP at h ⊢
  dsimp only at h hls hlen ⊢
  by_cases h0 : k = 0
  · rw [if_pos h0] at h ⊢
    unfold mkP at h ⊢
    by_cases c1 : rightP p = false
    · rw [if_pos c1] at h; cases h
    rw [if_neg c1] at h ⊢
    have hr : rightP p = true := by simpa using c1
    by_cases c2 : hasP l p = true
    · rw [if_pos c2] at h; cases h
    rw [if_neg c2] at h ⊢
    by_cases c3 : roomB l p ≠ 0
    · rw [if_pos c3] at h; exact absurd h c3
    rw [if_neg c3]
    have hf : Fk (p, true, []) := ⟨hr, ⟨by simp [top], fun s h => by cases h⟩, by simp⟩
    exact ⟨tk_put hl hf hn, dirs_put hd hr (dir_get hl.s (roomB_dir (by simpa using c3))) (fun _ _ _ _ => rfl), put_len hl.s _⟩
  rw [if_neg h0] at h ⊢
  by_cases h1 : k = 1
  · rw [if_pos h1] at h ⊢
    unfold wrP at h ⊢
    by_cases c1 : rightP p = false
    · rw [if_pos c1] at h; cases h
    rw [if_neg c1] at h ⊢
    have hr : rightP p = true := by simpa using c1
    by_cases c2 : (getP l p).1.2.1 = true
    · rw [if_pos c2] at h; cases h
    rw [if_neg c2] at h ⊢
    by_cases c3 : checkL ls ≠ 0
    · rw [if_pos c3] at h; exact absurd h c3
    rw [if_neg c3] at h ⊢
    by_cases c4 : roomB l p ≠ 0 ∧ hasP l p = false
    · rw [if_pos c4] at h; exact absurd h c4.1
    rw [if_neg c4]
    have hf : Fk (p, false, ls) := ⟨hr, hls, hlen⟩
    refine ⟨tk_put hl hf hn, dirs_put hd hr ?_ (fun g hg e1 e2 => ?_), put_len hl.s _⟩
    · cases hh : hasP l p with
      | true =>
        obtain ⟨h2, h3⟩ := getP_mem hh
        have := hd _ h2
        rw [h3] at this
        exact this
      | false => exact dir_get hl.s (roomB_dir (by
          by_cases hz : roomB l p = 0
          · exact hz
          · exact absurd ⟨hz, hh⟩ c4))
    · have e1 : g.1 = p := e1
      have := getP_of hl.s hg
      rw [e1] at this
      rw [this] at c2
      exact absurd e2 c2
  rw [if_neg h1] at h ⊢
  by_cases h2 : k = 2
  · rw [if_pos h2] at h ⊢
    unfold rmP at h ⊢
    by_cases c1 : rightP p = false
    · rw [if_pos c1] at h; cases h
    rw [if_neg c1] at h ⊢
    by_cases c2 : hasP l p = false
    · rw [if_pos c2] at h; cases h
    rw [if_neg c2] at h ⊢
    by_cases c3 : (getP l p).1.2.1 = true ∧ inP l p ≠ []
    · rw [if_pos c3] at h; cases h
    rw [if_neg c3]
    refine ⟨tk_del hl p, dirs_del hd (fun g hg e1 e2 => ?_), Nat.le_succ_of_le (List.length_filter_le _ _)⟩
    have := getP_of hl.s hg
    rw [e1] at this
    rw [this] at c3
    by_cases h5 : inP l p = []
    · exact h5
    · exact absurd ⟨e2, h5⟩ c3
  rw [if_neg h2] at h ⊢
  unfold mvP at h ⊢
  by_cases c1 : rightP p = false ∨ rightP q = false
  · rw [if_pos c1] at h; cases h
  rw [if_neg c1] at h ⊢
  have hrq : rightP q = true := by
    cases hq : rightP q with
    | true => rfl
    | false => exact absurd (.inr hq) c1
  by_cases c2 : hasP l p = false
  · rw [if_pos c2] at h; cases h
  rw [if_neg c2] at h ⊢
  have hh : hasP l p = true := by simpa using c2
  by_cases c3 : (getP l p).1.2.1 = true
  · rw [if_pos c3] at h; cases h
  rw [if_neg c3] at h ⊢
  by_cases c4 : hasP l q = true
  · rw [if_pos c4] at h; cases h
  rw [if_neg c4] at h ⊢
  by_cases c5 : dirB l (upP q) = false
  · rw [if_pos c5] at h; cases h
  rw [if_neg c5]
  obtain ⟨m1, m2⟩ := getP_mem hh
  have hf0 := hl.f _ m1
  have hf : Fk (q, false, (getP l p).1.2.2) := ⟨hrq, hf0.l, hf0.n⟩
  have hpd : ∀ g ∈ l, g.1 = p → g.2.1 = true → False := fun g hg e1 e2 => by
    have := getP_of hl.s hg
    rw [e1] at this
    rw [this] at c3
    exact c3 e2
  have hlt : (del l p).length ≤ l.length := List.length_filter_le _ _
  refine ⟨tk_put (tk_del hl p) hf (by omega), dirs_put (dirs_del hd (fun g hg e1 e2 => (hpd g hg e1 e2).elim)) hrq ?_ (fun g hg e1 e2 => ?_), Nat.le_trans (put_len (srt_del hl.s p) _) (by omega)⟩
  · rcases dir_get hl.s (by simpa using c5) with h6 | ⟨g, hg, e1, e2⟩
    · exact .inl h6
    · refine .inr ⟨g, List.mem_filter.2 ⟨hg, ?_⟩, e1, e2⟩
      have : g.1 ≠ p := fun e => hpd g hg e e2
      simp [this]
  · exfalso
    exact c4 ((hasP_mem hl.s).2 ⟨g, (List.mem_filter.1 hg).1, e1⟩)

/-! ### The law -/
theorem light3_fact {l : List Txt} (h : light3 l = true) : l.length ≤ 60 ∧ ∀ s ∈ l, s.size ≤ 300 := by
  unfold light3 at h
  simp only [Bool.and_eq_true, List.all_eq_true, decide_eq_true_eq] at h
  exact ⟨h.2, h.1⟩
def POkc (c : Cal) : Prop := LOk c.2.2.2
theorem end_loop (haw : cR 32 [RT.d .bool] [] = some true) (p : Txt) (hp : p.size ≤ 300) (l : List Fil) (hl : Tk l) : ∀ i : Nat, i ≤ l.length → ∀ acc : List Txt, acc.length ≤ i → acc ++ inP (l.drop i) p = inP l p →
    l7_25v1 p l (hasP l p) (findP l p) (i : Int) l (getP l p).1.1 (getP l p).1.2.1 (getP l p).1.2.2 acc = some (injRs [RT.d .bool] true) := by
  have hln := hl.n
  have hin : (inP l p).length ≤ l.length := by unfold inP; rw [List.length_map]; exact List.length_filter_le _ _
  refine upTo (fun i hi ih => ?_) ?_
  · intro acc ha he
    refine cutG_step ((q7_25v1 ..).trans ?_)
    have b1 : (acc.length + 1) * 16 ≤ 140737488355328 := by omega
    rw [inP_drop l p hi] at he
    rw [ifs_pos (by simpa using hi), ifs_pos (by omega), Int.toNat_natCast, List.getElem?_eq_getElem hi, Option.bind_some, up6_ok, Option.bind_some, bat]
    by_cases h : upP l[i].1 = p
    · rw [if_pos h] at he
      rw [ifs_pos (by simpa using h), ifs_pos (by omega), Option.bind_some, ifs_pos b1, List.take_length, wrS hi (by simp only [top]; omega)]
      exact ih _ (by simp; omega) (by rw [List.append_assoc]; exact he)
    · rw [if_neg h] at he
      rw [ifs_neg (by simpa using h), wrS hi (by simp only [top]; omega)]
      exact ih _ (by omega) he
  · intro acc ha he
    rw [List.drop_length] at he
    have he : acc = inP l p := by rw [← he]; simp [inP]
    subst he
    refine cutG_step ((q7_25v1 ..).trans ?_)
    have hti := tin_ok l hl p
    have hs1 : cR 42 [RT.d .bool] [inj (.sl .str) (inP l p), inj (.sl .str) (inP l p)] = some true := by rw [same1_ok _ _ (by simp only [top]; omega)]; simp
    rw [ifs_neg (by simp), haw, Option.bind_some, ifs_pos rfl]
    unfold findP
    cases hh : hasP l p with
    | false => rw [if_neg (by simp), ifs_pos (by decide), ifs_neg (by simp), hti, Option.bind_some, List.take_length, hs1, Option.bind_some]
    | true =>
      have hg := getP_find hh
      obtain ⟨h1, h2⟩ := hasP_at hh
      have hm := getP_mem hh
      have hw : IntKind.i64.wrap ((cnt l p : Int) + 1) = ((cnt l p + 1 : Nat) : Int) := by rw [wr _ (by omega)]; omega
      have hd : (l.take (cnt l p + 1)).drop (cnt l p) = [(getP l p).1] := by
        rw [List.getElem?_eq_getElem h1] at hg
        rw [List.take_succ_eq_append_getElem h1, List.drop_append, List.drop_of_length_le (by rw [List.length_take]; omega), Option.some.inj hg]
        have : (l.take (cnt l p)).length = cnt l p := by rw [List.length_take]; omega
        rw [this, Nat.sub_self]; rfl
      have hs6 : cR 38 [RT.d .bool] [inj (.sl ty68) [((getP l p).1.1, (getP l p).1.2.1, (getP l p).1.2.2)], inj (.sl ty68) [(getP l p).1]] = some true :=
        same6_ok [(getP l p).1] (by simp) (fun f hf => by rw [List.mem_singleton.1 hf]; exact (hl.f _ hm.1).n)
      rw [if_pos rfl, hw, ifs_pos (by simp), ifs_pos (by simp), ifs_pos (by omega), ifs_pos (by omega), Int.toNat_natCast, Int.toNat_natCast, hd, hs6, Option.bind_some, ifs_pos rfl, hti, Option.bind_some, List.take_length, hs1, Option.bind_some]
theorem main_loop (haw : cR 32 [RT.d .bool] [] = some true) (x : List Cal) (hx : x.length ≤ top) (hc : ∀ c ∈ x, POkc c) (p : Txt) (hp : p.size ≤ 300) : ∀ i : Nat, i ≤ x.length → ∀ l : List Fil, Tk l → Dirs l → l.length ≤ i →
    l7_6v1 x p l (i : Int) l = some (injRs [RT.d .bool] true) := by
  refine upTo (fun i hi ih => ?_) ?_
  · intro l hl hd hn
    have hfin : (Option.bind (cR 39 [RT.d ty68, RT.d .bool] [inj ty55 (l, ()), inj .str p]) fun r => Option.bind (cR 40 [RT.d (.int .i64)] [inj (.sl ty68) l, inj .str p]) fun r_1 => l7_25v1 p l r.snd r_1 0 l r.fst.fst r.fst.snd.fst r.fst.snd.snd []) = some (injRs [RT.d .bool] true) := by
      rw [get_ok l hl p (by omega), Option.bind_some, find6_ok l hl p, Option.bind_some, getP_snd]
      exact end_loop haw p hp l hl 0 (Nat.zero_le _) [] (by simp) (by simp)
    refine cutG_step ((q7_6v1 ..).trans ?_)
    rw [ifs_pos (by simpa using hi)]
    by_cases h40 : i < 40
    · have hci := hc _ (List.getElem_mem hi)
      have hn9 : l.length ≤ 900 := by omega
      rw [ifs_pos (by simp; omega), ifs_pos (by omega), Int.toNat_natCast, List.getElem?_eq_getElem hi, Option.bind_some]
      by_cases s1 : x[i].2.1.size > 300
      · rw [ifs_neg (by simp; omega), haw]; rfl
      · rw [ifs_pos (by simp; omega)]
        by_cases s2 : x[i].2.2.1.size > 300
        · rw [ifs_neg (by simp; omega), haw]; rfl
        · rw [ifs_pos (by simp; omega), light3_ok _ hci.1, Option.bind_some]
          cases hlt : light3 x[i].2.2.2 with
          | false => rw [ifs_pos (by rfl), haw]; rfl
          | true =>
            have hlf := light3_fact hlt
            have hk := do_keeps l hl hd hn9 x[i] hci (by omega)
            have hnil := @do_nil l x[i]
            rw [ifs_neg (by simp), do06_ok l hl x[i] (by omega) (by omega) hci (by omega), Option.bind_some, do6_ok l hl hd x[i] hci, Option.bind_some, ifs_pos (by simp)]
            have tn : Tk [] := ⟨List.Pairwise.nil, fun f h => (by cases h), by simp⟩
            by_cases h0 : (DoP l x[i]).2 = 0
            · obtain ⟨k1, k2, k3⟩ := hk h0
              obtain ⟨a, b, hab, hs, ha, hb⟩ := size_ok (DoP l x[i]).1 k1.n
              rw [if_pos h0, ifs_neg (by simp [h0]), ifs_pos (by simp [h0]), hab, Option.bind_some, all_ok _ k1, Option.bind_some, List.take_length, same6_ok _ k1.n (fun f hf => (k1.f f hf).n), Option.bind_some, ifs_pos (by rfl), hs, wr _ (by have := k1.n; omega), ifs_neg (by simp), wrS hi hx]
              exact ih (DoP l x[i]).1 k1 k2 (by omega)
            · have he := hnil h0
              obtain ⟨a, b, hab, hs, ha, hb⟩ := size_ok l hl.n
              rw [if_neg h0, ifs_pos (by simpa using h0), he, all_ok [] tn, Option.bind_some, ifs_neg (by simp), ifs_neg (by simpa using h0), hab, Option.bind_some, all_ok _ hl, Option.bind_some, List.take_length, same6_ok _ hl.n (fun f hf => (hl.f f hf).n), Option.bind_some, ifs_pos (by rfl), hs, wr _ (by have := hl.n; omega), ifs_neg (by simp), wrS hi hx]
              exact ih _ hl hd (by omega)
    · rw [ifs_neg (by simp; omega)]
      exact hfin
  · intro l hl hd hn
    by_cases hbig : l.length ≤ 1000
    · have hfin : (Option.bind (cR 39 [RT.d ty68, RT.d .bool] [inj ty55 (l, ()), inj .str p]) fun r => Option.bind (cR 40 [RT.d (.int .i64)] [inj (.sl ty68) l, inj .str p]) fun r_1 => l7_25v1 p l r.snd r_1 0 l r.fst.fst r.fst.snd.fst r.fst.snd.snd []) = some (injRs [RT.d .bool] true) := by
        rw [get_ok l hl p (by omega), Option.bind_some, find6_ok l hl p, Option.bind_some, getP_snd]
        exact end_loop haw p hp l hl 0 (Nat.zero_le _) [] (by simp) (by simp)
      refine cutG_step ((q7_6v1 ..).trans ?_)
      rw [ifs_neg (by simp)]
      exact hfin
    · exact absurd hl.n hbig

theorem first_loop (haw : cR 32 [RT.d .bool] [] = some true) (x : List Cal) (hx : x.length ≤ top) (hc : ∀ c ∈ x, POkc c) (p : Txt) (hp : p.size ≤ 300) : ∀ i : Nat, i ≤ x.length → l7_6 x p (i : Int) = some (injRs [RT.d .bool] true) := by
  have tn : Tk [] := ⟨List.Pairwise.nil, fun f h => (by cases h), by simp⟩
  have dn : Dirs [] := fun f h => by cases h
  have hfin : (Option.bind (cR 39 [RT.d ty68, RT.d .bool] [inj ty55 ([], ()), inj .str p]) fun r => Option.bind (cR 40 [RT.d (.int .i64)] [inj (.sl ty68) [], inj .str p]) fun r_1 => l7_25 p r.snd r_1 0 r.fst.fst r.fst.snd.fst r.fst.snd.snd []) = some (injRs [RT.d .bool] true) := by
    rw [get_ok [] tn p (by omega), Option.bind_some, find6_ok [] tn p, Option.bind_some, getP_snd]
    have hh : hasP [] p = false := rfl
    refine cutG_step ((q7_25 ..).trans ?_)
    have hti := tin_ok [] tn p
    have hi : inP [] p = [] := rfl
    rw [hi] at hti
    have hs1 : cR 42 [RT.d .bool] [inj (.sl .str) ([] : List Txt), inj (.sl .str) ([] : List Txt)] = some true := by rw [same1_ok _ _ (by simp [top])]; simp
    unfold findP
    rw [hh, if_neg (by simp), ifs_neg (by decide), haw, Option.bind_some, ifs_pos rfl, ifs_pos (by decide), ifs_neg (by simp), hti, Option.bind_some]
    simp only [List.take_length]
    rw [hs1, Option.bind_some]
  refine upTo (fun i hi ih => ?_) ?_
  · refine cutG_step ((q7_6 ..).trans ?_)
    rw [ifs_pos (by simpa using hi)]
    by_cases h40 : i < 40
    · have hci := hc _ (List.getElem_mem hi)
      rw [ifs_pos (by simp; omega), ifs_pos (by omega), Int.toNat_natCast, List.getElem?_eq_getElem hi, Option.bind_some]
      by_cases s1 : x[i].2.1.size > 300
      · rw [ifs_neg (by simp; omega), haw]; rfl
      · rw [ifs_pos (by simp; omega)]
        by_cases s2 : x[i].2.2.1.size > 300
        · rw [ifs_neg (by simp; omega), haw]; rfl
        · rw [ifs_pos (by simp; omega), light3_ok _ hci.1, Option.bind_some]
          cases hlt : light3 x[i].2.2.2 with
          | false => rw [ifs_pos (by rfl), haw]; rfl
          | true =>
            have hlf := light3_fact hlt
            have hk := do_keeps [] tn dn (by simp) x[i] hci (by omega)
            have hnil := @do_nil [] x[i]
            rw [ifs_neg (by simp), do06_ok [] tn x[i] (by omega) (by omega) hci (by omega), Option.bind_some, do6_ok [] tn dn x[i] hci, Option.bind_some, ifs_pos (by simp)]
            by_cases h0 : (DoP [] x[i]).2 = 0
            · obtain ⟨k1, k2, k3⟩ := hk h0
              obtain ⟨a, b, hab, hs, ha, hb⟩ := size_ok (DoP [] x[i]).1 k1.n
              rw [if_pos h0, ifs_neg (by simp [h0]), ifs_pos (by simp [h0]), hab, Option.bind_some, all_ok _ k1, Option.bind_some, List.take_length, same6_ok _ k1.n (fun f hf => (k1.f f hf).n), Option.bind_some, ifs_pos (by rfl), hs, wr _ (by have := k1.n; omega), ifs_neg (by simp), wrS hi hx]
              exact main_loop haw x hx hc p hp (i + 1) hi (DoP [] x[i]).1 k1 k2 (by simp only [List.length_nil] at k3; omega)
            · have he := hnil h0
              obtain ⟨a, b, hab, hs, ha, hb⟩ := size_ok [] (by simp)
              have hs6 : cR 38 [RT.d .bool] [inj (.sl ty68) ([] : List Fil), inj (.sl ty68) ([] : List Fil)] = some true := same6_ok [] (by simp) (fun f h => by cases h)
              have hs : a + b = 0 := hs
              rw [ifs_pos (by simpa using h0), he, all_ok [] tn, Option.bind_some, ifs_neg (by simp), ifs_neg (by simpa using h0), hab, Option.bind_some, Option.bind_some]
              simp only [List.take_length]
              rw [hs6, Option.bind_some, ifs_pos (by rfl), hs, wr _ (by omega), ifs_neg (by simp), wrS hi hx]
              exact ih
    · rw [ifs_neg (by simp; omega)]
      exact hfin
  · refine cutG_step ((q7_6 ..).trans ?_)
    rw [ifs_neg (by simp)]
    exact hfin
theorem treeDoes_of (haw : cR 32 [RT.d .bool] [] = some true) (x : List Cal) (p : Txt) (hx : x.length ≤ top) (hc : ∀ c ∈ x, POkc c) : callW W0 7 [inj (.sl ty57) x, inj .str p] = some (injRs [RT.d .bool] true) := by
  refine callG_step ((e7 x p).trans ?_)
  by_cases h : p.size > 300
  · rw [ifs_pos (by simp; omega), haw]; rfl
  · rw [ifs_neg (by simp; omega)]
    exact first_loop haw x hx hc p (by omega) 0 (Nat.zero_le _)

end Go.Proofs.YtokecnkjgoghhaaDoor.Sp
end
section
/- How a row of a tree's calls stands in memory. No condition. -/
set_option linter.unusedVariables false
namespace Go.Proofs.YtokecnkjgoghhaaDoor.SpR
open Go Go.ChangeShapes Go.WideShapes Go.Proofs.YtokecnkjgoghhaaDoor.Ab Go.Proofs.YtokecnkjgoghhaaDoor.AbO Go.Proofs.YtokecnkjgoghhaaDoor.Tb
theorem c_call : Tryd.prog.cellsOf 57 = 4 := by kernel_rfl
abbrev Cal := Int × ByteArray × ByteArray × List ByteArray
def QC (c : Cal) : Prop := QI c.1 ∧ QT c.2.1 ∧ QT c.2.2.1 ∧ QL c.2.2.2
theorem op_call : AbO.Op Tryd.prog 57 ty57 QC := by
  intro H enc w base sp held fuel cs x h
  obtain ⟨hl, n, hf⟩ := EOpen.struct_get Tryd.underlying57 h
  rw [c_call] at hl
  obtain ⟨y0, h0⟩ := hf 0 _ rfl
  obtain ⟨y1, h1⟩ := hf 1 _ rfl
  obtain ⟨y2, h2⟩ := hf 2 _ rfl
  obtain ⟨y3, h3⟩ := hf 3 _ rfl
  replace h0 : DataW.trod enc Tryd.prog w base sp held n 3 ((cs.drop 0).take (Tryd.prog.cellsOf 3)) = some y0 := h0
  rw [c_int] at h0
  replace h1 : DataW.trod enc Tryd.prog w base sp held n 9 ((cs.drop 1).take (Tryd.prog.cellsOf 9)) = some y1 := h1
  rw [c_str] at h1
  replace h2 : DataW.trod enc Tryd.prog w base sp held n 9 ((cs.drop 2).take (Tryd.prog.cellsOf 9)) = some y2 := h2
  rw [c_str] at h2
  replace h3 : DataW.trod enc Tryd.prog w base sp held n 22 ((cs.drop 3).take (Tryd.prog.cellsOf 22)) = some y3 := h3
  rw [c_strs] at h3
  rw [List.drop_zero] at h0
  obtain ⟨d0, r0, q0⟩ := op_i enc w base sp held n _ _ h0
  obtain ⟨d1, r1, q1⟩ := op_s enc w base sp held n _ _ h1
  obtain ⟨d2, r2, q2⟩ := op_s enc w base sp held n _ _ h2
  obtain ⟨d3, r3, q3⟩ := op_ss enc w base sp held n _ _ h3
  refine ⟨(d0, d1, d2, d3), pair_T r0 (pair_T r1 (pair_T ?_ ?_)), q0, q1, q2, q3⟩
  · simp only [List.drop_drop]; exact r2
  · simp only [List.drop_drop]
    rw [List.take_of_length_le (by rw [List.length_drop]; omega)] at r3
    exact r3
theorem op_calls : AbO.Op Tryd.prog 52 (.sl ty57) (fun l => l.length ≤ maxLen ∧ ∀ c ∈ l, QC c) := op_slice (T := ty57) Tryd.underlying52 c_call (by decide) op_call
end Go.Proofs.YtokecnkjgoghhaaDoor.SpR
namespace Go.Proofs.YtokecnkjgoghhaaDoor.Sp
open Go
theorem call_of {c : Cal} (h : SpR.QC c) : POkc c := ⟨Nat.le_trans h.2.2.2.1 (by decide), fun s hs => Nat.le_trans (h.2.2.2.2 s hs) (by decide)⟩
theorem lenT_of {n : Nat} (h : n ≤ maxLen) : n ≤ top := Nat.le_trans h (by decide)
end Go.Proofs.YtokecnkjgoghhaaDoor.Sp
end
section
/- tree's awake comes to true. No condition. -/
set_option linter.unusedVariables false
set_option linter.unusedSimpArgs false
namespace Go.Proofs.YtokecnkjgoghhaaDoor.Sp
open Go Go.Proofs.YtokecnkjgoghhaaDoor.Ab Go.Proofs.YtokecnkjgoghhaaDoor.Tb Go.Proofs.YtokecnkjgoghhaaDoor.EText
theorem callT_ofM {f : FuncId} {args : List A} {rts : List RT} {d : dens rts} (k : Nat) (h : callN W0 k f args = some (injRs rts d)) : cR f rts args = some d := by
  show (callW W0 f args).bind (prjRs rts) = some d
  have : callW W0 f args = some (injRs rts d) := limO_of (fun k q x hkq hx => callN_le hkq hx) h
  rw [this]
  exact prj_injRs rts d
set_option maxRecDepth 100000 in
theorem awake6_ok : cR 32 [RT.d .bool] [] = some true := callT_ofM 60 (by kernel_rfl)
end Go.Proofs.YtokecnkjgoghhaaDoor.Sp
end
