/- How the parameters of the laws stand in memory, and that the world in which a law is called holds the tables of unicode/utf8. No condition. From what the parameters' kinds tell to what the laws ask. No condition. What each function comes to on data: printed equations. No condition. What each function comes to on data: printed equations. No condition. What some functions of the program come to, in plain words: steps that are apart, and that change places. Conditions: lengths as they stand in each statement. What commute.Pair comes to, in plain words; and three hunks that change places. Conditio -/
import Derived.Test.YtokecnkjgoghhaaDoorM3
import Derived.Test.YtokecnkjgoghhaaDoorM4
import Derived.Test.YtokecnkjgoghhaaDoorRows
import Derived.Lib.LaidIn
import Derived.Lib.LaidU8
import Derived.Deep.DeepHandedRow
import Derived.ProofKit
import Derived.OpenShut
import Derived.Sort.Walk0
section
/- How the parameters of the laws stand in memory, and that the world in which a law is called holds the tables of unicode/utf8. No condition. -/
set_option linter.unusedVariables false
namespace Go.Proofs.YtokecnkjgoghhaaDoor.SpR
open Go Go.ChangeShapes Go.WideShapes Go.Proofs.YtokecnkjgoghhaaDoor.Ab Go.Proofs.YtokecnkjgoghhaaDoor.AbO Go.Proofs.YtokecnkjgoghhaaDoor.Tb

theorem own : ownKnob Tryd.prog.godebug = none := by kernel_rfl
theorem laidOut : laidOutB Tryd.prog = true := by kernel_rfl
theorem c_int : Tryd.prog.cellsOf 3 = 1 := by kernel_rfl
theorem c_str : Tryd.prog.cellsOf 9 = 1 := by kernel_rfl
theorem c_strs : Tryd.prog.cellsOf 22 = 1 := by kernel_rfl
theorem c_prim : Tryd.prog.cellsOf 24 = 6 := by kernel_rfl

def QT (s : ByteArray) : Prop := s.size ≤ maxLen
def QL (l : List ByteArray) : Prop := l.length ≤ maxLen ∧ ∀ s ∈ l, QT s
def QI (n : Int) : Prop := (Lit.int .i64 n).wf = true
abbrev Prm := Int × ByteArray × ByteArray × Int × List ByteArray × List ByteArray
def QP (p : Prm) : Prop := QI p.1 ∧ QT p.2.1 ∧ QT p.2.2.1 ∧ QI p.2.2.2.1 ∧ QL p.2.2.2.2.1 ∧ QL p.2.2.2.2.2
theorem op_i : AbO.Op Tryd.prog 3 (.int .i64) QI := op_int Tryd.underlying3
theorem op_s : AbO.Op Tryd.prog 9 .str QT := op_string Tryd.underlying9
theorem op_ss : AbO.Op Tryd.prog 22 (.sl .str) QL := op_slice (T := .str) Tryd.underlying22 c_str (by decide) op_s
theorem op_prim : AbO.Op Tryd.prog 24 ty24 QP := by
  intro H enc w base sp held fuel cs x h
  obtain ⟨hl, n, hf⟩ := EOpen.struct_get Tryd.underlying24 h
  rw [c_prim] at hl
  obtain ⟨y0, h0⟩ := hf 0 _ rfl
  obtain ⟨y1, h1⟩ := hf 1 _ rfl
  obtain ⟨y2, h2⟩ := hf 2 _ rfl
  obtain ⟨y3, h3⟩ := hf 3 _ rfl
  obtain ⟨y4, h4⟩ := hf 4 _ rfl
  obtain ⟨y5, h5⟩ := hf 5 _ rfl
  replace h0 : DataW.trod enc Tryd.prog w base sp held n 3 ((cs.drop 0).take (Tryd.prog.cellsOf 3)) = some y0 := h0
  rw [c_int] at h0
  replace h1 : DataW.trod enc Tryd.prog w base sp held n 9 ((cs.drop 1).take (Tryd.prog.cellsOf 9)) = some y1 := h1
  rw [c_str] at h1
  replace h2 : DataW.trod enc Tryd.prog w base sp held n 9 ((cs.drop 2).take (Tryd.prog.cellsOf 9)) = some y2 := h2
  rw [c_str] at h2
  replace h3 : DataW.trod enc Tryd.prog w base sp held n 3 ((cs.drop 3).take (Tryd.prog.cellsOf 3)) = some y3 := h3
  rw [c_int] at h3
  replace h4 : DataW.trod enc Tryd.prog w base sp held n 22 ((cs.drop 4).take (Tryd.prog.cellsOf 22)) = some y4 := h4
  rw [c_strs] at h4
  replace h5 : DataW.trod enc Tryd.prog w base sp held n 22 ((cs.drop 5).take (Tryd.prog.cellsOf 22)) = some y5 := h5
  rw [c_strs] at h5
  rw [List.drop_zero] at h0
  obtain ⟨d0, r0, q0⟩ := op_i enc w base sp held n _ _ h0
  obtain ⟨d1, r1, q1⟩ := op_s enc w base sp held n _ _ h1
  obtain ⟨d2, r2, q2⟩ := op_s enc w base sp held n _ _ h2
  obtain ⟨d3, r3, q3⟩ := op_i enc w base sp held n _ _ h3
  obtain ⟨d4, r4, q4⟩ := op_ss enc w base sp held n _ _ h4
  obtain ⟨d5, r5, q5⟩ := op_ss enc w base sp held n _ _ h5
  refine ⟨(d0, d1, d2, d3, d4, d5), pair_T r0 (pair_T r1 (pair_T ?_ (pair_T ?_ (pair_T ?_ ?_)))), q0, q1, q2, q3, q4, q5⟩
  · simp only [List.drop_drop]; exact r2
  · simp only [List.drop_drop]; exact r3
  · simp only [List.drop_drop]; exact r4
  · simp only [List.drop_drop]
    rw [List.take_of_length_le (by rw [List.length_drop]; omega)] at r5
    exact r5
theorem op_prims : AbO.Op Tryd.prog 26 (.sl ty24) (fun l => l.length ≤ maxLen ∧ ∀ p ∈ l, QP p) := op_slice (T := ty24) Tryd.underlying26 c_prim (by decide) op_prim

theorem x260 : U8Extra Tryd.prog Tryd.lays260_ren := ⟨by kernel_rfl, by kernel_rfl, by kernel_rfl, by kernel_rfl, by kernel_rfl, by kernel_rfl, by kernel_rfl⟩
/-- The world of the call: the tables as their initialisers lay them. -/
theorem G_of {W : World} (hL : laidMetH Tryd.prog [("unicode/utf8.acceptRanges", Rows.laid_unicode_utf8_acceptRanges), ("unicode/utf8.first", Rows.laid_unicode_utf8_first)] W) (hS : W.ShapedOpen Tryd.prog) : EGlob.G W := by
  have h1 : Lib.VarReads Tryd.prog W "unicode/utf8.first" Rows.laid_unicode_utf8_first := Lib.laidMet.reads hL (.tail _ (.head _))
  have h2 : Lib.VarReads Tryd.prog W "unicode/utf8.acceptRanges" Rows.laid_unicode_utf8_acceptRanges := Lib.laidMet.reads hL (.head _)
  have e1 : Rows.laid_unicode_utf8_first = Lib.firstData := by kernel_rfl
  have e2 : Rows.laid_unicode_utf8_acceptRanges (H := Unit) = Lib.acceptData := by kernel_rfl
  rw [e1] at h1
  rw [e2] at h2
  exact ⟨utf8Tabs_of_reads Tryd.lays260 x260 h1 h2, Tryd.laysM146.s1_3 W hS⟩

/-- The witness' world. -/
noncomputable def laidWorld (os : Os) : World :=
  let w0 := World.holding Tryd.prog os ⟨#[], #[], []⟩
  let put (h : Array Obj) (g : Nat) (cs : Array Value) : Array Obj := h.modify g fun
    | .cells _ t frozen => .cells cs t frozen
    | o => o
  let h1 := put w0.heap 0 (Lib.firstTab.map fun z => Value.int .u8 z).toArray
  let h2 := put h1 1 ((List.range 16).flatMap fun i => [Value.int .u8 (Lib.accLo i), Value.int .u8 (Lib.accHi i)]).toArray
  { w0 with heap := h2 }

/-- What a law that answers true gives: its call, whatever stands. -/
theorem call_true {f : FuncId} {xs : List A} {W : World} {args : Array Value} (h : callW W0 f xs = some (injRs [RT.d .bool] true)) (hG : EGlob.G W) (ha : All2 (RelA W (old W) noQ noBet) args.toList xs) (hio : iosOf W0 f = [] := by kernel_rfl) :
    Calls Tryd.prog f args W fun e W' => e = .returned (.bool true) ∧ RowKit.Below W.heap.size W W' := by
  refine (callW_ok w_ok h hio W (old W) noQ args hG (fun b o hb => hb) (fun b o hb => hb.elim) ha).mono ?_
  rintro e w' ⟨cs, obs, St', rfl, hb, _, _, _, hr, _⟩
  match cs, obs, hr with
  | [], [], hr => simp [injRs, RelRVs] at hr
  | [], _ :: _, hr => simp [injRs, RelRVs] at hr
  | _ :: _, [], hr => simp [injRs, RelRVs] at hr
  | [_], _ :: _ :: _, hr => simp [injRs, RelRVs] at hr
  | _ :: _ :: _, _ :: _, hr => simp [injRs, RelRVs] at hr
  | [c], [ob], hr =>
    obtain ⟨⟨_, hc⟩, _⟩ := hr
    have : c = .bool true := hc.1
    rw [this]
    exact ⟨rfl, hb⟩

end Go.Proofs.YtokecnkjgoghhaaDoor.SpR
end
section
/- From what the parameters' kinds tell to what the laws ask. No condition. -/
namespace Go.Proofs.YtokecnkjgoghhaaDoor.Sp
open Go Go.Proofs.YtokecnkjgoghhaaDoor.Ab Go.Proofs.YtokecnkjgoghhaaDoor.Tb
theorem fits_of {n : Int} (h : SpR.QI n) : fits n := by
  unfold SpR.QI at h
  simp only [Lit.wf, Bool.and_eq_true, decide_eq_true_eq] at h
  exact ⟨by have := h.1; simpa [IntKind.min, IntKind.signed, IntKind.bits] using this, by have := h.2; simpa [IntKind.max, IntKind.signed, IntKind.bits] using this⟩
theorem arg_of {p : Prm} (h : SpR.QP p) : Arg p :=
  ⟨⟨Nat.le_trans h.2.2.2.2.1.1 (by decide), Nat.le_trans h.2.2.2.2.2.1 (by decide)⟩, fits_of h.2.2.2.1⟩
theorem len_of {n : Nat} (h : n ≤ maxLen) : n ≤ top := Nat.le_trans h (by decide)
end Go.Proofs.YtokecnkjgoghhaaDoor.Sp
end
section
/- What each function comes to on data: printed equations. No condition. -/
set_option linter.unusedVariables false
set_option maxRecDepth 100000
namespace Go.Proofs.YtokecnkjgoghhaaDoor.Tb
open Go Go.Proofs.YtokecnkjgoghhaaDoor.Ab
noncomputable def td153_2 : List Item := (findT (code Tryd.f153) [] 2).getD []
noncomputable def l153_2 (x0 : List ByteArray) (x1 : ByteArray) (x2 : Int) (x3 : Int) : Option (List RV) := cutW W0 n153 td153_2 { fr := [((0 : Nat), F.a (A.c (C.sl Ty.str x0))), ((1 : Nat), F.a (A.c (C.sc (Go.Value.string x1)))), ((7 : Nat), F.a (A.c (C.sc (Go.Value.int Go.IntKind.i64 x2)))), ((8 : Nat), F.a (A.c (C.sc (Go.Value.int Go.IntKind.i64 x3))))], mem := [], nx := (0 : Nat) }
theorem e153 (a0 : List ByteArray) (a1 : ByteArray) : callG W0 (callW W0) (cutW W0) 153 [inj (Ty.sl Ty.str) a0, inj Ty.str a1] = l153_2 a0 a1 (↑(List.length a0) : Int) (0 : Int) := by kernel_rfl
theorem q153_2 (x0 : List ByteArray) (x1 : ByteArray) (x2 : Int) (x3 : Int) : cutG W0 (callW W0) (cutW W0) n153 td153_2 { fr := [((0 : Nat), F.a (A.c (C.sl Ty.str x0))), ((1 : Nat), F.a (A.c (C.sc (Go.Value.string x1)))), ((7 : Nat), F.a (A.c (C.sc (Go.Value.int Go.IntKind.i64 x2)))), ((8 : Nat), F.a (A.c (C.sc (Go.Value.int Go.IntKind.i64 x3))))], mem := [], nx := (0 : Nat) } = ifs (decide (x3 < x2) = true) (ifs ((0 : Int) ≤ x3) (Option.bind x0[Int.toNat x3]? fun r => ifs ((ByteArray.toList x1 == ByteArray.toList r) = true) (some (injRs [RT.d (Ty.int Go.IntKind.i64)] x3)) (l153_2 x0 x1 x2 (Go.IntKind.wrap Go.IntKind.i64 (x3 + (1 : Int))))) none) (some (injRs [RT.d (Ty.int Go.IntKind.i64)] (-1 : Int))) := by kernel_rfl
theorem e107 (a0 : List ByteArray) (a1 : ByteArray) : callG W0 (callW W0) (cutW W0) 107 [inj (Ty.sl Ty.str) a0, inj Ty.str a1] = Option.bind (cR (nat_lit 153) [RT.d (Ty.int Go.IntKind.i64)] [inj (Ty.sl Ty.str) a0, inj Ty.str a1]) fun r => some (injRs [RT.d Ty.bool] (decide (r ≥ (0 : Int)))) := by kernel_rfl
theorem e214 (a0 : ByteArray) (a1 : ByteArray) : callG W0 (callW W0) (cutW W0) 214 [inj Ty.str a0, inj Ty.str a1] = ifs (decide ((↑(ByteArray.size a0) : Int) ≥ (↑(ByteArray.size a1) : Int)) = true) (ifs ((0 : Int) ≤ (↑(ByteArray.size a1) : Int) ∧ (↑(ByteArray.size a1) : Int) ≤ (↑(ByteArray.size a0) : Int)) (some (injRs [RT.d Ty.bool] (ByteArray.toList (ByteArray.extract a0 (Int.toNat (0 : Int)) (Int.toNat (↑(ByteArray.size a1) : Int))) == ByteArray.toList a1))) none) (some (injRs [RT.d Ty.bool] false)) := by kernel_rfl
theorem e184 (a0 : ByteArray) (a1 : ByteArray) : callG W0 (callW W0) (cutW W0) 184 [inj Ty.str a0, inj Ty.str a1] = Option.bind (cR (nat_lit 214) [RT.d Ty.bool] [inj Ty.str a0, inj Ty.str a1]) fun r => some (injRs [RT.d Ty.bool] r) := by kernel_rfl
theorem e154 (a0 : ByteArray) (a1 : ByteArray) : callG W0 (callW W0) (cutW W0) 154 [inj Ty.str a0, inj Ty.str a1] = Option.bind (cR (nat_lit 82) [RT.d Ty.bool] [inj Ty.str a0]) fun r => ifs ((!r) = false) (ifs ((!ByteArray.toList a1 == ByteArray.toList { data := #[] }) = true) (Option.bind (cR (nat_lit 82) [RT.d Ty.bool] [inj Ty.str a1]) fun r => ifs ((!r) = true) (some (injRs [RT.d Ty.bool] false)) (ifs ((ByteArray.toList a1 == ByteArray.toList { data := #[] }) = false) (ifs (ByteArray.size a1 + ByteArray.size { data := #[(47 : UInt8)] } ≤ (9223372036854775807 : Nat)) (Option.bind (cR (nat_lit 184) [RT.d Ty.bool] [inj Ty.str a0, inj Ty.str (a1 ++ { data := #[(47 : UInt8)] })]) fun r => some (injRs [RT.d Ty.bool] r)) none) (some (injRs [RT.d Ty.bool] true)))) (ifs ((ByteArray.toList a1 == ByteArray.toList { data := #[] }) = false) (ifs (ByteArray.size a1 + ByteArray.size { data := #[(47 : UInt8)] } ≤ (9223372036854775807 : Nat)) (Option.bind (cR (nat_lit 184) [RT.d Ty.bool] [inj Ty.str a0, inj Ty.str (a1 ++ { data := #[(47 : UInt8)] })]) fun r => some (injRs [RT.d Ty.bool] r)) none) (some (injRs [RT.d Ty.bool] true)))) (some (injRs [RT.d Ty.bool] false)) := by kernel_rfl
theorem e60 (a0 : Int × ByteArray × ByteArray × Int × List ByteArray × List ByteArray) : callG W0 (callW W0) (cutW W0) 60 [inj ty24 a0] = Option.bind (cR (nat_lit 61) [RT.d (Ty.int Go.IntKind.i64)] [inj ty24 a0]) fun r => ifs ((r != (0 : Int)) = true) (some (injRs [RT.own (9 : Go.TypeId) Ty.str] [])) (ifs ((a0.fst == (5 : Int)) = true) (some (injRs [RT.own (9 : Go.TypeId) Ty.str] [a0.snd.fst, a0.snd.snd.fst])) (some (injRs [RT.own (9 : Go.TypeId) Ty.str] [a0.snd.fst]))) := by kernel_rfl
theorem e108 (a0 : Int × ByteArray × ByteArray × Int × List ByteArray × List ByteArray) (a1 : ByteArray) : callG W0 (callW W0) (cutW W0) 108 [inj ty24 a0, inj Ty.str a1] = ifs ((a0.fst == (1 : Int)) = false) (ifs ((a0.fst == (2 : Int)) = true) (Option.bind (cR (nat_lit 154) [RT.d Ty.bool] [inj Ty.str a1, inj Ty.str a0.snd.fst]) fun r => some (injRs [RT.d Ty.bool] r)) (some (injRs [RT.d Ty.bool] false))) (Option.bind (cR (nat_lit 154) [RT.d Ty.bool] [inj Ty.str a1, inj Ty.str a0.snd.fst]) fun r => some (injRs [RT.d Ty.bool] r)) := by kernel_rfl
theorem e106 (a0 : ByteArray) (a1 : List ByteArray) (a2 : Int × ByteArray × ByteArray × Int × List ByteArray × List ByteArray) : callG W0 (callW W0) (cutW W0) 106 [inj Ty.str a0, A.c (C.pt (Pt.sh (Ty.sl Ty.str) a1 (0 : Nat))), A.c (C.pt (Pt.sh ty24 a2 (0 : Nat)))] = Option.bind (cR (nat_lit 107) [RT.d Ty.bool] [inj (Ty.sl Ty.str) a1, inj Ty.str a0]) fun r => ifs (r = false) (Option.bind (cR (nat_lit 108) [RT.d Ty.bool] [inj ty24 a2, inj Ty.str a0]) fun r => some (injRs [RT.d Ty.bool] r)) (some (injRs [RT.d Ty.bool] true)) := by kernel_rfl
noncomputable def td155c_2 : List Item := (findT (code Tryd.f155) [] 2).getD []
noncomputable def l155c_2 (x0 : List ByteArray) (x1 : List ByteArray) (x2 : Int × ByteArray × ByteArray × Int × List ByteArray × List ByteArray) (x3 : Int) (x4 : Int) : Option (List RV) := cutW W0 n155 td155c_2 { fr := [((0 : Nat), F.a (A.c (C.sl Ty.str x0))), ((1 : Nat), F.a (A.c (C.cl (106 : Nat) [Pt.sh (Ty.sl Ty.str) x1 (0 : Nat), Pt.sh ty24 x2 (0 : Nat)]))), ((7 : Nat), F.a (A.c (C.sc (Go.Value.int Go.IntKind.i64 x3)))), ((8 : Nat), F.a (A.c (C.sc (Go.Value.int Go.IntKind.i64 x4))))], mem := [], nx := (0 : Nat) }
theorem e155c (a0 : List ByteArray) (k1_0 : List ByteArray) (k1_1 : Int × ByteArray × ByteArray × Int × List ByteArray × List ByteArray) : callG W0 (callW W0) (cutW W0) 155 [inj (Ty.sl Ty.str) a0, A.c (C.cl (106 : Nat) [Pt.sh (Ty.sl Ty.str) k1_0 (0 : Nat), Pt.sh ty24 k1_1 (0 : Nat)])] = l155c_2 a0 k1_0 k1_1 (↑(List.length a0) : Int) (0 : Int) := by kernel_rfl
theorem q155c_2 (x0 : List ByteArray) (x1 : List ByteArray) (x2 : Int × ByteArray × ByteArray × Int × List ByteArray × List ByteArray) (x3 : Int) (x4 : Int) : cutG W0 (callW W0) (cutW W0) n155 td155c_2 { fr := [((0 : Nat), F.a (A.c (C.sl Ty.str x0))), ((1 : Nat), F.a (A.c (C.cl (106 : Nat) [Pt.sh (Ty.sl Ty.str) x1 (0 : Nat), Pt.sh ty24 x2 (0 : Nat)]))), ((7 : Nat), F.a (A.c (C.sc (Go.Value.int Go.IntKind.i64 x3)))), ((8 : Nat), F.a (A.c (C.sc (Go.Value.int Go.IntKind.i64 x4))))], mem := [], nx := (0 : Nat) } = ifs (decide (x4 < x3) = true) (ifs ((0 : Int) ≤ x4) (Option.bind x0[Int.toNat x4]? fun r => Option.bind (cR (nat_lit 106) [RT.d Ty.bool] [inj Ty.str r, A.c (C.pt (Pt.sh (Ty.sl Ty.str) x1 (0 : Nat))), A.c (C.pt (Pt.sh ty24 x2 (0 : Nat)))]) fun r => ifs (r = true) (some (injRs [RT.d (Ty.int Go.IntKind.i64)] x4)) (l155c_2 x0 x1 x2 x3 (Go.IntKind.wrap Go.IntKind.i64 (x4 + (1 : Int))))) none) (some (injRs [RT.d (Ty.int Go.IntKind.i64)] (-1 : Int))) := by kernel_rfl
theorem e109c (a0 : List ByteArray) (k1_0 : List ByteArray) (k1_1 : Int × ByteArray × ByteArray × Int × List ByteArray × List ByteArray) : callG W0 (callW W0) (cutW W0) 109 [inj (Ty.sl Ty.str) a0, A.c (C.cl (106 : Nat) [Pt.sh (Ty.sl Ty.str) k1_0 (0 : Nat), Pt.sh ty24 k1_1 (0 : Nat)])] = Option.bind (cR (nat_lit 155) [RT.d (Ty.int Go.IntKind.i64)] [inj (Ty.sl Ty.str) a0, A.c (C.cl (106 : Nat) [Pt.sh (Ty.sl Ty.str) k1_0 (0 : Nat), Pt.sh ty24 k1_1 (0 : Nat)])]) fun r => some (injRs [RT.d Ty.bool] (decide (r ≥ (0 : Int)))) := by kernel_rfl
theorem e110 (a0 : ByteArray) (a1 : Int × ByteArray × ByteArray × Int × List ByteArray × List ByteArray) : callG W0 (callW W0) (cutW W0) 110 [inj Ty.str a0, A.c (C.pt (Pt.sh ty24 a1 (0 : Nat)))] = Option.bind (cR (nat_lit 108) [RT.d Ty.bool] [inj ty24 a1, inj Ty.str a0]) fun r => some (injRs [RT.d Ty.bool] r) := by kernel_rfl
noncomputable def td155d_2 : List Item := (findT (code Tryd.f155) [] 2).getD []
noncomputable def l155d_2 (x0 : List ByteArray) (x1 : Int × ByteArray × ByteArray × Int × List ByteArray × List ByteArray) (x2 : Int) (x3 : Int) : Option (List RV) := cutW W0 n155 td155d_2 { fr := [((0 : Nat), F.a (A.c (C.sl Ty.str x0))), ((1 : Nat), F.a (A.c (C.cl (110 : Nat) [Pt.sh ty24 x1 (0 : Nat)]))), ((7 : Nat), F.a (A.c (C.sc (Go.Value.int Go.IntKind.i64 x2)))), ((8 : Nat), F.a (A.c (C.sc (Go.Value.int Go.IntKind.i64 x3))))], mem := [], nx := (0 : Nat) }
theorem e155d (a0 : List ByteArray) (k1_0 : Int × ByteArray × ByteArray × Int × List ByteArray × List ByteArray) : callG W0 (callW W0) (cutW W0) 155 [inj (Ty.sl Ty.str) a0, A.c (C.cl (110 : Nat) [Pt.sh ty24 k1_0 (0 : Nat)])] = l155d_2 a0 k1_0 (↑(List.length a0) : Int) (0 : Int) := by kernel_rfl
theorem q155d_2 (x0 : List ByteArray) (x1 : Int × ByteArray × ByteArray × Int × List ByteArray × List ByteArray) (x2 : Int) (x3 : Int) : cutG W0 (callW W0) (cutW W0) n155 td155d_2 { fr := [((0 : Nat), F.a (A.c (C.sl Ty.str x0))), ((1 : Nat), F.a (A.c (C.cl (110 : Nat) [Pt.sh ty24 x1 (0 : Nat)]))), ((7 : Nat), F.a (A.c (C.sc (Go.Value.int Go.IntKind.i64 x2)))), ((8 : Nat), F.a (A.c (C.sc (Go.Value.int Go.IntKind.i64 x3))))], mem := [], nx := (0 : Nat) } = ifs (decide (x3 < x2) = true) (ifs ((0 : Int) ≤ x3) (Option.bind x0[Int.toNat x3]? fun r => Option.bind (cR (nat_lit 110) [RT.d Ty.bool] [inj Ty.str r, A.c (C.pt (Pt.sh ty24 x1 (0 : Nat)))]) fun r => ifs (r = true) (some (injRs [RT.d (Ty.int Go.IntKind.i64)] x3)) (l155d_2 x0 x1 x2 (Go.IntKind.wrap Go.IntKind.i64 (x3 + (1 : Int))))) none) (some (injRs [RT.d (Ty.int Go.IntKind.i64)] (-1 : Int))) := by kernel_rfl
theorem e109d (a0 : List ByteArray) (k1_0 : Int × ByteArray × ByteArray × Int × List ByteArray × List ByteArray) : callG W0 (callW W0) (cutW W0) 109 [inj (Ty.sl Ty.str) a0, A.c (C.cl (110 : Nat) [Pt.sh ty24 k1_0 (0 : Nat)])] = Option.bind (cR (nat_lit 155) [RT.d (Ty.int Go.IntKind.i64)] [inj (Ty.sl Ty.str) a0, A.c (C.cl (110 : Nat) [Pt.sh ty24 k1_0 (0 : Nat)])]) fun r => some (injRs [RT.d Ty.bool] (decide (r ≥ (0 : Int)))) := by kernel_rfl
theorem e59 (a0 : Int × ByteArray × ByteArray × Int × List ByteArray × List ByteArray) (a1 : Int × ByteArray × ByteArray × Int × List ByteArray × List ByteArray) : callG W0 (callW W0) (cutW W0) 59 [inj ty24 a0, inj ty24 a1] = Option.bind (cR (nat_lit 60) [RT.own (9 : Go.TypeId) Ty.str] [inj ty24 a0]) fun r => Option.bind (cR (nat_lit 60) [RT.own (9 : Go.TypeId) Ty.str] [inj ty24 a1]) fun r_1 => ifs (((↑(List.length r) : Int) == (0 : Int)) = false) (ifs (((↑(List.length r_1) : Int) == (0 : Int)) = true) (some (injRs [RT.d Ty.bool] false)) (Option.bind (cR (nat_lit 109) [RT.d Ty.bool] [inj (Ty.sl Ty.str) (List.take (List.length r) r), A.c (C.cl (106 : Nat) [Pt.sh (Ty.sl Ty.str) (List.take (List.length r_1) r_1) (0 : Nat), Pt.sh ty24 a1 (0 : Nat)])]) fun r => ifs ((!r) = true) (Option.bind (cR (nat_lit 109) [RT.d Ty.bool] [inj (Ty.sl Ty.str) (List.take (List.length r_1) r_1), A.c (C.cl (110 : Nat) [Pt.sh ty24 a0 (0 : Nat)])]) fun r => some (injRs [RT.d Ty.bool] !r)) (some (injRs [RT.d Ty.bool] false)))) (some (injRs [RT.d Ty.bool] false)) := by kernel_rfl
theorem e63 (a0 : Int × ByteArray × ByteArray × Int × List ByteArray × List ByteArray) : callG W0 (callW W0) (cutW W0) 63 [inj ty24 a0] = Option.bind (cR (nat_lit 64) [RT.d ty24] [inj ty24 a0]) fun r => Option.bind (cR (nat_lit 64) [RT.d ty24] [inj ty24 r]) fun r => some (injRs [RT.d ty24] r) := by kernel_rfl
theorem e62 (a0 : Int × ByteArray × ByteArray × Int × List ByteArray × List ByteArray) (a1 : Int × ByteArray × ByteArray × Int × List ByteArray × List ByteArray) : callG W0 (callW W0) (cutW W0) 62 [inj ty24 a0, inj ty24 a1] = ifs ((a0.fst == (6 : Int)) = true) (ifs ((a1.fst == (6 : Int)) = true) (ifs ((!ByteArray.toList a0.snd.fst == ByteArray.toList a1.snd.fst) = false) (Option.bind (cR (nat_lit 61) [RT.d (Ty.int Go.IntKind.i64)] [inj ty24 a0]) fun r => ifs ((r != (0 : Int)) = false) (Option.bind (cR (nat_lit 61) [RT.d (Ty.int Go.IntKind.i64)] [inj ty24 a1]) fun r => ifs ((r != (0 : Int)) = true) (some (injRs [RT.d ty24, RT.d ty24, RT.d Ty.bool] (((0 : Int), { data := #[] }, { data := #[] }, (0 : Int), [], []), ((0 : Int), { data := #[] }, { data := #[] }, (0 : Int), [], []), false))) (Option.bind (cR (nat_lit 63) [RT.d ty24] [inj ty24 a0]) fun r => Option.bind (cR (nat_lit 63) [RT.d ty24] [inj ty24 a1]) fun r_1 => ifs (decide (Go.IntKind.wrap Go.IntKind.i64 (r_1.snd.snd.snd.fst - (↑(List.length r.snd.snd.snd.snd.snd) : Int)) > r.snd.snd.snd.fst) = true) (some (injRs [RT.d ty24, RT.d ty24, RT.d Ty.bool] ((r_1.fst, r_1.snd.fst, r_1.snd.snd.fst, Go.IntKind.wrap Go.IntKind.i64 (r_1.snd.snd.snd.fst - Go.IntKind.wrap Go.IntKind.i64 ((↑(List.length r.snd.snd.snd.snd.snd) : Int) - (↑(List.length r.snd.snd.snd.snd.fst) : Int))), r_1.snd.snd.snd.snd), r, true))) (ifs (decide (Go.IntKind.wrap Go.IntKind.i64 (r.snd.snd.snd.fst - (↑(List.length r_1.snd.snd.snd.snd.fst) : Int)) > r_1.snd.snd.snd.fst) = true) (some (injRs [RT.d ty24, RT.d ty24, RT.d Ty.bool] (r_1, (r.fst, r.snd.fst, r.snd.snd.fst, Go.IntKind.wrap Go.IntKind.i64 (r.snd.snd.snd.fst + Go.IntKind.wrap Go.IntKind.i64 ((↑(List.length r_1.snd.snd.snd.snd.snd) : Int) - (↑(List.length r_1.snd.snd.snd.snd.fst) : Int))), r.snd.snd.snd.snd), true))) (some (injRs [RT.d ty24, RT.d ty24, RT.d Ty.bool] (((0 : Int), { data := #[] }, { data := #[] }, (0 : Int), [], []), ((0 : Int), { data := #[] }, { data := #[] }, (0 : Int), [], []), false)))))) (some (injRs [RT.d ty24, RT.d ty24, RT.d Ty.bool] (((0 : Int), { data := #[] }, { data := #[] }, (0 : Int), [], []), ((0 : Int), { data := #[] }, { data := #[] }, (0 : Int), [], []), false)))) (some (injRs [RT.d ty24, RT.d ty24, RT.d Ty.bool] (((0 : Int), { data := #[] }, { data := #[] }, (0 : Int), [], []), ((0 : Int), { data := #[] }, { data := #[] }, (0 : Int), [], []), false)))) (some (injRs [RT.d ty24, RT.d ty24, RT.d Ty.bool] (((0 : Int), { data := #[] }, { data := #[] }, (0 : Int), [], []), ((0 : Int), { data := #[] }, { data := #[] }, (0 : Int), [], []), false)))) (some (injRs [RT.d ty24, RT.d ty24, RT.d Ty.bool] (((0 : Int), { data := #[] }, { data := #[] }, (0 : Int), [], []), ((0 : Int), { data := #[] }, { data := #[] }, (0 : Int), [], []), false))) := by kernel_rfl
noncomputable def td12_2 : List Item := (findT (code Tryd.f12) [] 2).getD []
noncomputable def l12_2 (x0 : Int) (x1 : Int) (x2 : Int) (x3 : ByteArray) (x4 : ByteArray) (x5 : Int) (x6 : List ByteArray) (x7 : List ByteArray) (x8 : Int) (x9 : ByteArray) (x10 : ByteArray) (x11 : Int) (x12 : List ByteArray) (x13 : List ByteArray) (x14 : Int) (x15 : ByteArray) (x16 : ByteArray) (x17 : Int) (x18 : Int) (x19 : ByteArray) (x20 : ByteArray) (x21 : Int) (x22 : List (Int × ByteArray × ByteArray × Int × List ByteArray × List ByteArray)) : Option (List RV) := cutW W0 n12 td12_2 { fr := [((2 : Nat), F.a (A.c (C.pt (Pt.own (0 : Nat) (0 : Nat) (0 : Nat))))), ((3 : Nat), F.a (A.c (C.pt (Pt.own (1 : Nat) (0 : Nat) (0 : Nat))))), ((4 : Nat), F.a (A.c (C.pt (Pt.own (2 : Nat) (0 : Nat) (0 : Nat))))), ((5 : Nat), F.a (A.c (C.pt (Pt.own (3 : Nat) (0 : Nat) (0 : Nat))))), ((17 : Nat), F.a (A.c (C.ow (4 : Nat) (List.length x22)))), ((18 : Nat), F.a (A.c (C.sc (Go.Value.int Go.IntKind.i64 x0)))), ((19 : Nat), F.a (A.c (C.sc (Go.Value.int Go.IntKind.i64 x1))))], mem := [some (Row.box (24 : Nat) (some ty24) [C.sc (Go.Value.int Go.IntKind.i64 x2), C.sc (Go.Value.string x3), C.sc (Go.Value.string x4), C.sc (Go.Value.int Go.IntKind.i64 x5), C.sl Ty.str x6, C.sl Ty.str x7] false), some (Row.box (24 : Nat) (some ty24) [C.sc (Go.Value.int Go.IntKind.i64 x8), C.sc (Go.Value.string x9), C.sc (Go.Value.string x10), C.sc (Go.Value.int Go.IntKind.i64 x11), C.sl Ty.str x12, C.sl Ty.str x13] false), some (Row.box (24 : Nat) (some ty24) [C.sc (Go.Value.int Go.IntKind.i64 x14), C.sc (Go.Value.string x15), C.sc (Go.Value.string x16), C.sc (Go.Value.int Go.IntKind.i64 x17), C.nl, C.nl] false), some (Row.box (24 : Nat) (some ty24) [C.sc (Go.Value.int Go.IntKind.i64 x18), C.sc (Go.Value.string x19), C.sc (Go.Value.string x20), C.sc (Go.Value.int Go.IntKind.i64 x21), C.nl, C.nl] false), some (Row.arr (24 : Nat) ty24 x22 false)], nx := (5 : Nat) }
theorem e12 (a0 : Int × ByteArray × ByteArray × Int × List ByteArray × List ByteArray) (a1 : Int × ByteArray × ByteArray × Int × List ByteArray × List ByteArray) : callG W0 (callW W0) (cutW W0) 12 [inj ty24 a0, inj ty24 a1] = l12_2 (↑(2 : Nat) : Int) (0 : Int) a0.fst a0.snd.fst a0.snd.snd.fst a0.snd.snd.snd.fst a0.snd.snd.snd.snd.fst a0.snd.snd.snd.snd.snd a1.fst a1.snd.fst a1.snd.snd.fst a1.snd.snd.snd.fst a1.snd.snd.snd.snd.fst a1.snd.snd.snd.snd.snd (0 : Int) { data := #[] } { data := #[] } (0 : Int) (0 : Int) { data := #[] } { data := #[] } (0 : Int) [a0, a1] := by kernel_rfl
theorem q12_2 (x0 : Int) (x1 : Int) (x2 : Int) (x3 : ByteArray) (x4 : ByteArray) (x5 : Int) (x6 : List ByteArray) (x7 : List ByteArray) (x8 : Int) (x9 : ByteArray) (x10 : ByteArray) (x11 : Int) (x12 : List ByteArray) (x13 : List ByteArray) (x14 : Int) (x15 : ByteArray) (x16 : ByteArray) (x17 : Int) (x18 : Int) (x19 : ByteArray) (x20 : ByteArray) (x21 : Int) (x22 : List (Int × ByteArray × ByteArray × Int × List ByteArray × List ByteArray)) : cutG W0 (callW W0) (cutW W0) n12 td12_2 { fr := [((2 : Nat), F.a (A.c (C.pt (Pt.own (0 : Nat) (0 : Nat) (0 : Nat))))), ((3 : Nat), F.a (A.c (C.pt (Pt.own (1 : Nat) (0 : Nat) (0 : Nat))))), ((4 : Nat), F.a (A.c (C.pt (Pt.own (2 : Nat) (0 : Nat) (0 : Nat))))), ((5 : Nat), F.a (A.c (C.pt (Pt.own (3 : Nat) (0 : Nat) (0 : Nat))))), ((17 : Nat), F.a (A.c (C.ow (4 : Nat) (List.length x22)))), ((18 : Nat), F.a (A.c (C.sc (Go.Value.int Go.IntKind.i64 x0)))), ((19 : Nat), F.a (A.c (C.sc (Go.Value.int Go.IntKind.i64 x1))))], mem := [some (Row.box (24 : Nat) (some ty24) [C.sc (Go.Value.int Go.IntKind.i64 x2), C.sc (Go.Value.string x3), C.sc (Go.Value.string x4), C.sc (Go.Value.int Go.IntKind.i64 x5), C.sl Ty.str x6, C.sl Ty.str x7] false), some (Row.box (24 : Nat) (some ty24) [C.sc (Go.Value.int Go.IntKind.i64 x8), C.sc (Go.Value.string x9), C.sc (Go.Value.string x10), C.sc (Go.Value.int Go.IntKind.i64 x11), C.sl Ty.str x12, C.sl Ty.str x13] false), some (Row.box (24 : Nat) (some ty24) [C.sc (Go.Value.int Go.IntKind.i64 x14), C.sc (Go.Value.string x15), C.sc (Go.Value.string x16), C.sc (Go.Value.int Go.IntKind.i64 x17), C.nl, C.nl] false), some (Row.box (24 : Nat) (some ty24) [C.sc (Go.Value.int Go.IntKind.i64 x18), C.sc (Go.Value.string x19), C.sc (Go.Value.string x20), C.sc (Go.Value.int Go.IntKind.i64 x21), C.nl, C.nl] false), some (Row.arr (24 : Nat) ty24 x22 false)], nx := (5 : Nat) } = ifs (decide (x1 < x0) = true) (ifs ((0 : Int) ≤ x1 ∧ x1 < (↑(List.length x22) : Int)) (Option.bind x22[Int.toNat x1]? fun r => Option.bind (cR (nat_lit 61) [RT.d (Ty.int Go.IntKind.i64)] [inj ty24 r]) fun r => ifs ((r != (0 : Int)) = true) (some (injRs [RT.d ty24, RT.d ty24, RT.d (Ty.int Go.IntKind.i64)] (((0 : Int), { data := #[] }, { data := #[] }, (0 : Int), [], []), ((0 : Int), { data := #[] }, { data := #[] }, (0 : Int), [], []), r))) (l12_2 x0 (Go.IntKind.wrap Go.IntKind.i64 (x1 + (1 : Int))) x2 x3 x4 x5 x6 x7 x8 x9 x10 x11 x12 x13 x14 x15 x16 x17 x18 x19 x20 x21 x22)) none) (Option.bind (cR (nat_lit 62) [RT.d ty24, RT.d ty24, RT.d Ty.bool] [inj ty24 (x2, x3, x4, x5, x6, x7), inj ty24 (x8, x9, x10, x11, x12, x13)]) fun r => ifs (r.snd.snd = true) (some (injRs [RT.d ty24, RT.d ty24, RT.d (Ty.int Go.IntKind.i64)] (r.fst, r.snd.fst, (0 : Int)))) (Option.bind (cR (nat_lit 63) [RT.d ty24] [inj ty24 (x2, x3, x4, x5, x6, x7)]) fun r => Option.bind (cR (nat_lit 63) [RT.d ty24] [inj ty24 (x8, x9, x10, x11, x12, x13)]) fun r_1 => ifs ((x2 == (5 : Int)) = true) (ifs ((x8 == (6 : Int)) = true) (ifs ((ByteArray.toList x9 == ByteArray.toList x4) = true) (some (injRs [RT.d ty24, RT.d ty24, RT.d (Ty.int Go.IntKind.i64)] ((r_1.fst, x3, r_1.snd.snd), r, (0 : Int)))) (ifs ((x2 == (6 : Int)) = true) (ifs ((x8 == (5 : Int)) = true) (ifs ((ByteArray.toList x9 == ByteArray.toList x3) = true) (some (injRs [RT.d ty24, RT.d ty24, RT.d (Ty.int Go.IntKind.i64)] (r_1, (r.fst, x10, r.snd.snd), (0 : Int)))) (Option.bind (cR (nat_lit 59) [RT.d Ty.bool] [inj ty24 (x2, x3, x4, x5, x6, x7), inj ty24 (x8, x9, x10, x11, x12, x13)]) fun r_2 => ifs ((!r_2) = true) (some (injRs [RT.d ty24, RT.d ty24, RT.d (Ty.int Go.IntKind.i64)] (((0 : Int), { data := #[] }, { data := #[] }, (0 : Int), [], []), ((0 : Int), { data := #[] }, { data := #[] }, (0 : Int), [], []), (13 : Int)))) (some (injRs [RT.d ty24, RT.d ty24, RT.d (Ty.int Go.IntKind.i64)] (r_1, r, (0 : Int)))))) (Option.bind (cR (nat_lit 59) [RT.d Ty.bool] [inj ty24 (x2, x3, x4, x5, x6, x7), inj ty24 (x8, x9, x10, x11, x12, x13)]) fun r_2 => ifs ((!r_2) = true) (some (injRs [RT.d ty24, RT.d ty24, RT.d (Ty.int Go.IntKind.i64)] (((0 : Int), { data := #[] }, { data := #[] }, (0 : Int), [], []), ((0 : Int), { data := #[] }, { data := #[] }, (0 : Int), [], []), (13 : Int)))) (some (injRs [RT.d ty24, RT.d ty24, RT.d (Ty.int Go.IntKind.i64)] (r_1, r, (0 : Int)))))) (Option.bind (cR (nat_lit 59) [RT.d Ty.bool] [inj ty24 (x2, x3, x4, x5, x6, x7), inj ty24 (x8, x9, x10, x11, x12, x13)]) fun r_2 => ifs ((!r_2) = true) (some (injRs [RT.d ty24, RT.d ty24, RT.d (Ty.int Go.IntKind.i64)] (((0 : Int), { data := #[] }, { data := #[] }, (0 : Int), [], []), ((0 : Int), { data := #[] }, { data := #[] }, (0 : Int), [], []), (13 : Int)))) (some (injRs [RT.d ty24, RT.d ty24, RT.d (Ty.int Go.IntKind.i64)] (r_1, r, (0 : Int))))))) (ifs ((x2 == (6 : Int)) = true) (ifs ((x8 == (5 : Int)) = true) (ifs ((ByteArray.toList x9 == ByteArray.toList x3) = true) (some (injRs [RT.d ty24, RT.d ty24, RT.d (Ty.int Go.IntKind.i64)] (r_1, (r.fst, x10, r.snd.snd), (0 : Int)))) (Option.bind (cR (nat_lit 59) [RT.d Ty.bool] [inj ty24 (x2, x3, x4, x5, x6, x7), inj ty24 (x8, x9, x10, x11, x12, x13)]) fun r_2 => ifs ((!r_2) = true) (some (injRs [RT.d ty24, RT.d ty24, RT.d (Ty.int Go.IntKind.i64)] (((0 : Int), { data := #[] }, { data := #[] }, (0 : Int), [], []), ((0 : Int), { data := #[] }, { data := #[] }, (0 : Int), [], []), (13 : Int)))) (some (injRs [RT.d ty24, RT.d ty24, RT.d (Ty.int Go.IntKind.i64)] (r_1, r, (0 : Int)))))) (Option.bind (cR (nat_lit 59) [RT.d Ty.bool] [inj ty24 (x2, x3, x4, x5, x6, x7), inj ty24 (x8, x9, x10, x11, x12, x13)]) fun r_2 => ifs ((!r_2) = true) (some (injRs [RT.d ty24, RT.d ty24, RT.d (Ty.int Go.IntKind.i64)] (((0 : Int), { data := #[] }, { data := #[] }, (0 : Int), [], []), ((0 : Int), { data := #[] }, { data := #[] }, (0 : Int), [], []), (13 : Int)))) (some (injRs [RT.d ty24, RT.d ty24, RT.d (Ty.int Go.IntKind.i64)] (r_1, r, (0 : Int)))))) (Option.bind (cR (nat_lit 59) [RT.d Ty.bool] [inj ty24 (x2, x3, x4, x5, x6, x7), inj ty24 (x8, x9, x10, x11, x12, x13)]) fun r_2 => ifs ((!r_2) = true) (some (injRs [RT.d ty24, RT.d ty24, RT.d (Ty.int Go.IntKind.i64)] (((0 : Int), { data := #[] }, { data := #[] }, (0 : Int), [], []), ((0 : Int), { data := #[] }, { data := #[] }, (0 : Int), [], []), (13 : Int)))) (some (injRs [RT.d ty24, RT.d ty24, RT.d (Ty.int Go.IntKind.i64)] (r_1, r, (0 : Int))))))) (ifs ((x2 == (6 : Int)) = true) (ifs ((x8 == (5 : Int)) = true) (ifs ((ByteArray.toList x9 == ByteArray.toList x3) = true) (some (injRs [RT.d ty24, RT.d ty24, RT.d (Ty.int Go.IntKind.i64)] (r_1, (r.fst, x10, r.snd.snd), (0 : Int)))) (Option.bind (cR (nat_lit 59) [RT.d Ty.bool] [inj ty24 (x2, x3, x4, x5, x6, x7), inj ty24 (x8, x9, x10, x11, x12, x13)]) fun r_2 => ifs ((!r_2) = true) (some (injRs [RT.d ty24, RT.d ty24, RT.d (Ty.int Go.IntKind.i64)] (((0 : Int), { data := #[] }, { data := #[] }, (0 : Int), [], []), ((0 : Int), { data := #[] }, { data := #[] }, (0 : Int), [], []), (13 : Int)))) (some (injRs [RT.d ty24, RT.d ty24, RT.d (Ty.int Go.IntKind.i64)] (r_1, r, (0 : Int)))))) (Option.bind (cR (nat_lit 59) [RT.d Ty.bool] [inj ty24 (x2, x3, x4, x5, x6, x7), inj ty24 (x8, x9, x10, x11, x12, x13)]) fun r_2 => ifs ((!r_2) = true) (some (injRs [RT.d ty24, RT.d ty24, RT.d (Ty.int Go.IntKind.i64)] (((0 : Int), { data := #[] }, { data := #[] }, (0 : Int), [], []), ((0 : Int), { data := #[] }, { data := #[] }, (0 : Int), [], []), (13 : Int)))) (some (injRs [RT.d ty24, RT.d ty24, RT.d (Ty.int Go.IntKind.i64)] (r_1, r, (0 : Int)))))) (Option.bind (cR (nat_lit 59) [RT.d Ty.bool] [inj ty24 (x2, x3, x4, x5, x6, x7), inj ty24 (x8, x9, x10, x11, x12, x13)]) fun r_2 => ifs ((!r_2) = true) (some (injRs [RT.d ty24, RT.d ty24, RT.d (Ty.int Go.IntKind.i64)] (((0 : Int), { data := #[] }, { data := #[] }, (0 : Int), [], []), ((0 : Int), { data := #[] }, { data := #[] }, (0 : Int), [], []), (13 : Int)))) (some (injRs [RT.d ty24, RT.d ty24, RT.d (Ty.int Go.IntKind.i64)] (r_1, r, (0 : Int)))))))) := by kernel_rfl
theorem e58 (a0 : Int × ByteArray × ByteArray × Int × List ByteArray × List ByteArray) (a1 : Int × ByteArray × ByteArray × Int × List ByteArray × List ByteArray) : callG W0 (callW W0) (cutW W0) 58 [inj ty24 a0, inj ty24 a1] = Option.bind (cR (nat_lit 12) [RT.d ty24, RT.d ty24, RT.d (Ty.int Go.IntKind.i64)] [inj ty24 a0, inj ty24 a1]) fun r => some (injRs [RT.d Ty.bool] (r.snd.snd == (0 : Int))) := by kernel_rfl
theorem e3 (a0 : Int × ByteArray × ByteArray × Int × List ByteArray × List ByteArray) (a1 : Int × ByteArray × ByteArray × Int × List ByteArray × List ByteArray) (a2 : Int × ByteArray × ByteArray × Int × List ByteArray × List ByteArray) : callG W0 (callW W0) (cutW W0) 3 [inj ty24 a0, inj ty24 a1, inj ty24 a2] = Option.bind (cR (nat_lit 10) [RT.d Ty.bool] [inj (Ty.sl ty24) [a0, a1, a2]]) fun r => ifs ((!r) = false) (ifs ((a0.fst != (6 : Int)) = false) (ifs ((a1.fst != (6 : Int)) = false) (ifs ((a2.fst != (6 : Int)) = true) (Option.bind (cR (nat_lit 11) [RT.d Ty.bool] []) fun r => some (injRs [RT.d Ty.bool] r)) (Option.bind (cR (nat_lit 12) [RT.d ty24, RT.d ty24, RT.d (Ty.int Go.IntKind.i64)] [inj ty24 a0, inj ty24 a1]) fun r => Option.bind (cR (nat_lit 12) [RT.d ty24, RT.d ty24, RT.d (Ty.int Go.IntKind.i64)] [inj ty24 r.snd.fst, inj ty24 a2]) fun r_1 => Option.bind (cR (nat_lit 12) [RT.d ty24, RT.d ty24, RT.d (Ty.int Go.IntKind.i64)] [inj ty24 r.fst, inj ty24 r_1.fst]) fun r_2 => ifs ((r.snd.snd != (0 : Int)) = false) (ifs ((r_1.snd.snd != (0 : Int)) = false) (ifs ((r_2.snd.snd != (0 : Int)) = true) (Option.bind (cR (nat_lit 11) [RT.d Ty.bool] []) fun r => some (injRs [RT.d Ty.bool] r)) (Option.bind (cR (nat_lit 12) [RT.d ty24, RT.d ty24, RT.d (Ty.int Go.IntKind.i64)] [inj ty24 a1, inj ty24 a2]) fun r => Option.bind (cR (nat_lit 12) [RT.d ty24, RT.d ty24, RT.d (Ty.int Go.IntKind.i64)] [inj ty24 a0, inj ty24 r.fst]) fun r_3 => Option.bind (cR (nat_lit 12) [RT.d ty24, RT.d ty24, RT.d (Ty.int Go.IntKind.i64)] [inj ty24 r_3.snd.fst, inj ty24 r.snd.fst]) fun r_4 => ifs ((r.snd.snd != (0 : Int)) = false) (ifs ((r_3.snd.snd != (0 : Int)) = false) (ifs ((r_4.snd.snd != (0 : Int)) = true) (Option.bind (cR (nat_lit 11) [RT.d Ty.bool] []) fun r => some (injRs [RT.d Ty.bool] r)) (Option.bind (cR (nat_lit 11) [RT.d Ty.bool] []) fun r => ifs (r = true) (Option.bind (cR (nat_lit 13) [RT.d Ty.bool] [inj (Ty.sl ty24) [r_2.fst, r_2.snd.fst, r_1.snd.fst], inj (Ty.sl ty24) [r_3.fst, r_4.fst, r_4.snd.fst]]) fun r => some (injRs [RT.d Ty.bool] r)) (some (injRs [RT.d Ty.bool] false)))) (Option.bind (cR (nat_lit 11) [RT.d Ty.bool] []) fun r => some (injRs [RT.d Ty.bool] r))) (Option.bind (cR (nat_lit 11) [RT.d Ty.bool] []) fun r => some (injRs [RT.d Ty.bool] r)))) (Option.bind (cR (nat_lit 11) [RT.d Ty.bool] []) fun r => some (injRs [RT.d Ty.bool] r))) (Option.bind (cR (nat_lit 11) [RT.d Ty.bool] []) fun r => some (injRs [RT.d Ty.bool] r)))) (Option.bind (cR (nat_lit 11) [RT.d Ty.bool] []) fun r => some (injRs [RT.d Ty.bool] r))) (Option.bind (cR (nat_lit 11) [RT.d Ty.bool] []) fun r => some (injRs [RT.d Ty.bool] r))) (Option.bind (cR (nat_lit 11) [RT.d Ty.bool] []) fun r => some (injRs [RT.d Ty.bool] r)) := by kernel_rfl
end Go.Proofs.YtokecnkjgoghhaaDoor.Tb
end
section
/- What each function comes to on data: printed equations. No condition. -/
set_option linter.unusedVariables false
set_option maxRecDepth 100000
namespace Go.Proofs.YtokecnkjgoghhaaDoor.Tb
open Go Go.Proofs.YtokecnkjgoghhaaDoor.Ab
theorem e54 (a0 : List (Int × ByteArray × ByteArray × Int × List ByteArray × List ByteArray)) (a1 : Int) : callG W0 (callW W0) (cutW W0) 54 [inj (Ty.sl ty24) a0, inj (Ty.int Go.IntKind.i64) a1] = ifs (decide (a1 < (0 : Int)) = false) (ifs (decide (a1 ≥ Go.IntKind.wrap Go.IntKind.i64 ((↑(List.length a0) : Int) - (1 : Int))) = true) (some (injRs [RT.own (24 : Go.TypeId) ty24, RT.d (Ty.int Go.IntKind.i64)] ([], (3 : Int)))) (ifs ((0 : Int) ≤ a1) (Option.bind a0[Int.toNat a1]? fun r => ifs ((0 : Int) ≤ Go.IntKind.wrap Go.IntKind.i64 (a1 + (1 : Int))) (Option.bind a0[Int.toNat (Go.IntKind.wrap Go.IntKind.i64 (a1 + (1 : Int)))]? fun r_1 => Option.bind (cR (nat_lit 12) [RT.d ty24, RT.d ty24, RT.d (Ty.int Go.IntKind.i64)] [inj ty24 r, inj ty24 r_1]) fun r => ifs ((r.snd.snd != (0 : Int)) = true) (some (injRs [RT.own (24 : Go.TypeId) ty24, RT.d (Ty.int Go.IntKind.i64)] ([], r.snd.snd))) (Option.bind (cR (nat_lit 102) [RT.own (24 : Go.TypeId) ty24] [inj (Ty.sl ty24) a0]) fun r_2 => ifs ((0 : Int) ≤ a1 ∧ a1 < (↑(List.length r_2) : Int)) (Option.bind r_2[Int.toNat a1]? fun r_3 => ifs ((0 : Int) ≤ Go.IntKind.wrap Go.IntKind.i64 (a1 + (1 : Int)) ∧ Go.IntKind.wrap Go.IntKind.i64 (a1 + (1 : Int)) < (↑(List.length r_2) : Int)) (Option.bind (List.set r_2 (Int.toNat a1) r.fst)[Int.toNat (Go.IntKind.wrap Go.IntKind.i64 (a1 + (1 : Int)))]? fun r_4 => some (injRs [RT.own (24 : Go.TypeId) ty24, RT.d (Ty.int Go.IntKind.i64)] (List.take (List.length r_2) (List.set (List.set r_2 (Int.toNat a1) r.fst) (Int.toNat (Go.IntKind.wrap Go.IntKind.i64 (a1 + (1 : Int)))) r.snd.fst), (0 : Int)))) none) none)) none) none)) (some (injRs [RT.own (24 : Go.TypeId) ty24, RT.d (Ty.int Go.IntKind.i64)] ([], (3 : Int)))) := by kernel_rfl
noncomputable def td47_4 : List Item := (findT (code Tryd.f47) [] 4).getD []
noncomputable def l47_4 (x0 : Int) (x1 : List (Int × ByteArray × ByteArray × Int × List ByteArray × List ByteArray)) : Option (List RV) := cutW W0 n47 td47_4 { fr := [((1 : Nat), F.a (A.c (C.sc (Go.Value.int Go.IntKind.i64 x0)))), ((6 : Nat), F.a (A.c (C.ow (0 : Nat) (List.length x1))))], mem := [some (Row.arr (24 : Nat) ty24 x1 false)], nx := (1 : Nat) }
theorem e47 (a0 : List (Int × ByteArray × ByteArray × Int × List ByteArray × List ByteArray)) (a1 : Int) : callG W0 (callW W0) (cutW W0) 47 [inj (Ty.sl ty24) a0, inj (Ty.int Go.IntKind.i64) a1] = ifs (decide (a1 < (0 : Int)) = false) (ifs (decide (a1 ≥ (↑(List.length a0) : Int)) = true) (some (injRs [RT.d (Ty.sl ty24), RT.d (Ty.int Go.IntKind.i64)] ([], (3 : Int)))) (Option.bind (cR (nat_lit 102) [RT.own (24 : Go.TypeId) ty24] [inj (Ty.sl ty24) a0]) fun r => l47_4 a1 r)) (some (injRs [RT.d (Ty.sl ty24), RT.d (Ty.int Go.IntKind.i64)] ([], (3 : Int)))) := by kernel_rfl
theorem q47_4 (x0 : Int) (x1 : List (Int × ByteArray × ByteArray × Int × List ByteArray × List ByteArray)) : cutG W0 (callW W0) (cutW W0) n47 td47_4 { fr := [((1 : Nat), F.a (A.c (C.sc (Go.Value.int Go.IntKind.i64 x0)))), ((6 : Nat), F.a (A.c (C.ow (0 : Nat) (List.length x1))))], mem := [some (Row.arr (24 : Nat) ty24 x1 false)], nx := (1 : Nat) } = ifs (decide (x0 > (0 : Int)) = true) (Option.bind (cR (nat_lit 54) [RT.own (24 : Go.TypeId) ty24, RT.d (Ty.int Go.IntKind.i64)] [inj (Ty.sl ty24) (List.take (List.length x1) x1), inj (Ty.int Go.IntKind.i64) (Go.IntKind.wrap Go.IntKind.i64 (x0 - (1 : Int)))]) fun r => ifs ((r.snd != (0 : Int)) = true) (some (injRs [RT.d (Ty.sl ty24), RT.d (Ty.int Go.IntKind.i64)] ([], r.snd))) (l47_4 (Go.IntKind.wrap Go.IntKind.i64 (x0 - (1 : Int))) r.fst)) (some (injRs [RT.d (Ty.sl ty24), RT.d (Ty.int Go.IntKind.i64)] (List.take (List.length x1) x1, (0 : Int)))) := by kernel_rfl
noncomputable def td49_3 : List Item := (findT (code Tryd.f49) [] 3).getD []
noncomputable def l49_3 (x0 : List (Int × ByteArray × ByteArray × Int × List ByteArray × List ByteArray)) (x1 : Int) (x2 : Int) (x3 : Int) (x4 : ByteArray) (x5 : ByteArray) (x6 : Int) (x7 : List ByteArray) (x8 : List ByteArray) (x9 : Int) (x10 : ByteArray) (x11 : ByteArray) (x12 : Int) (x13 : List (Int × ByteArray × ByteArray × Int × List ByteArray × List ByteArray)) : Option (List RV) := cutW W0 n49 td49_3 { fr := [((2 : Nat), F.a (A.c (C.pt (Pt.own (0 : Nat) (0 : Nat) (0 : Nat))))), ((5 : Nat), F.a (A.c (C.pt (Pt.own (1 : Nat) (0 : Nat) (0 : Nat))))), ((7 : Nat), F.a (A.c (C.ow (2 : Nat) (List.length x13)))), ((13 : Nat), F.a (A.c (C.sl ty24 x0))), ((14 : Nat), F.a (A.c (C.sc (Go.Value.int Go.IntKind.i64 x1)))), ((15 : Nat), F.a (A.c (C.sc (Go.Value.int Go.IntKind.i64 x2))))], mem := [some (Row.box (24 : Nat) (some ty24) [C.sc (Go.Value.int Go.IntKind.i64 x3), C.sc (Go.Value.string x4), C.sc (Go.Value.string x5), C.sc (Go.Value.int Go.IntKind.i64 x6), C.sl Ty.str x7, C.sl Ty.str x8] false), some (Row.box (24 : Nat) (some ty24) [C.sc (Go.Value.int Go.IntKind.i64 x9), C.sc (Go.Value.string x10), C.sc (Go.Value.string x11), C.sc (Go.Value.int Go.IntKind.i64 x12), C.nl, C.nl] false), some (Row.arr (24 : Nat) ty24 x13 false)], nx := (3 : Nat) }
theorem e49 (a0 : Int × ByteArray × ByteArray × Int × List ByteArray × List ByteArray) (a1 : List (Int × ByteArray × ByteArray × Int × List ByteArray × List ByteArray)) : callG W0 (callW W0) (cutW W0) 49 [inj ty24 a0, inj (Ty.sl ty24) a1] = l49_3 a1 (↑(List.length a1) : Int) (0 : Int) a0.fst a0.snd.fst a0.snd.snd.fst a0.snd.snd.snd.fst a0.snd.snd.snd.snd.fst a0.snd.snd.snd.snd.snd (0 : Int) { data := #[] } { data := #[] } (0 : Int) [] := by kernel_rfl
theorem q49_3 (x0 : List (Int × ByteArray × ByteArray × Int × List ByteArray × List ByteArray)) (x1 : Int) (x2 : Int) (x3 : Int) (x4 : ByteArray) (x5 : ByteArray) (x6 : Int) (x7 : List ByteArray) (x8 : List ByteArray) (x9 : Int) (x10 : ByteArray) (x11 : ByteArray) (x12 : Int) (x13 : List (Int × ByteArray × ByteArray × Int × List ByteArray × List ByteArray)) : cutG W0 (callW W0) (cutW W0) n49 td49_3 { fr := [((2 : Nat), F.a (A.c (C.pt (Pt.own (0 : Nat) (0 : Nat) (0 : Nat))))), ((5 : Nat), F.a (A.c (C.pt (Pt.own (1 : Nat) (0 : Nat) (0 : Nat))))), ((7 : Nat), F.a (A.c (C.ow (2 : Nat) (List.length x13)))), ((13 : Nat), F.a (A.c (C.sl ty24 x0))), ((14 : Nat), F.a (A.c (C.sc (Go.Value.int Go.IntKind.i64 x1)))), ((15 : Nat), F.a (A.c (C.sc (Go.Value.int Go.IntKind.i64 x2))))], mem := [some (Row.box (24 : Nat) (some ty24) [C.sc (Go.Value.int Go.IntKind.i64 x3), C.sc (Go.Value.string x4), C.sc (Go.Value.string x5), C.sc (Go.Value.int Go.IntKind.i64 x6), C.sl Ty.str x7, C.sl Ty.str x8] false), some (Row.box (24 : Nat) (some ty24) [C.sc (Go.Value.int Go.IntKind.i64 x9), C.sc (Go.Value.string x10), C.sc (Go.Value.string x11), C.sc (Go.Value.int Go.IntKind.i64 x12), C.nl, C.nl] false), some (Row.arr (24 : Nat) ty24 x13 false)], nx := (3 : Nat) } = ifs (decide (x2 < x1) = true) (ifs ((0 : Int) ≤ x2) (Option.bind x0[Int.toNat x2]? fun r => Option.bind (cR (nat_lit 12) [RT.d ty24, RT.d ty24, RT.d (Ty.int Go.IntKind.i64)] [inj ty24 (x3, x4, x5, x6, x7, x8), inj ty24 r]) fun r => ifs ((r.snd.snd != (0 : Int)) = true) (some (injRs [RT.own (24 : Go.TypeId) ty24, RT.d ty24, RT.d (Ty.int Go.IntKind.i64)] ([], ((0 : Int), { data := #[] }, { data := #[] }, (0 : Int), [], []), r.snd.snd))) (ifs ((List.length x13 + (1 : Nat)) * nat_lit 96 ≤ (140737488355328 : Nat)) (l49_3 x0 x1 (Go.IntKind.wrap Go.IntKind.i64 (x2 + (1 : Int))) r.snd.fst.fst r.snd.fst.snd.fst r.snd.fst.snd.snd.fst r.snd.fst.snd.snd.snd.fst r.snd.fst.snd.snd.snd.snd.fst r.snd.fst.snd.snd.snd.snd.snd x9 x10 x11 x12 (List.take (List.length x13) x13 ++ [r.fst])) none)) none) (some (injRs [RT.own (24 : Go.TypeId) ty24, RT.d ty24, RT.d (Ty.int Go.IntKind.i64)] (List.take (List.length x13) x13, (x3, x4, x5, x6, x7, x8), (0 : Int)))) := by kernel_rfl
noncomputable def td45_3 : List Item := (findT (code Tryd.f45) [] 3).getD []
noncomputable def l45_3 (x0 : List (Int × ByteArray × ByteArray × Int × List ByteArray × List ByteArray)) (x1 : Int) (x2 : List (Int × ByteArray × ByteArray × Int × List ByteArray × List ByteArray)) (x3 : List (Int × ByteArray × ByteArray × Int × List ByteArray × List ByteArray)) : Option (List RV) := cutW W0 n45 td45_3 { fr := [((0 : Nat), F.a (A.c (C.sl ty24 x0))), ((7 : Nat), F.a (A.c (C.ow (0 : Nat) (List.length x2)))), ((8 : Nat), F.a (A.c (C.ow (1 : Nat) (List.length x3)))), ((9 : Nat), F.a (A.c (C.sc (Go.Value.int Go.IntKind.i64 x1))))], mem := [some (Row.arr (24 : Nat) ty24 x2 false), some (Row.arr (24 : Nat) ty24 x3 false)], nx := (2 : Nat) }
theorem e45 (a0 : List (Int × ByteArray × ByteArray × Int × List ByteArray × List ByteArray)) (a1 : List (Int × ByteArray × ByteArray × Int × List ByteArray × List ByteArray)) : callG W0 (callW W0) (cutW W0) 45 [inj (Ty.sl ty24) a0, inj (Ty.sl ty24) a1] = Option.bind (cR (nat_lit 102) [RT.own (24 : Go.TypeId) ty24] [inj (Ty.sl ty24) a1]) fun r => l45_3 a0 (Go.IntKind.wrap Go.IntKind.i64 ((↑(List.length a0) : Int) - (1 : Int))) r [] := by kernel_rfl
theorem q45_3 (x0 : List (Int × ByteArray × ByteArray × Int × List ByteArray × List ByteArray)) (x1 : Int) (x2 : List (Int × ByteArray × ByteArray × Int × List ByteArray × List ByteArray)) (x3 : List (Int × ByteArray × ByteArray × Int × List ByteArray × List ByteArray)) : cutG W0 (callW W0) (cutW W0) n45 td45_3 { fr := [((0 : Nat), F.a (A.c (C.sl ty24 x0))), ((7 : Nat), F.a (A.c (C.ow (0 : Nat) (List.length x2)))), ((8 : Nat), F.a (A.c (C.ow (1 : Nat) (List.length x3)))), ((9 : Nat), F.a (A.c (C.sc (Go.Value.int Go.IntKind.i64 x1))))], mem := [some (Row.arr (24 : Nat) ty24 x2 false), some (Row.arr (24 : Nat) ty24 x3 false)], nx := (2 : Nat) } = ifs (decide (x1 ≥ (0 : Int)) = true) (ifs ((0 : Int) ≤ x1) (Option.bind x0[Int.toNat x1]? fun r => Option.bind (cR (nat_lit 49) [RT.own (24 : Go.TypeId) ty24, RT.d ty24, RT.d (Ty.int Go.IntKind.i64)] [inj ty24 r, inj (Ty.sl ty24) (List.take (List.length x2) x2)]) fun r => ifs ((r.snd.snd != (0 : Int)) = true) (some (injRs [RT.d (Ty.sl ty24), RT.own (24 : Go.TypeId) ty24, RT.d (Ty.int Go.IntKind.i64)] ([], [], r.snd.snd))) (ifs (((1 : Nat) + List.length (List.take (List.length x3) x3)) * nat_lit 96 ≤ (140737488355328 : Nat)) (l45_3 x0 (Go.IntKind.wrap Go.IntKind.i64 (x1 - (1 : Int))) r.fst ([r.snd.fst] ++ List.take (List.length x3) x3)) none)) none) (some (injRs [RT.d (Ty.sl ty24), RT.own (24 : Go.TypeId) ty24, RT.d (Ty.int Go.IntKind.i64)] (List.take (List.length x2) x2, List.take (List.length x3) x3, (0 : Int)))) := by kernel_rfl
theorem e103 (a0 : Int) (a2 : List (Int × ByteArray × ByteArray × Int × List ByteArray × List ByteArray)) (b0 : List Int) (b1 : List (Int × ByteArray × ByteArray × Int × List ByteArray × List ByteArray)) : callG W0 (callW W0) (cutW W0) 103 [inj (Ty.int Go.IntKind.i64) a0, A.c (C.pt (Pt.own (0 : Nat) (0 : Nat) (0 : Nat))), A.c (C.pt (Pt.sh (Ty.sl (Ty.pair (Ty.int Go.IntKind.i64) (Ty.pair Ty.str (Ty.pair Ty.str (Ty.pair (Ty.int Go.IntKind.i64) (Ty.pair (Ty.sl Ty.str) (Ty.sl Ty.str))))))) a2 (0 : Nat))), A.c (C.pt (Pt.own (1 : Nat) (0 : Nat) (0 : Nat))), inj (Ty.sl (Ty.int Go.IntKind.i64)) b0, inj (Ty.sl ty24) b1] = ifs (((1 : Nat) + List.length b0) * nat_lit 8 ≤ (140737488355328 : Nat)) (ifs ((0 : Int) ≤ a0) (Option.bind a2[Int.toNat a0]? fun r => ifs (((1 : Nat) + List.length b1) * nat_lit 96 ≤ (140737488355328 : Nat)) (some (injRs [] () ++ injRs [RT.d (Ty.sl (Ty.int Go.IntKind.i64)), RT.d (Ty.sl ty24)] (List.take (List.length ([a0] ++ b0)) ([a0] ++ b0), List.take (List.length ([r] ++ b1)) ([r] ++ b1)))) none) none) none := by kernel_rfl
noncomputable def td51_7 : List Item := (findT (code Tryd.f51) [] 7).getD []
noncomputable def l51_7 (x0 : Int) (x1 : List (Int × ByteArray × ByteArray × Int × List ByteArray × List ByteArray)) (x2 : List (Int × ByteArray × ByteArray × Int × List ByteArray × List ByteArray)) : Option (List RV) := cutW W0 n51 td51_7 { fr := [((2 : Nat), F.a (A.c (C.pt (Pt.own (0 : Nat) (0 : Nat) (0 : Nat))))), ((5 : Nat), F.a (A.c (C.pt (Pt.own (1 : Nat) (0 : Nat) (0 : Nat))))), ((6 : Nat), F.a (A.c (C.pt (Pt.own (2 : Nat) (0 : Nat) (0 : Nat))))), ((7 : Nat), F.a (A.c (C.cl (103 : Nat) [Pt.own (1 : Nat) (0 : Nat) (0 : Nat), Pt.own (0 : Nat) (0 : Nat) (0 : Nat), Pt.own (2 : Nat) (0 : Nat) (0 : Nat)]))), ((8 : Nat), F.a (A.c (C.sc (Go.Value.int Go.IntKind.i64 x0))))], mem := [some (Row.box (26 : Nat) (some (Ty.sl ty24)) [C.sl ty24 x1] false), some (Row.box (84 : Nat) (some (Ty.sl (Ty.int Go.IntKind.i64))) [C.nl] false), some (Row.box (26 : Nat) (some (Ty.sl ty24)) [C.sl ty24 x2] false)], nx := (3 : Nat) }
noncomputable def l51_7v1 (x0 : Int) (x1 : List (Int × ByteArray × ByteArray × Int × List ByteArray × List ByteArray)) (x2 : List Int) (x3 : List (Int × ByteArray × ByteArray × Int × List ByteArray × List ByteArray)) : Option (List RV) := cutW W0 n51 td51_7 { fr := [((2 : Nat), F.a (A.c (C.pt (Pt.own (0 : Nat) (0 : Nat) (0 : Nat))))), ((5 : Nat), F.a (A.c (C.pt (Pt.own (1 : Nat) (0 : Nat) (0 : Nat))))), ((6 : Nat), F.a (A.c (C.pt (Pt.own (2 : Nat) (0 : Nat) (0 : Nat))))), ((7 : Nat), F.a (A.c (C.cl (103 : Nat) [Pt.own (1 : Nat) (0 : Nat) (0 : Nat), Pt.own (0 : Nat) (0 : Nat) (0 : Nat), Pt.own (2 : Nat) (0 : Nat) (0 : Nat)]))), ((8 : Nat), F.a (A.c (C.sc (Go.Value.int Go.IntKind.i64 x0))))], mem := [some (Row.box (26 : Nat) (some (Ty.sl ty24)) [C.sl ty24 x1] true), some (Row.box (84 : Nat) (some (Ty.sl (Ty.int Go.IntKind.i64))) [C.sl (Ty.int Go.IntKind.i64) x2] false), some (Row.box (26 : Nat) (some (Ty.sl ty24)) [C.sl ty24 x3] false)], nx := (3 : Nat) }
theorem e51 (a0 : List (Int × ByteArray × ByteArray × Int × List ByteArray × List ByteArray)) (a1 : Int) : callG W0 (callW W0) (cutW W0) 51 [inj (Ty.sl ty24) a0, inj (Ty.int Go.IntKind.i64) a1] = ifs (decide (a1 < (0 : Int)) = false) (ifs (decide (a1 ≥ (↑(List.length a0) : Int)) = true) (some (injRs [RT.d (Ty.sl (Ty.int Go.IntKind.i64))] [])) (ifs ((0 : Int) ≤ a1) (Option.bind a0[Int.toNat a1]? fun r => l51_7 (Go.IntKind.wrap Go.IntKind.i64 (a1 - (1 : Int))) a0 [r]) none)) (some (injRs [RT.d (Ty.sl (Ty.int Go.IntKind.i64))] [])) := by kernel_rfl
theorem q51_7 (x0 : Int) (x1 : List (Int × ByteArray × ByteArray × Int × List ByteArray × List ByteArray)) (x2 : List (Int × ByteArray × ByteArray × Int × List ByteArray × List ByteArray)) : cutG W0 (callW W0) (cutW W0) n51 td51_7 { fr := [((2 : Nat), F.a (A.c (C.pt (Pt.own (0 : Nat) (0 : Nat) (0 : Nat))))), ((5 : Nat), F.a (A.c (C.pt (Pt.own (1 : Nat) (0 : Nat) (0 : Nat))))), ((6 : Nat), F.a (A.c (C.pt (Pt.own (2 : Nat) (0 : Nat) (0 : Nat))))), ((7 : Nat), F.a (A.c (C.cl (103 : Nat) [Pt.own (1 : Nat) (0 : Nat) (0 : Nat), Pt.own (0 : Nat) (0 : Nat) (0 : Nat), Pt.own (2 : Nat) (0 : Nat) (0 : Nat)]))), ((8 : Nat), F.a (A.c (C.sc (Go.Value.int Go.IntKind.i64 x0))))], mem := [some (Row.box (26 : Nat) (some (Ty.sl ty24)) [C.sl ty24 x1] false), some (Row.box (84 : Nat) (some (Ty.sl (Ty.int Go.IntKind.i64))) [C.nl] false), some (Row.box (26 : Nat) (some (Ty.sl ty24)) [C.sl ty24 x2] false)], nx := (3 : Nat) } = ifs (decide (x0 ≥ (0 : Int)) = true) (ifs ((0 : Int) ≤ x0) (Option.bind x1[Int.toNat x0]? fun r => Option.bind (cR (nat_lit 45) [RT.d (Ty.sl ty24), RT.own (24 : Go.TypeId) ty24, RT.d (Ty.int Go.IntKind.i64)] [inj (Ty.sl ty24) [r], inj (Ty.sl ty24) x2]) fun r => ifs ((r.snd.snd != (0 : Int)) = true) (Option.bind (cR2 (nat_lit 103) [] [Ty.sl (Ty.int Go.IntKind.i64), Ty.sl ty24] [inj (Ty.int Go.IntKind.i64) x0, A.c (C.pt (Pt.own (0 : Nat) (0 : Nat) (0 : Nat))), A.c (C.pt (Pt.sh (Ty.sl ty24) x1 (0 : Nat))), A.c (C.pt (Pt.own (1 : Nat) (0 : Nat) (0 : Nat))), inj (Ty.sl (Ty.int Go.IntKind.i64)) [], inj (Ty.sl ty24) x2]) fun r => l51_7v1 (Go.IntKind.wrap Go.IntKind.i64 (x0 - (1 : Int))) x1 r.snd.fst r.snd.snd) (l51_7 (Go.IntKind.wrap Go.IntKind.i64 (x0 - (1 : Int))) x1 r.fst)) none) (some (injRs [RT.d (Ty.sl (Ty.int Go.IntKind.i64))] [])) := by kernel_rfl
theorem q51_7v1 (x0 : Int) (x1 : List (Int × ByteArray × ByteArray × Int × List ByteArray × List ByteArray)) (x2 : List Int) (x3 : List (Int × ByteArray × ByteArray × Int × List ByteArray × List ByteArray)) : cutG W0 (callW W0) (cutW W0) n51 td51_7 { fr := [((2 : Nat), F.a (A.c (C.pt (Pt.own (0 : Nat) (0 : Nat) (0 : Nat))))), ((5 : Nat), F.a (A.c (C.pt (Pt.own (1 : Nat) (0 : Nat) (0 : Nat))))), ((6 : Nat), F.a (A.c (C.pt (Pt.own (2 : Nat) (0 : Nat) (0 : Nat))))), ((7 : Nat), F.a (A.c (C.cl (103 : Nat) [Pt.own (1 : Nat) (0 : Nat) (0 : Nat), Pt.own (0 : Nat) (0 : Nat) (0 : Nat), Pt.own (2 : Nat) (0 : Nat) (0 : Nat)]))), ((8 : Nat), F.a (A.c (C.sc (Go.Value.int Go.IntKind.i64 x0))))], mem := [some (Row.box (26 : Nat) (some (Ty.sl ty24)) [C.sl ty24 x1] true), some (Row.box (84 : Nat) (some (Ty.sl (Ty.int Go.IntKind.i64))) [C.sl (Ty.int Go.IntKind.i64) x2] false), some (Row.box (26 : Nat) (some (Ty.sl ty24)) [C.sl ty24 x3] false)], nx := (3 : Nat) } = ifs (decide (x0 ≥ (0 : Int)) = true) (ifs ((0 : Int) ≤ x0) (Option.bind x1[Int.toNat x0]? fun r => Option.bind (cR (nat_lit 45) [RT.d (Ty.sl ty24), RT.own (24 : Go.TypeId) ty24, RT.d (Ty.int Go.IntKind.i64)] [inj (Ty.sl ty24) [r], inj (Ty.sl ty24) x3]) fun r => ifs ((r.snd.snd != (0 : Int)) = true) (Option.bind (cR2 (nat_lit 103) [] [Ty.sl (Ty.int Go.IntKind.i64), Ty.sl ty24] [inj (Ty.int Go.IntKind.i64) x0, A.c (C.pt (Pt.own (0 : Nat) (0 : Nat) (0 : Nat))), A.c (C.pt (Pt.sh (Ty.sl ty24) x1 (0 : Nat))), A.c (C.pt (Pt.own (1 : Nat) (0 : Nat) (0 : Nat))), inj (Ty.sl (Ty.int Go.IntKind.i64)) x2, inj (Ty.sl ty24) x3]) fun r => l51_7v1 (Go.IntKind.wrap Go.IntKind.i64 (x0 - (1 : Int))) x1 r.snd.fst r.snd.snd) (l51_7v1 (Go.IntKind.wrap Go.IntKind.i64 (x0 - (1 : Int))) x1 x2 r.fst)) none) (some (injRs [RT.d (Ty.sl (Ty.int Go.IntKind.i64))] x2)) := by kernel_rfl
noncomputable def td55_3 : List Item := (findT (code Tryd.f55) [] 3).getD []
noncomputable def l55_3 (x0 : List (Int × ByteArray × ByteArray × Int × List ByteArray × List ByteArray)) (x1 : Int) (x2 : Int) (x3 : List ByteArray) : Option (List RV) := cutW W0 n55 td55_3 { fr := [((3 : Nat), F.a (A.c (C.ow (0 : Nat) (List.length x3)))), ((6 : Nat), F.a (A.c (C.sl ty24 x0))), ((7 : Nat), F.a (A.c (C.sc (Go.Value.int Go.IntKind.i64 x1)))), ((8 : Nat), F.a (A.c (C.sc (Go.Value.int Go.IntKind.i64 x2))))], mem := [some (Row.arr (9 : Nat) Ty.str x3 false)], nx := (1 : Nat) }
theorem e55 (a0 : List (Int × ByteArray × ByteArray × Int × List ByteArray × List ByteArray)) : callG W0 (callW W0) (cutW W0) 55 [inj (Ty.sl ty24) a0] = l55_3 a0 (↑(List.length a0) : Int) (0 : Int) [] := by kernel_rfl
theorem q55_3 (x0 : List (Int × ByteArray × ByteArray × Int × List ByteArray × List ByteArray)) (x1 : Int) (x2 : Int) (x3 : List ByteArray) : cutG W0 (callW W0) (cutW W0) n55 td55_3 { fr := [((3 : Nat), F.a (A.c (C.ow (0 : Nat) (List.length x3)))), ((6 : Nat), F.a (A.c (C.sl ty24 x0))), ((7 : Nat), F.a (A.c (C.sc (Go.Value.int Go.IntKind.i64 x1)))), ((8 : Nat), F.a (A.c (C.sc (Go.Value.int Go.IntKind.i64 x2))))], mem := [some (Row.arr (9 : Nat) Ty.str x3 false)], nx := (1 : Nat) } = ifs (decide (x2 < x1) = true) (ifs ((0 : Int) ≤ x2) (Option.bind x0[Int.toNat x2]? fun r => Option.bind (cR (nat_lit 60) [RT.own (9 : Go.TypeId) Ty.str] [inj ty24 r]) fun r => ifs ((List.length x3 + List.length (List.take (List.length r) r)) * nat_lit 16 ≤ (140737488355328 : Nat)) (l55_3 x0 x1 (Go.IntKind.wrap Go.IntKind.i64 (x2 + (1 : Int))) (List.take (List.length x3) x3 ++ List.take (List.length r) r)) none) none) (Option.bind (cR (nat_lit 104) [RT.own (9 : Go.TypeId) Ty.str] [inj (Ty.sl Ty.str) (List.take (List.length x3) x3)]) fun r => some (injRs [RT.own (9 : Go.TypeId) Ty.str] (List.take (List.length r) r))) := by kernel_rfl
theorem e53 (a0 : Int × ByteArray × ByteArray × Int × List ByteArray × List ByteArray) : callG W0 (callW W0) (cutW W0) 53 [inj ty24 a0] = Option.bind (cR (nat_lit 67) [RT.d (Ty.int Go.IntKind.i64)] [inj ty24 a0]) fun r => ifs ((r != (0 : Int)) = true) (some (injRs [RT.own (9 : Go.TypeId) Ty.str] [])) (ifs ((a0.fst == (5 : Int)) = true) (some (injRs [RT.own (9 : Go.TypeId) Ty.str] (List.take (List.length ([a0.snd.fst] ++ [a0.snd.snd.fst])) ([a0.snd.fst] ++ [a0.snd.snd.fst])))) (some (injRs [RT.own (9 : Go.TypeId) Ty.str] [a0.snd.fst]))) := by kernel_rfl
theorem e183 (a0 : List ByteArray) (a1 : List ByteArray) : callG W0 (callW W0) (cutW W0) 183 [inj (Ty.sl Ty.str) a0, inj (Ty.sl Ty.str) a1] = ifs (decide ((↑(List.length a1) : Int) > (↑(List.length a0) : Int)) = true) (some (injRs [RT.d Ty.bool] false)) (ifs ((0 : Int) ≤ (↑(List.length a1) : Int) ∧ (↑(List.length a1) : Int) ≤ (↑(List.length a0) : Int)) (Option.bind (cR (nat_lit 42) [RT.d Ty.bool] [inj (Ty.sl Ty.str) (List.drop (Int.toNat (0 : Int)) (List.take (Int.toNat (↑(List.length a1) : Int)) a0)), inj (Ty.sl Ty.str) a1]) fun r => some (injRs [RT.d Ty.bool] r)) none) := by kernel_rfl
theorem e152 (a0 : Int × ByteArray × ByteArray × Int × List ByteArray × List ByteArray) (a1 : ByteArray) (a2 : ByteArray) : callG W0 (callW W0) (cutW W0) 152 [inj ty24 a0, inj Ty.str a1, inj Ty.str a2] = ifs ((ByteArray.toList a1 == ByteArray.toList a2) = true) (some (injRs [RT.d Ty.bool] true)) (Option.bind (cR (nat_lit 98) [RT.own (9 : Go.TypeId) Ty.str] [inj Ty.str a1]) fun r => Option.bind (cR (nat_lit 98) [RT.own (9 : Go.TypeId) Ty.str] [inj Ty.str a2]) fun r_1 => ifs (decide (a0.fst ≤ (2 : Int)) = true) (ifs (decide ((↑(List.length r) : Int) < (↑(List.length r_1) : Int)) = true) (Option.bind (cR (nat_lit 183) [RT.d Ty.bool] [inj (Ty.sl Ty.str) (List.take (List.length r_1) r_1), inj (Ty.sl Ty.str) (List.take (List.length r) r)]) fun r => some (injRs [RT.d Ty.bool] r)) (some (injRs [RT.d Ty.bool] false))) (some (injRs [RT.d Ty.bool] false))) := by kernel_rfl
noncomputable def td105_4 : List Item := (findT (code Tryd.f105) [] 4).getD []
noncomputable def l105_4 (x0 : Int) (x1 : Int) (x2 : ByteArray) (x3 : ByteArray) (x4 : Int) (x5 : List ByteArray) (x6 : List ByteArray) (x7 : Int) (x8 : ByteArray) (x9 : ByteArray) (x10 : Int) (x11 : List ByteArray) (x12 : List ByteArray) (x13 : List ByteArray) (x14 : List ByteArray) : Option (List RV) := cutW W0 n105 td105_4 { fr := [((2 : Nat), F.a (A.c (C.pt (Pt.own (0 : Nat) (0 : Nat) (0 : Nat))))), ((3 : Nat), F.a (A.c (C.pt (Pt.own (1 : Nat) (0 : Nat) (0 : Nat))))), ((5 : Nat), F.a (A.c (C.ow (2 : Nat) (List.length x13)))), ((6 : Nat), F.a (A.c (C.ow (3 : Nat) (List.length x14)))), ((7 : Nat), F.a (A.c (C.sc (Go.Value.int Go.IntKind.i64 x0))))], mem := [some (Row.box (24 : Nat) (some ty24) [C.sc (Go.Value.int Go.IntKind.i64 x1), C.sc (Go.Value.string x2), C.sc (Go.Value.string x3), C.sc (Go.Value.int Go.IntKind.i64 x4), C.sl Ty.str x5, C.sl Ty.str x6] false), some (Row.box (24 : Nat) (some ty24) [C.sc (Go.Value.int Go.IntKind.i64 x7), C.sc (Go.Value.string x8), C.sc (Go.Value.string x9), C.sc (Go.Value.int Go.IntKind.i64 x10), C.sl Ty.str x11, C.sl Ty.str x12] false), some (Row.arr (9 : Nat) Ty.str x13 false), some (Row.arr (9 : Nat) Ty.str x14 false)], nx := (4 : Nat) }
noncomputable def td105_7 : List Item := (findT (code Tryd.f105) [] 7).getD []
noncomputable def l105_7 (x0 : Int) (x1 : Int) (x2 : Int) (x3 : ByteArray) (x4 : ByteArray) (x5 : Int) (x6 : List ByteArray) (x7 : List ByteArray) (x8 : Int) (x9 : ByteArray) (x10 : ByteArray) (x11 : Int) (x12 : List ByteArray) (x13 : List ByteArray) (x14 : List ByteArray) (x15 : List ByteArray) : Option (List RV) := cutW W0 n105 td105_7 { fr := [((2 : Nat), F.a (A.c (C.pt (Pt.own (0 : Nat) (0 : Nat) (0 : Nat))))), ((3 : Nat), F.a (A.c (C.pt (Pt.own (1 : Nat) (0 : Nat) (0 : Nat))))), ((5 : Nat), F.a (A.c (C.ow (2 : Nat) (List.length x14)))), ((6 : Nat), F.a (A.c (C.ow (3 : Nat) (List.length x15)))), ((7 : Nat), F.a (A.c (C.sc (Go.Value.int Go.IntKind.i64 x0)))), ((8 : Nat), F.a (A.c (C.sc (Go.Value.int Go.IntKind.i64 x1))))], mem := [some (Row.box (24 : Nat) (some ty24) [C.sc (Go.Value.int Go.IntKind.i64 x2), C.sc (Go.Value.string x3), C.sc (Go.Value.string x4), C.sc (Go.Value.int Go.IntKind.i64 x5), C.sl Ty.str x6, C.sl Ty.str x7] false), some (Row.box (24 : Nat) (some ty24) [C.sc (Go.Value.int Go.IntKind.i64 x8), C.sc (Go.Value.string x9), C.sc (Go.Value.string x10), C.sc (Go.Value.int Go.IntKind.i64 x11), C.sl Ty.str x12, C.sl Ty.str x13] false), some (Row.arr (9 : Nat) Ty.str x14 false), some (Row.arr (9 : Nat) Ty.str x15 false)], nx := (4 : Nat) }
theorem e105 (a0 : Int × ByteArray × ByteArray × Int × List ByteArray × List ByteArray) (a1 : Int × ByteArray × ByteArray × Int × List ByteArray × List ByteArray) : callG W0 (callW W0) (cutW W0) 105 [inj ty24 a0, inj ty24 a1] = Option.bind (cR (nat_lit 53) [RT.own (9 : Go.TypeId) Ty.str] [inj ty24 a0]) fun r => Option.bind (cR (nat_lit 53) [RT.own (9 : Go.TypeId) Ty.str] [inj ty24 a1]) fun r_1 => l105_4 (0 : Int) a0.fst a0.snd.fst a0.snd.snd.fst a0.snd.snd.snd.fst a0.snd.snd.snd.snd.fst a0.snd.snd.snd.snd.snd a1.fst a1.snd.fst a1.snd.snd.fst a1.snd.snd.snd.fst a1.snd.snd.snd.snd.fst a1.snd.snd.snd.snd.snd r r_1 := by kernel_rfl
theorem q105_4 (x0 : Int) (x1 : Int) (x2 : ByteArray) (x3 : ByteArray) (x4 : Int) (x5 : List ByteArray) (x6 : List ByteArray) (x7 : Int) (x8 : ByteArray) (x9 : ByteArray) (x10 : Int) (x11 : List ByteArray) (x12 : List ByteArray) (x13 : List ByteArray) (x14 : List ByteArray) : cutG W0 (callW W0) (cutW W0) n105 td105_4 { fr := [((2 : Nat), F.a (A.c (C.pt (Pt.own (0 : Nat) (0 : Nat) (0 : Nat))))), ((3 : Nat), F.a (A.c (C.pt (Pt.own (1 : Nat) (0 : Nat) (0 : Nat))))), ((5 : Nat), F.a (A.c (C.ow (2 : Nat) (List.length x13)))), ((6 : Nat), F.a (A.c (C.ow (3 : Nat) (List.length x14)))), ((7 : Nat), F.a (A.c (C.sc (Go.Value.int Go.IntKind.i64 x0))))], mem := [some (Row.box (24 : Nat) (some ty24) [C.sc (Go.Value.int Go.IntKind.i64 x1), C.sc (Go.Value.string x2), C.sc (Go.Value.string x3), C.sc (Go.Value.int Go.IntKind.i64 x4), C.sl Ty.str x5, C.sl Ty.str x6] false), some (Row.box (24 : Nat) (some ty24) [C.sc (Go.Value.int Go.IntKind.i64 x7), C.sc (Go.Value.string x8), C.sc (Go.Value.string x9), C.sc (Go.Value.int Go.IntKind.i64 x10), C.sl Ty.str x11, C.sl Ty.str x12] false), some (Row.arr (9 : Nat) Ty.str x13 false), some (Row.arr (9 : Nat) Ty.str x14 false)], nx := (4 : Nat) } = ifs (decide (x0 < (↑(List.length x13) : Int)) = true) (l105_7 x0 (0 : Int) x1 x2 x3 x4 x5 x6 x7 x8 x9 x10 x11 x12 x13 x14) (ifs (decide ((↑(List.length x13) : Int) > (0 : Int)) = true) (some (injRs [RT.d Ty.bool] (decide ((↑(List.length x14) : Int) > (0 : Int))))) (some (injRs [RT.d Ty.bool] false))) := by kernel_rfl
theorem q105_7 (x0 : Int) (x1 : Int) (x2 : Int) (x3 : ByteArray) (x4 : ByteArray) (x5 : Int) (x6 : List ByteArray) (x7 : List ByteArray) (x8 : Int) (x9 : ByteArray) (x10 : ByteArray) (x11 : Int) (x12 : List ByteArray) (x13 : List ByteArray) (x14 : List ByteArray) (x15 : List ByteArray) : cutG W0 (callW W0) (cutW W0) n105 td105_7 { fr := [((2 : Nat), F.a (A.c (C.pt (Pt.own (0 : Nat) (0 : Nat) (0 : Nat))))), ((3 : Nat), F.a (A.c (C.pt (Pt.own (1 : Nat) (0 : Nat) (0 : Nat))))), ((5 : Nat), F.a (A.c (C.ow (2 : Nat) (List.length x14)))), ((6 : Nat), F.a (A.c (C.ow (3 : Nat) (List.length x15)))), ((7 : Nat), F.a (A.c (C.sc (Go.Value.int Go.IntKind.i64 x0)))), ((8 : Nat), F.a (A.c (C.sc (Go.Value.int Go.IntKind.i64 x1))))], mem := [some (Row.box (24 : Nat) (some ty24) [C.sc (Go.Value.int Go.IntKind.i64 x2), C.sc (Go.Value.string x3), C.sc (Go.Value.string x4), C.sc (Go.Value.int Go.IntKind.i64 x5), C.sl Ty.str x6, C.sl Ty.str x7] false), some (Row.box (24 : Nat) (some ty24) [C.sc (Go.Value.int Go.IntKind.i64 x8), C.sc (Go.Value.string x9), C.sc (Go.Value.string x10), C.sc (Go.Value.int Go.IntKind.i64 x11), C.sl Ty.str x12, C.sl Ty.str x13] false), some (Row.arr (9 : Nat) Ty.str x14 false), some (Row.arr (9 : Nat) Ty.str x15 false)], nx := (4 : Nat) } = ifs (decide (x1 < (↑(List.length x15) : Int)) = true) (ifs ((0 : Int) ≤ x0 ∧ x0 < (↑(List.length x14) : Int)) (Option.bind x14[Int.toNat x0]? fun r => ifs ((0 : Int) ≤ x1 ∧ x1 < (↑(List.length x15) : Int)) (Option.bind x15[Int.toNat x1]? fun r_1 => Option.bind (cR (nat_lit 152) [RT.d Ty.bool] [inj ty24 (x2, x3, x4, x5, x6, x7), inj Ty.str r, inj Ty.str r_1]) fun r => ifs (r = false) (ifs ((0 : Int) ≤ x1 ∧ x1 < (↑(List.length x15) : Int)) (Option.bind x15[Int.toNat x1]? fun r => ifs ((0 : Int) ≤ x0 ∧ x0 < (↑(List.length x14) : Int)) (Option.bind x14[Int.toNat x0]? fun r_2 => Option.bind (cR (nat_lit 152) [RT.d Ty.bool] [inj ty24 (x8, x9, x10, x11, x12, x13), inj Ty.str r, inj Ty.str r_2]) fun r => ifs (r = true) (some (injRs [RT.d Ty.bool] false)) (l105_7 x0 (Go.IntKind.wrap Go.IntKind.i64 (x1 + (1 : Int))) x2 x3 x4 x5 x6 x7 x8 x9 x10 x11 x12 x13 x14 x15)) none) none) (some (injRs [RT.d Ty.bool] false))) none) none) (l105_4 (Go.IntKind.wrap Go.IntKind.i64 (x0 + (1 : Int))) x2 x3 x4 x5 x6 x7 x8 x9 x10 x11 x12 x13 x14 x15) := by kernel_rfl
theorem e57 (a0 : Int × ByteArray × ByteArray × Int × List ByteArray × List ByteArray) (a1 : Int × ByteArray × ByteArray × Int × List ByteArray × List ByteArray) : callG W0 (callW W0) (cutW W0) 57 [inj ty24 a0, inj ty24 a1] = Option.bind (cR (nat_lit 67) [RT.d (Ty.int Go.IntKind.i64)] [inj ty24 a0]) fun r => ifs ((r != (0 : Int)) = true) (some (injRs [RT.d ty24, RT.d ty24, RT.d (Ty.int Go.IntKind.i64)] (((0 : Int), { data := #[] }, { data := #[] }, (0 : Int), [], []), ((0 : Int), { data := #[] }, { data := #[] }, (0 : Int), [], []), r))) (Option.bind (cR (nat_lit 67) [RT.d (Ty.int Go.IntKind.i64)] [inj ty24 a1]) fun r => ifs ((r != (0 : Int)) = true) (some (injRs [RT.d ty24, RT.d ty24, RT.d (Ty.int Go.IntKind.i64)] (((0 : Int), { data := #[] }, { data := #[] }, (0 : Int), [], []), ((0 : Int), { data := #[] }, { data := #[] }, (0 : Int), [], []), r))) (ifs ((a0.fst == (6 : Int)) = true) (ifs ((a1.fst == (6 : Int)) = true) (ifs ((ByteArray.toList a0.snd.fst == ByteArray.toList a1.snd.fst) = true) (ifs (decide (Go.IntKind.wrap Go.IntKind.i64 (a1.snd.snd.snd.fst - (↑(List.length a0.snd.snd.snd.snd.snd) : Int)) > a0.snd.snd.snd.fst) = true) (some (injRs [RT.d ty24, RT.d ty24, RT.d (Ty.int Go.IntKind.i64)] ((a1.fst, a1.snd.fst, a1.snd.snd.fst, Go.IntKind.wrap Go.IntKind.i64 (Go.IntKind.wrap Go.IntKind.i64 (a1.snd.snd.snd.fst - (↑(List.length a0.snd.snd.snd.snd.snd) : Int)) + (↑(List.length a0.snd.snd.snd.snd.fst) : Int)), a1.snd.snd.snd.snd), a0, (0 : Int)))) (ifs (decide (Go.IntKind.wrap Go.IntKind.i64 (a0.snd.snd.snd.fst - (↑(List.length a1.snd.snd.snd.snd.fst) : Int)) > a1.snd.snd.snd.fst) = true) (some (injRs [RT.d ty24, RT.d ty24, RT.d (Ty.int Go.IntKind.i64)] (a1, (a0.fst, a0.snd.fst, a0.snd.snd.fst, Go.IntKind.wrap Go.IntKind.i64 (Go.IntKind.wrap Go.IntKind.i64 (a0.snd.snd.snd.fst + (↑(List.length a1.snd.snd.snd.snd.snd) : Int)) - (↑(List.length a1.snd.snd.snd.snd.fst) : Int)), a0.snd.snd.snd.snd), (0 : Int)))) (some (injRs [RT.d ty24, RT.d ty24, RT.d (Ty.int Go.IntKind.i64)] (((0 : Int), { data := #[] }, { data := #[] }, (0 : Int), [], []), ((0 : Int), { data := #[] }, { data := #[] }, (0 : Int), [], []), (13 : Int)))))) (ifs ((a0.fst == (5 : Int)) = true) (ifs ((a1.fst == (6 : Int)) = true) (ifs ((ByteArray.toList a1.snd.fst == ByteArray.toList a0.snd.snd.fst) = true) (some (injRs [RT.d ty24, RT.d ty24, RT.d (Ty.int Go.IntKind.i64)] ((a1.fst, a0.snd.fst, a1.snd.snd), a0, (0 : Int)))) (ifs ((a0.fst == (6 : Int)) = true) (ifs ((a1.fst == (5 : Int)) = true) (ifs ((ByteArray.toList a1.snd.fst == ByteArray.toList a0.snd.fst) = true) (some (injRs [RT.d ty24, RT.d ty24, RT.d (Ty.int Go.IntKind.i64)] (a1, (a0.fst, a1.snd.snd.fst, a0.snd.snd), (0 : Int)))) (Option.bind (cR (nat_lit 105) [RT.d Ty.bool] [inj ty24 a0, inj ty24 a1]) fun r => ifs ((!r) = true) (some (injRs [RT.d ty24, RT.d ty24, RT.d (Ty.int Go.IntKind.i64)] (((0 : Int), { data := #[] }, { data := #[] }, (0 : Int), [], []), ((0 : Int), { data := #[] }, { data := #[] }, (0 : Int), [], []), (13 : Int)))) (some (injRs [RT.d ty24, RT.d ty24, RT.d (Ty.int Go.IntKind.i64)] (a1, a0, (0 : Int)))))) (Option.bind (cR (nat_lit 105) [RT.d Ty.bool] [inj ty24 a0, inj ty24 a1]) fun r => ifs ((!r) = true) (some (injRs [RT.d ty24, RT.d ty24, RT.d (Ty.int Go.IntKind.i64)] (((0 : Int), { data := #[] }, { data := #[] }, (0 : Int), [], []), ((0 : Int), { data := #[] }, { data := #[] }, (0 : Int), [], []), (13 : Int)))) (some (injRs [RT.d ty24, RT.d ty24, RT.d (Ty.int Go.IntKind.i64)] (a1, a0, (0 : Int)))))) (Option.bind (cR (nat_lit 105) [RT.d Ty.bool] [inj ty24 a0, inj ty24 a1]) fun r => ifs ((!r) = true) (some (injRs [RT.d ty24, RT.d ty24, RT.d (Ty.int Go.IntKind.i64)] (((0 : Int), { data := #[] }, { data := #[] }, (0 : Int), [], []), ((0 : Int), { data := #[] }, { data := #[] }, (0 : Int), [], []), (13 : Int)))) (some (injRs [RT.d ty24, RT.d ty24, RT.d (Ty.int Go.IntKind.i64)] (a1, a0, (0 : Int))))))) (ifs ((a0.fst == (6 : Int)) = true) (ifs ((a1.fst == (5 : Int)) = true) (ifs ((ByteArray.toList a1.snd.fst == ByteArray.toList a0.snd.fst) = true) (some (injRs [RT.d ty24, RT.d ty24, RT.d (Ty.int Go.IntKind.i64)] (a1, (a0.fst, a1.snd.snd.fst, a0.snd.snd), (0 : Int)))) (Option.bind (cR (nat_lit 105) [RT.d Ty.bool] [inj ty24 a0, inj ty24 a1]) fun r => ifs ((!r) = true) (some (injRs [RT.d ty24, RT.d ty24, RT.d (Ty.int Go.IntKind.i64)] (((0 : Int), { data := #[] }, { data := #[] }, (0 : Int), [], []), ((0 : Int), { data := #[] }, { data := #[] }, (0 : Int), [], []), (13 : Int)))) (some (injRs [RT.d ty24, RT.d ty24, RT.d (Ty.int Go.IntKind.i64)] (a1, a0, (0 : Int)))))) (Option.bind (cR (nat_lit 105) [RT.d Ty.bool] [inj ty24 a0, inj ty24 a1]) fun r => ifs ((!r) = true) (some (injRs [RT.d ty24, RT.d ty24, RT.d (Ty.int Go.IntKind.i64)] (((0 : Int), { data := #[] }, { data := #[] }, (0 : Int), [], []), ((0 : Int), { data := #[] }, { data := #[] }, (0 : Int), [], []), (13 : Int)))) (some (injRs [RT.d ty24, RT.d ty24, RT.d (Ty.int Go.IntKind.i64)] (a1, a0, (0 : Int)))))) (Option.bind (cR (nat_lit 105) [RT.d Ty.bool] [inj ty24 a0, inj ty24 a1]) fun r => ifs ((!r) = true) (some (injRs [RT.d ty24, RT.d ty24, RT.d (Ty.int Go.IntKind.i64)] (((0 : Int), { data := #[] }, { data := #[] }, (0 : Int), [], []), ((0 : Int), { data := #[] }, { data := #[] }, (0 : Int), [], []), (13 : Int)))) (some (injRs [RT.d ty24, RT.d ty24, RT.d (Ty.int Go.IntKind.i64)] (a1, a0, (0 : Int))))))) (ifs ((a0.fst == (6 : Int)) = true) (ifs ((a1.fst == (5 : Int)) = true) (ifs ((ByteArray.toList a1.snd.fst == ByteArray.toList a0.snd.fst) = true) (some (injRs [RT.d ty24, RT.d ty24, RT.d (Ty.int Go.IntKind.i64)] (a1, (a0.fst, a1.snd.snd.fst, a0.snd.snd), (0 : Int)))) (Option.bind (cR (nat_lit 105) [RT.d Ty.bool] [inj ty24 a0, inj ty24 a1]) fun r => ifs ((!r) = true) (some (injRs [RT.d ty24, RT.d ty24, RT.d (Ty.int Go.IntKind.i64)] (((0 : Int), { data := #[] }, { data := #[] }, (0 : Int), [], []), ((0 : Int), { data := #[] }, { data := #[] }, (0 : Int), [], []), (13 : Int)))) (some (injRs [RT.d ty24, RT.d ty24, RT.d (Ty.int Go.IntKind.i64)] (a1, a0, (0 : Int)))))) (Option.bind (cR (nat_lit 105) [RT.d Ty.bool] [inj ty24 a0, inj ty24 a1]) fun r => ifs ((!r) = true) (some (injRs [RT.d ty24, RT.d ty24, RT.d (Ty.int Go.IntKind.i64)] (((0 : Int), { data := #[] }, { data := #[] }, (0 : Int), [], []), ((0 : Int), { data := #[] }, { data := #[] }, (0 : Int), [], []), (13 : Int)))) (some (injRs [RT.d ty24, RT.d ty24, RT.d (Ty.int Go.IntKind.i64)] (a1, a0, (0 : Int)))))) (Option.bind (cR (nat_lit 105) [RT.d Ty.bool] [inj ty24 a0, inj ty24 a1]) fun r => ifs ((!r) = true) (some (injRs [RT.d ty24, RT.d ty24, RT.d (Ty.int Go.IntKind.i64)] (((0 : Int), { data := #[] }, { data := #[] }, (0 : Int), [], []), ((0 : Int), { data := #[] }, { data := #[] }, (0 : Int), [], []), (13 : Int)))) (some (injRs [RT.d ty24, RT.d ty24, RT.d (Ty.int Go.IntKind.i64)] (a1, a0, (0 : Int)))))))) (ifs ((a0.fst == (5 : Int)) = true) (ifs ((a1.fst == (6 : Int)) = true) (ifs ((ByteArray.toList a1.snd.fst == ByteArray.toList a0.snd.snd.fst) = true) (some (injRs [RT.d ty24, RT.d ty24, RT.d (Ty.int Go.IntKind.i64)] ((a1.fst, a0.snd.fst, a1.snd.snd), a0, (0 : Int)))) (ifs ((a0.fst == (6 : Int)) = true) (ifs ((a1.fst == (5 : Int)) = true) (ifs ((ByteArray.toList a1.snd.fst == ByteArray.toList a0.snd.fst) = true) (some (injRs [RT.d ty24, RT.d ty24, RT.d (Ty.int Go.IntKind.i64)] (a1, (a0.fst, a1.snd.snd.fst, a0.snd.snd), (0 : Int)))) (Option.bind (cR (nat_lit 105) [RT.d Ty.bool] [inj ty24 a0, inj ty24 a1]) fun r => ifs ((!r) = true) (some (injRs [RT.d ty24, RT.d ty24, RT.d (Ty.int Go.IntKind.i64)] (((0 : Int), { data := #[] }, { data := #[] }, (0 : Int), [], []), ((0 : Int), { data := #[] }, { data := #[] }, (0 : Int), [], []), (13 : Int)))) (some (injRs [RT.d ty24, RT.d ty24, RT.d (Ty.int Go.IntKind.i64)] (a1, a0, (0 : Int)))))) (Option.bind (cR (nat_lit 105) [RT.d Ty.bool] [inj ty24 a0, inj ty24 a1]) fun r => ifs ((!r) = true) (some (injRs [RT.d ty24, RT.d ty24, RT.d (Ty.int Go.IntKind.i64)] (((0 : Int), { data := #[] }, { data := #[] }, (0 : Int), [], []), ((0 : Int), { data := #[] }, { data := #[] }, (0 : Int), [], []), (13 : Int)))) (some (injRs [RT.d ty24, RT.d ty24, RT.d (Ty.int Go.IntKind.i64)] (a1, a0, (0 : Int)))))) (Option.bind (cR (nat_lit 105) [RT.d Ty.bool] [inj ty24 a0, inj ty24 a1]) fun r => ifs ((!r) = true) (some (injRs [RT.d ty24, RT.d ty24, RT.d (Ty.int Go.IntKind.i64)] (((0 : Int), { data := #[] }, { data := #[] }, (0 : Int), [], []), ((0 : Int), { data := #[] }, { data := #[] }, (0 : Int), [], []), (13 : Int)))) (some (injRs [RT.d ty24, RT.d ty24, RT.d (Ty.int Go.IntKind.i64)] (a1, a0, (0 : Int))))))) (ifs ((a0.fst == (6 : Int)) = true) (ifs ((a1.fst == (5 : Int)) = true) (ifs ((ByteArray.toList a1.snd.fst == ByteArray.toList a0.snd.fst) = true) (some (injRs [RT.d ty24, RT.d ty24, RT.d (Ty.int Go.IntKind.i64)] (a1, (a0.fst, a1.snd.snd.fst, a0.snd.snd), (0 : Int)))) (Option.bind (cR (nat_lit 105) [RT.d Ty.bool] [inj ty24 a0, inj ty24 a1]) fun r => ifs ((!r) = true) (some (injRs [RT.d ty24, RT.d ty24, RT.d (Ty.int Go.IntKind.i64)] (((0 : Int), { data := #[] }, { data := #[] }, (0 : Int), [], []), ((0 : Int), { data := #[] }, { data := #[] }, (0 : Int), [], []), (13 : Int)))) (some (injRs [RT.d ty24, RT.d ty24, RT.d (Ty.int Go.IntKind.i64)] (a1, a0, (0 : Int)))))) (Option.bind (cR (nat_lit 105) [RT.d Ty.bool] [inj ty24 a0, inj ty24 a1]) fun r => ifs ((!r) = true) (some (injRs [RT.d ty24, RT.d ty24, RT.d (Ty.int Go.IntKind.i64)] (((0 : Int), { data := #[] }, { data := #[] }, (0 : Int), [], []), ((0 : Int), { data := #[] }, { data := #[] }, (0 : Int), [], []), (13 : Int)))) (some (injRs [RT.d ty24, RT.d ty24, RT.d (Ty.int Go.IntKind.i64)] (a1, a0, (0 : Int)))))) (Option.bind (cR (nat_lit 105) [RT.d Ty.bool] [inj ty24 a0, inj ty24 a1]) fun r => ifs ((!r) = true) (some (injRs [RT.d ty24, RT.d ty24, RT.d (Ty.int Go.IntKind.i64)] (((0 : Int), { data := #[] }, { data := #[] }, (0 : Int), [], []), ((0 : Int), { data := #[] }, { data := #[] }, (0 : Int), [], []), (13 : Int)))) (some (injRs [RT.d ty24, RT.d ty24, RT.d (Ty.int Go.IntKind.i64)] (a1, a0, (0 : Int))))))) (ifs ((a0.fst == (6 : Int)) = true) (ifs ((a1.fst == (5 : Int)) = true) (ifs ((ByteArray.toList a1.snd.fst == ByteArray.toList a0.snd.fst) = true) (some (injRs [RT.d ty24, RT.d ty24, RT.d (Ty.int Go.IntKind.i64)] (a1, (a0.fst, a1.snd.snd.fst, a0.snd.snd), (0 : Int)))) (Option.bind (cR (nat_lit 105) [RT.d Ty.bool] [inj ty24 a0, inj ty24 a1]) fun r => ifs ((!r) = true) (some (injRs [RT.d ty24, RT.d ty24, RT.d (Ty.int Go.IntKind.i64)] (((0 : Int), { data := #[] }, { data := #[] }, (0 : Int), [], []), ((0 : Int), { data := #[] }, { data := #[] }, (0 : Int), [], []), (13 : Int)))) (some (injRs [RT.d ty24, RT.d ty24, RT.d (Ty.int Go.IntKind.i64)] (a1, a0, (0 : Int)))))) (Option.bind (cR (nat_lit 105) [RT.d Ty.bool] [inj ty24 a0, inj ty24 a1]) fun r => ifs ((!r) = true) (some (injRs [RT.d ty24, RT.d ty24, RT.d (Ty.int Go.IntKind.i64)] (((0 : Int), { data := #[] }, { data := #[] }, (0 : Int), [], []), ((0 : Int), { data := #[] }, { data := #[] }, (0 : Int), [], []), (13 : Int)))) (some (injRs [RT.d ty24, RT.d ty24, RT.d (Ty.int Go.IntKind.i64)] (a1, a0, (0 : Int)))))) (Option.bind (cR (nat_lit 105) [RT.d Ty.bool] [inj ty24 a0, inj ty24 a1]) fun r => ifs ((!r) = true) (some (injRs [RT.d ty24, RT.d ty24, RT.d (Ty.int Go.IntKind.i64)] (((0 : Int), { data := #[] }, { data := #[] }, (0 : Int), [], []), ((0 : Int), { data := #[] }, { data := #[] }, (0 : Int), [], []), (13 : Int)))) (some (injRs [RT.d ty24, RT.d ty24, RT.d (Ty.int Go.IntKind.i64)] (a1, a0, (0 : Int)))))))) (ifs ((a0.fst == (5 : Int)) = true) (ifs ((a1.fst == (6 : Int)) = true) (ifs ((ByteArray.toList a1.snd.fst == ByteArray.toList a0.snd.snd.fst) = true) (some (injRs [RT.d ty24, RT.d ty24, RT.d (Ty.int Go.IntKind.i64)] ((a1.fst, a0.snd.fst, a1.snd.snd), a0, (0 : Int)))) (ifs ((a0.fst == (6 : Int)) = true) (ifs ((a1.fst == (5 : Int)) = true) (ifs ((ByteArray.toList a1.snd.fst == ByteArray.toList a0.snd.fst) = true) (some (injRs [RT.d ty24, RT.d ty24, RT.d (Ty.int Go.IntKind.i64)] (a1, (a0.fst, a1.snd.snd.fst, a0.snd.snd), (0 : Int)))) (Option.bind (cR (nat_lit 105) [RT.d Ty.bool] [inj ty24 a0, inj ty24 a1]) fun r => ifs ((!r) = true) (some (injRs [RT.d ty24, RT.d ty24, RT.d (Ty.int Go.IntKind.i64)] (((0 : Int), { data := #[] }, { data := #[] }, (0 : Int), [], []), ((0 : Int), { data := #[] }, { data := #[] }, (0 : Int), [], []), (13 : Int)))) (some (injRs [RT.d ty24, RT.d ty24, RT.d (Ty.int Go.IntKind.i64)] (a1, a0, (0 : Int)))))) (Option.bind (cR (nat_lit 105) [RT.d Ty.bool] [inj ty24 a0, inj ty24 a1]) fun r => ifs ((!r) = true) (some (injRs [RT.d ty24, RT.d ty24, RT.d (Ty.int Go.IntKind.i64)] (((0 : Int), { data := #[] }, { data := #[] }, (0 : Int), [], []), ((0 : Int), { data := #[] }, { data := #[] }, (0 : Int), [], []), (13 : Int)))) (some (injRs [RT.d ty24, RT.d ty24, RT.d (Ty.int Go.IntKind.i64)] (a1, a0, (0 : Int)))))) (Option.bind (cR (nat_lit 105) [RT.d Ty.bool] [inj ty24 a0, inj ty24 a1]) fun r => ifs ((!r) = true) (some (injRs [RT.d ty24, RT.d ty24, RT.d (Ty.int Go.IntKind.i64)] (((0 : Int), { data := #[] }, { data := #[] }, (0 : Int), [], []), ((0 : Int), { data := #[] }, { data := #[] }, (0 : Int), [], []), (13 : Int)))) (some (injRs [RT.d ty24, RT.d ty24, RT.d (Ty.int Go.IntKind.i64)] (a1, a0, (0 : Int))))))) (ifs ((a0.fst == (6 : Int)) = true) (ifs ((a1.fst == (5 : Int)) = true) (ifs ((ByteArray.toList a1.snd.fst == ByteArray.toList a0.snd.fst) = true) (some (injRs [RT.d ty24, RT.d ty24, RT.d (Ty.int Go.IntKind.i64)] (a1, (a0.fst, a1.snd.snd.fst, a0.snd.snd), (0 : Int)))) (Option.bind (cR (nat_lit 105) [RT.d Ty.bool] [inj ty24 a0, inj ty24 a1]) fun r => ifs ((!r) = true) (some (injRs [RT.d ty24, RT.d ty24, RT.d (Ty.int Go.IntKind.i64)] (((0 : Int), { data := #[] }, { data := #[] }, (0 : Int), [], []), ((0 : Int), { data := #[] }, { data := #[] }, (0 : Int), [], []), (13 : Int)))) (some (injRs [RT.d ty24, RT.d ty24, RT.d (Ty.int Go.IntKind.i64)] (a1, a0, (0 : Int)))))) (Option.bind (cR (nat_lit 105) [RT.d Ty.bool] [inj ty24 a0, inj ty24 a1]) fun r => ifs ((!r) = true) (some (injRs [RT.d ty24, RT.d ty24, RT.d (Ty.int Go.IntKind.i64)] (((0 : Int), { data := #[] }, { data := #[] }, (0 : Int), [], []), ((0 : Int), { data := #[] }, { data := #[] }, (0 : Int), [], []), (13 : Int)))) (some (injRs [RT.d ty24, RT.d ty24, RT.d (Ty.int Go.IntKind.i64)] (a1, a0, (0 : Int)))))) (Option.bind (cR (nat_lit 105) [RT.d Ty.bool] [inj ty24 a0, inj ty24 a1]) fun r => ifs ((!r) = true) (some (injRs [RT.d ty24, RT.d ty24, RT.d (Ty.int Go.IntKind.i64)] (((0 : Int), { data := #[] }, { data := #[] }, (0 : Int), [], []), ((0 : Int), { data := #[] }, { data := #[] }, (0 : Int), [], []), (13 : Int)))) (some (injRs [RT.d ty24, RT.d ty24, RT.d (Ty.int Go.IntKind.i64)] (a1, a0, (0 : Int))))))) (ifs ((a0.fst == (6 : Int)) = true) (ifs ((a1.fst == (5 : Int)) = true) (ifs ((ByteArray.toList a1.snd.fst == ByteArray.toList a0.snd.fst) = true) (some (injRs [RT.d ty24, RT.d ty24, RT.d (Ty.int Go.IntKind.i64)] (a1, (a0.fst, a1.snd.snd.fst, a0.snd.snd), (0 : Int)))) (Option.bind (cR (nat_lit 105) [RT.d Ty.bool] [inj ty24 a0, inj ty24 a1]) fun r => ifs ((!r) = true) (some (injRs [RT.d ty24, RT.d ty24, RT.d (Ty.int Go.IntKind.i64)] (((0 : Int), { data := #[] }, { data := #[] }, (0 : Int), [], []), ((0 : Int), { data := #[] }, { data := #[] }, (0 : Int), [], []), (13 : Int)))) (some (injRs [RT.d ty24, RT.d ty24, RT.d (Ty.int Go.IntKind.i64)] (a1, a0, (0 : Int)))))) (Option.bind (cR (nat_lit 105) [RT.d Ty.bool] [inj ty24 a0, inj ty24 a1]) fun r => ifs ((!r) = true) (some (injRs [RT.d ty24, RT.d ty24, RT.d (Ty.int Go.IntKind.i64)] (((0 : Int), { data := #[] }, { data := #[] }, (0 : Int), [], []), ((0 : Int), { data := #[] }, { data := #[] }, (0 : Int), [], []), (13 : Int)))) (some (injRs [RT.d ty24, RT.d ty24, RT.d (Ty.int Go.IntKind.i64)] (a1, a0, (0 : Int)))))) (Option.bind (cR (nat_lit 105) [RT.d Ty.bool] [inj ty24 a0, inj ty24 a1]) fun r => ifs ((!r) = true) (some (injRs [RT.d ty24, RT.d ty24, RT.d (Ty.int Go.IntKind.i64)] (((0 : Int), { data := #[] }, { data := #[] }, (0 : Int), [], []), ((0 : Int), { data := #[] }, { data := #[] }, (0 : Int), [], []), (13 : Int)))) (some (injRs [RT.d ty24, RT.d ty24, RT.d (Ty.int Go.IntKind.i64)] (a1, a0, (0 : Int))))))))) := by kernel_rfl
noncomputable def td50_3 : List Item := (findT (code Tryd.f50) [] 3).getD []
noncomputable def l50_3 (x0 : List (Int × ByteArray × ByteArray × Int × List ByteArray × List ByteArray)) (x1 : Int) (x2 : Int) (x3 : ByteArray) (x4 : ByteArray) (x5 : Int) (x6 : List ByteArray) (x7 : List ByteArray) (x8 : Int) (x9 : ByteArray) (x10 : ByteArray) (x11 : Int) (x12 : List (Int × ByteArray × ByteArray × Int × List ByteArray × List ByteArray)) : Option (List RV) := cutW W0 n50 td50_3 { fr := [((1 : Nat), F.a (A.c (C.sl ty24 x0))), ((2 : Nat), F.a (A.c (C.pt (Pt.own (0 : Nat) (0 : Nat) (0 : Nat))))), ((5 : Nat), F.a (A.c (C.pt (Pt.own (1 : Nat) (0 : Nat) (0 : Nat))))), ((7 : Nat), F.a (A.c (C.ow (2 : Nat) (List.length x12)))), ((8 : Nat), F.a (A.c (C.sc (Go.Value.int Go.IntKind.i64 x1))))], mem := [some (Row.box (24 : Nat) (some ty24) [C.sc (Go.Value.int Go.IntKind.i64 x2), C.sc (Go.Value.string x3), C.sc (Go.Value.string x4), C.sc (Go.Value.int Go.IntKind.i64 x5), C.sl Ty.str x6, C.sl Ty.str x7] false), some (Row.box (24 : Nat) (some ty24) [C.sc (Go.Value.int Go.IntKind.i64 x8), C.sc (Go.Value.string x9), C.sc (Go.Value.string x10), C.sc (Go.Value.int Go.IntKind.i64 x11), C.nl, C.nl] false), some (Row.arr (24 : Nat) ty24 x12 false)], nx := (3 : Nat) }
theorem e50 (a0 : Int × ByteArray × ByteArray × Int × List ByteArray × List ByteArray) (a1 : List (Int × ByteArray × ByteArray × Int × List ByteArray × List ByteArray)) : callG W0 (callW W0) (cutW W0) 50 [inj ty24 a0, inj (Ty.sl ty24) a1] = l50_3 a1 (0 : Int) a0.fst a0.snd.fst a0.snd.snd.fst a0.snd.snd.snd.fst a0.snd.snd.snd.snd.fst a0.snd.snd.snd.snd.snd (0 : Int) { data := #[] } { data := #[] } (0 : Int) [] := by kernel_rfl
theorem q50_3 (x0 : List (Int × ByteArray × ByteArray × Int × List ByteArray × List ByteArray)) (x1 : Int) (x2 : Int) (x3 : ByteArray) (x4 : ByteArray) (x5 : Int) (x6 : List ByteArray) (x7 : List ByteArray) (x8 : Int) (x9 : ByteArray) (x10 : ByteArray) (x11 : Int) (x12 : List (Int × ByteArray × ByteArray × Int × List ByteArray × List ByteArray)) : cutG W0 (callW W0) (cutW W0) n50 td50_3 { fr := [((1 : Nat), F.a (A.c (C.sl ty24 x0))), ((2 : Nat), F.a (A.c (C.pt (Pt.own (0 : Nat) (0 : Nat) (0 : Nat))))), ((5 : Nat), F.a (A.c (C.pt (Pt.own (1 : Nat) (0 : Nat) (0 : Nat))))), ((7 : Nat), F.a (A.c (C.ow (2 : Nat) (List.length x12)))), ((8 : Nat), F.a (A.c (C.sc (Go.Value.int Go.IntKind.i64 x1))))], mem := [some (Row.box (24 : Nat) (some ty24) [C.sc (Go.Value.int Go.IntKind.i64 x2), C.sc (Go.Value.string x3), C.sc (Go.Value.string x4), C.sc (Go.Value.int Go.IntKind.i64 x5), C.sl Ty.str x6, C.sl Ty.str x7] false), some (Row.box (24 : Nat) (some ty24) [C.sc (Go.Value.int Go.IntKind.i64 x8), C.sc (Go.Value.string x9), C.sc (Go.Value.string x10), C.sc (Go.Value.int Go.IntKind.i64 x11), C.nl, C.nl] false), some (Row.arr (24 : Nat) ty24 x12 false)], nx := (3 : Nat) } = ifs (decide (x1 < (↑(List.length x0) : Int)) = true) (ifs ((0 : Int) ≤ x1) (Option.bind x0[Int.toNat x1]? fun r => Option.bind (cR (nat_lit 57) [RT.d ty24, RT.d ty24, RT.d (Ty.int Go.IntKind.i64)] [inj ty24 (x2, x3, x4, x5, x6, x7), inj ty24 r]) fun r => ifs ((r.snd.snd != (0 : Int)) = true) (some (injRs [RT.own (24 : Go.TypeId) ty24, RT.d ty24, RT.d (Ty.int Go.IntKind.i64)] ([], ((0 : Int), { data := #[] }, { data := #[] }, (0 : Int), [], []), r.snd.snd))) (ifs ((List.length x12 + (1 : Nat)) * nat_lit 96 ≤ (140737488355328 : Nat)) (l50_3 x0 (Go.IntKind.wrap Go.IntKind.i64 (x1 + (1 : Int))) r.snd.fst.fst r.snd.fst.snd.fst r.snd.fst.snd.snd.fst r.snd.fst.snd.snd.snd.fst r.snd.fst.snd.snd.snd.snd.fst r.snd.fst.snd.snd.snd.snd.snd x8 x9 x10 x11 (List.take (List.length x12) x12 ++ [r.fst])) none)) none) (some (injRs [RT.own (24 : Go.TypeId) ty24, RT.d ty24, RT.d (Ty.int Go.IntKind.i64)] (List.take (List.length x12) x12, (x2, x3, x4, x5, x6, x7), (0 : Int)))) := by kernel_rfl
noncomputable def td46_3 : List Item := (findT (code Tryd.f46) [] 3).getD []
noncomputable def l46_3 (x0 : List (Int × ByteArray × ByteArray × Int × List ByteArray × List ByteArray)) (x1 : List (Int × ByteArray × ByteArray × Int × List ByteArray × List ByteArray)) (x2 : Int) (x3 : List (Int × ByteArray × ByteArray × Int × List ByteArray × List ByteArray)) : Option (List RV) := cutW W0 n46 td46_3 { fr := [((0 : Nat), F.a (A.c (C.sl ty24 x0))), ((1 : Nat), F.a (A.c (C.sl ty24 x1))), ((7 : Nat), F.a (A.c (C.ow (0 : Nat) (List.length x3)))), ((8 : Nat), F.a (A.c (C.sc (Go.Value.int Go.IntKind.i64 x2))))], mem := [some (Row.arr (24 : Nat) ty24 x3 false)], nx := (1 : Nat) }
noncomputable def l46_3v1 (x0 : List (Int × ByteArray × ByteArray × Int × List ByteArray × List ByteArray)) (x1 : Int) (x2 : List (Int × ByteArray × ByteArray × Int × List ByteArray × List ByteArray)) (x3 : List (Int × ByteArray × ByteArray × Int × List ByteArray × List ByteArray)) : Option (List RV) := cutW W0 n46 td46_3 { fr := [((0 : Nat), F.a (A.c (C.sl ty24 x0))), ((1 : Nat), F.a (A.c (C.ow (0 : Nat) (List.length x2)))), ((7 : Nat), F.a (A.c (C.ow (1 : Nat) (List.length x3)))), ((8 : Nat), F.a (A.c (C.sc (Go.Value.int Go.IntKind.i64 x1))))], mem := [some (Row.arr (24 : Nat) ty24 x2 false), some (Row.arr (24 : Nat) ty24 x3 false)], nx := (2 : Nat) }
theorem e46 (a0 : List (Int × ByteArray × ByteArray × Int × List ByteArray × List ByteArray)) (a1 : List (Int × ByteArray × ByteArray × Int × List ByteArray × List ByteArray)) : callG W0 (callW W0) (cutW W0) 46 [inj (Ty.sl ty24) a0, inj (Ty.sl ty24) a1] = l46_3 a0 a1 (Go.IntKind.wrap Go.IntKind.i64 ((↑(List.length a0) : Int) - (1 : Int))) [] := by kernel_rfl
theorem q46_3 (x0 : List (Int × ByteArray × ByteArray × Int × List ByteArray × List ByteArray)) (x1 : List (Int × ByteArray × ByteArray × Int × List ByteArray × List ByteArray)) (x2 : Int) (x3 : List (Int × ByteArray × ByteArray × Int × List ByteArray × List ByteArray)) : cutG W0 (callW W0) (cutW W0) n46 td46_3 { fr := [((0 : Nat), F.a (A.c (C.sl ty24 x0))), ((1 : Nat), F.a (A.c (C.sl ty24 x1))), ((7 : Nat), F.a (A.c (C.ow (0 : Nat) (List.length x3)))), ((8 : Nat), F.a (A.c (C.sc (Go.Value.int Go.IntKind.i64 x2))))], mem := [some (Row.arr (24 : Nat) ty24 x3 false)], nx := (1 : Nat) } = ifs (decide (x2 ≥ (0 : Int)) = true) (ifs ((0 : Int) ≤ x2) (Option.bind x0[Int.toNat x2]? fun r => Option.bind (cR (nat_lit 50) [RT.own (24 : Go.TypeId) ty24, RT.d ty24, RT.d (Ty.int Go.IntKind.i64)] [inj ty24 r, inj (Ty.sl ty24) x1]) fun r => ifs ((r.snd.snd != (0 : Int)) = true) (some (injRs [RT.d (Ty.sl ty24), RT.own (24 : Go.TypeId) ty24, RT.d (Ty.int Go.IntKind.i64)] ([], [], r.snd.snd))) (ifs (((1 : Nat) + List.length (List.take (List.length x3) x3)) * nat_lit 96 ≤ (140737488355328 : Nat)) (l46_3v1 x0 (Go.IntKind.wrap Go.IntKind.i64 (x2 - (1 : Int))) r.fst ([r.snd.fst] ++ List.take (List.length x3) x3)) none)) none) (some (injRs [RT.d (Ty.sl ty24), RT.own (24 : Go.TypeId) ty24, RT.d (Ty.int Go.IntKind.i64)] (x1, List.take (List.length x3) x3, (0 : Int)))) := by kernel_rfl
theorem q46_3v1 (x0 : List (Int × ByteArray × ByteArray × Int × List ByteArray × List ByteArray)) (x1 : Int) (x2 : List (Int × ByteArray × ByteArray × Int × List ByteArray × List ByteArray)) (x3 : List (Int × ByteArray × ByteArray × Int × List ByteArray × List ByteArray)) : cutG W0 (callW W0) (cutW W0) n46 td46_3 { fr := [((0 : Nat), F.a (A.c (C.sl ty24 x0))), ((1 : Nat), F.a (A.c (C.ow (0 : Nat) (List.length x2)))), ((7 : Nat), F.a (A.c (C.ow (1 : Nat) (List.length x3)))), ((8 : Nat), F.a (A.c (C.sc (Go.Value.int Go.IntKind.i64 x1))))], mem := [some (Row.arr (24 : Nat) ty24 x2 false), some (Row.arr (24 : Nat) ty24 x3 false)], nx := (2 : Nat) } = ifs (decide (x1 ≥ (0 : Int)) = true) (ifs ((0 : Int) ≤ x1) (Option.bind x0[Int.toNat x1]? fun r => Option.bind (cR (nat_lit 50) [RT.own (24 : Go.TypeId) ty24, RT.d ty24, RT.d (Ty.int Go.IntKind.i64)] [inj ty24 r, inj (Ty.sl ty24) (List.take (List.length x2) x2)]) fun r => ifs ((r.snd.snd != (0 : Int)) = true) (some (injRs [RT.d (Ty.sl ty24), RT.own (24 : Go.TypeId) ty24, RT.d (Ty.int Go.IntKind.i64)] ([], [], r.snd.snd))) (ifs (((1 : Nat) + List.length (List.take (List.length x3) x3)) * nat_lit 96 ≤ (140737488355328 : Nat)) (l46_3v1 x0 (Go.IntKind.wrap Go.IntKind.i64 (x1 - (1 : Int))) r.fst ([r.snd.fst] ++ List.take (List.length x3) x3)) none)) none) (some (injRs [RT.d (Ty.sl ty24), RT.own (24 : Go.TypeId) ty24, RT.d (Ty.int Go.IntKind.i64)] (List.take (List.length x2) x2, List.take (List.length x3) x3, (0 : Int)))) := by kernel_rfl
noncomputable def td48_6 : List Item := (findT (code Tryd.f48) [] 6).getD []
noncomputable def l48_6 (x0 : List (Int × ByteArray × ByteArray × Int × List ByteArray × List ByteArray)) (x1 : Int) (x2 : Int) (x3 : Int) (x4 : ByteArray) (x5 : ByteArray) (x6 : Int) (x7 : List ByteArray) (x8 : List ByteArray) (x9 : List (Int × ByteArray × ByteArray × Int × List ByteArray × List ByteArray)) : Option (List RV) := cutW W0 n48 td48_6 { fr := [((0 : Nat), F.a (A.c (C.sl ty24 x0))), ((1 : Nat), F.a (A.c (C.sc (Go.Value.int Go.IntKind.i64 x1)))), ((6 : Nat), F.a (A.c (C.pt (Pt.own (0 : Nat) (0 : Nat) (0 : Nat))))), ((7 : Nat), F.a (A.c (C.ow (1 : Nat) (List.length x9)))), ((8 : Nat), F.a (A.c (C.sc (Go.Value.int Go.IntKind.i64 x2))))], mem := [some (Row.box (24 : Nat) (some ty24) [C.sc (Go.Value.int Go.IntKind.i64 x3), C.sc (Go.Value.string x4), C.sc (Go.Value.string x5), C.sc (Go.Value.int Go.IntKind.i64 x6), C.sl Ty.str x7, C.sl Ty.str x8] false), some (Row.arr (24 : Nat) ty24 x9 false)], nx := (2 : Nat) }
theorem e48 (a0 : List (Int × ByteArray × ByteArray × Int × List ByteArray × List ByteArray)) (a1 : Int) : callG W0 (callW W0) (cutW W0) 48 [inj (Ty.sl ty24) a0, inj (Ty.int Go.IntKind.i64) a1] = ifs (decide (a1 < (0 : Int)) = false) (ifs (decide (a1 ≥ (↑(List.length a0) : Int)) = true) (some (injRs [RT.own (24 : Go.TypeId) ty24, RT.d (Ty.int Go.IntKind.i64)] ([], (3 : Int)))) (ifs ((0 : Int) ≤ a1) (Option.bind a0[Int.toNat a1]? fun r => l48_6 a0 a1 (Go.IntKind.wrap Go.IntKind.i64 (a1 - (1 : Int))) r.fst r.snd.fst r.snd.snd.fst r.snd.snd.snd.fst r.snd.snd.snd.snd.fst r.snd.snd.snd.snd.snd []) none)) (some (injRs [RT.own (24 : Go.TypeId) ty24, RT.d (Ty.int Go.IntKind.i64)] ([], (3 : Int)))) := by kernel_rfl
theorem q48_6 (x0 : List (Int × ByteArray × ByteArray × Int × List ByteArray × List ByteArray)) (x1 : Int) (x2 : Int) (x3 : Int) (x4 : ByteArray) (x5 : ByteArray) (x6 : Int) (x7 : List ByteArray) (x8 : List ByteArray) (x9 : List (Int × ByteArray × ByteArray × Int × List ByteArray × List ByteArray)) : cutG W0 (callW W0) (cutW W0) n48 td48_6 { fr := [((0 : Nat), F.a (A.c (C.sl ty24 x0))), ((1 : Nat), F.a (A.c (C.sc (Go.Value.int Go.IntKind.i64 x1)))), ((6 : Nat), F.a (A.c (C.pt (Pt.own (0 : Nat) (0 : Nat) (0 : Nat))))), ((7 : Nat), F.a (A.c (C.ow (1 : Nat) (List.length x9)))), ((8 : Nat), F.a (A.c (C.sc (Go.Value.int Go.IntKind.i64 x2))))], mem := [some (Row.box (24 : Nat) (some ty24) [C.sc (Go.Value.int Go.IntKind.i64 x3), C.sc (Go.Value.string x4), C.sc (Go.Value.string x5), C.sc (Go.Value.int Go.IntKind.i64 x6), C.sl Ty.str x7, C.sl Ty.str x8] false), some (Row.arr (24 : Nat) ty24 x9 false)], nx := (2 : Nat) } = ifs (decide (x2 ≥ (0 : Int)) = true) (ifs ((0 : Int) ≤ x2) (Option.bind x0[Int.toNat x2]? fun r => Option.bind (cR (nat_lit 57) [RT.d ty24, RT.d ty24, RT.d (Ty.int Go.IntKind.i64)] [inj ty24 r, inj ty24 (x3, x4, x5, x6, x7, x8)]) fun r => ifs ((r.snd.snd != (0 : Int)) = true) (some (injRs [RT.own (24 : Go.TypeId) ty24, RT.d (Ty.int Go.IntKind.i64)] ([], r.snd.snd))) (ifs (((1 : Nat) + List.length (List.take (List.length x9) x9)) * nat_lit 96 ≤ (140737488355328 : Nat)) (l48_6 x0 x1 (Go.IntKind.wrap Go.IntKind.i64 (x2 - (1 : Int))) r.fst.fst r.fst.snd.fst r.fst.snd.snd.fst r.fst.snd.snd.snd.fst r.fst.snd.snd.snd.snd.fst r.fst.snd.snd.snd.snd.snd ([r.snd.fst] ++ List.take (List.length x9) x9)) none)) none) (ifs (((1 : Nat) + List.length (List.take (List.length x9) x9)) * nat_lit 96 ≤ (140737488355328 : Nat)) (ifs ((0 : Int) ≤ (↑(List.length x0) : Int) ∧ (↑(List.length x0) : Int) ≤ (↑(List.length x0) : Int)) (ifs ((0 : Int) ≤ Go.IntKind.wrap Go.IntKind.i64 (x1 + (1 : Int)) ∧ Go.IntKind.wrap Go.IntKind.i64 (x1 + (1 : Int)) ≤ (↑(List.length x0) : Int)) (ifs ((List.length ([(x3, x4, x5, x6, x7, x8)] ++ List.take (List.length x9) x9) + List.length (List.drop (Int.toNat (Go.IntKind.wrap Go.IntKind.i64 (x1 + (1 : Int)))) (List.take (Int.toNat (↑(List.length x0) : Int)) x0))) * nat_lit 96 ≤ (140737488355328 : Nat)) (some (injRs [RT.own (24 : Go.TypeId) ty24, RT.d (Ty.int Go.IntKind.i64)] (List.take (List.length (List.take (List.length ([(x3, x4, x5, x6, x7, x8)] ++ List.take (List.length x9) x9)) ([(x3, x4, x5, x6, x7, x8)] ++ List.take (List.length x9) x9) ++ List.drop (Int.toNat (Go.IntKind.wrap Go.IntKind.i64 (x1 + (1 : Int)))) (List.take (Int.toNat (↑(List.length x0) : Int)) x0))) (List.take (List.length ([(x3, x4, x5, x6, x7, x8)] ++ List.take (List.length x9) x9)) ([(x3, x4, x5, x6, x7, x8)] ++ List.take (List.length x9) x9) ++ List.drop (Int.toNat (Go.IntKind.wrap Go.IntKind.i64 (x1 + (1 : Int)))) (List.take (Int.toNat (↑(List.length x0) : Int)) x0)), (0 : Int)))) none) none) none) none) := by kernel_rfl
noncomputable def td52_6 : List Item := (findT (code Tryd.f52) [] 6).getD []
noncomputable def l52_6 (x0 : List (Int × ByteArray × ByteArray × Int × List ByteArray × List ByteArray)) (x1 : Int) (x2 : List (Int × ByteArray × ByteArray × Int × List ByteArray × List ByteArray)) (x3 : List Int) : Option (List RV) := cutW W0 n52 td52_6 { fr := [((0 : Nat), F.a (A.c (C.sl ty24 x0))), ((5 : Nat), F.a (A.c (C.ow (1 : Nat) (List.length x3)))), ((6 : Nat), F.a (A.c (C.ow (0 : Nat) (List.length x2)))), ((7 : Nat), F.a (A.c (C.sc (Go.Value.int Go.IntKind.i64 x1))))], mem := [some (Row.arr (24 : Nat) ty24 x2 false), some (Row.arr (3 : Nat) (Ty.int Go.IntKind.i64) x3 false)], nx := (2 : Nat) }
noncomputable def l52_6v1 (x0 : List (Int × ByteArray × ByteArray × Int × List ByteArray × List ByteArray)) (x1 : Int) (x2 : List Int) (x3 : List (Int × ByteArray × ByteArray × Int × List ByteArray × List ByteArray)) : Option (List RV) := cutW W0 n52 td52_6 { fr := [((0 : Nat), F.a (A.c (C.sl ty24 x0))), ((5 : Nat), F.a (A.c (C.ow (0 : Nat) (List.length x2)))), ((6 : Nat), F.a (A.c (C.ow (1 : Nat) (List.length x3)))), ((7 : Nat), F.a (A.c (C.sc (Go.Value.int Go.IntKind.i64 x1))))], mem := [some (Row.arr (3 : Nat) (Ty.int Go.IntKind.i64) x2 false), some (Row.arr (24 : Nat) ty24 x3 false)], nx := (2 : Nat) }
theorem e52 (a0 : List (Int × ByteArray × ByteArray × Int × List ByteArray × List ByteArray)) (a1 : Int) : callG W0 (callW W0) (cutW W0) 52 [inj (Ty.sl ty24) a0, inj (Ty.int Go.IntKind.i64) a1] = ifs (decide (a1 < (0 : Int)) = false) (ifs (decide (a1 ≥ (↑(List.length a0) : Int)) = true) (some (injRs [RT.own (3 : Go.TypeId) (Ty.int Go.IntKind.i64)] [])) (ifs ((0 : Int) ≤ a1) (Option.bind a0[Int.toNat a1]? fun r => l52_6 a0 (Go.IntKind.wrap Go.IntKind.i64 (a1 - (1 : Int))) [r] []) none)) (some (injRs [RT.own (3 : Go.TypeId) (Ty.int Go.IntKind.i64)] [])) := by kernel_rfl
theorem q52_6 (x0 : List (Int × ByteArray × ByteArray × Int × List ByteArray × List ByteArray)) (x1 : Int) (x2 : List (Int × ByteArray × ByteArray × Int × List ByteArray × List ByteArray)) (x3 : List Int) : cutG W0 (callW W0) (cutW W0) n52 td52_6 { fr := [((0 : Nat), F.a (A.c (C.sl ty24 x0))), ((5 : Nat), F.a (A.c (C.ow (1 : Nat) (List.length x3)))), ((6 : Nat), F.a (A.c (C.ow (0 : Nat) (List.length x2)))), ((7 : Nat), F.a (A.c (C.sc (Go.Value.int Go.IntKind.i64 x1))))], mem := [some (Row.arr (24 : Nat) ty24 x2 false), some (Row.arr (3 : Nat) (Ty.int Go.IntKind.i64) x3 false)], nx := (2 : Nat) } = ifs (decide (x1 ≥ (0 : Int)) = true) (ifs ((0 : Int) ≤ x1) (Option.bind x0[Int.toNat x1]? fun r => Option.bind (cR (nat_lit 50) [RT.own (24 : Go.TypeId) ty24, RT.d ty24, RT.d (Ty.int Go.IntKind.i64)] [inj ty24 r, inj (Ty.sl ty24) (List.take (List.length x2) x2)]) fun r => ifs ((r.snd.snd == (0 : Int)) = true) (l52_6v1 x0 (Go.IntKind.wrap Go.IntKind.i64 (x1 - (1 : Int))) x3 r.fst) (ifs ((0 : Int) ≤ x1) (Option.bind x0[Int.toNat x1]? fun r => ifs (((1 : Nat) + List.length (List.take (List.length x2) x2)) * nat_lit 96 ≤ (140737488355328 : Nat)) (ifs (((1 : Nat) + List.length (List.take (List.length x3) x3)) * nat_lit 8 ≤ (140737488355328 : Nat)) (l52_6v1 x0 (Go.IntKind.wrap Go.IntKind.i64 (x1 - (1 : Int))) ([x1] ++ List.take (List.length x3) x3) ([r] ++ List.take (List.length x2) x2)) none) none) none)) none) (some (injRs [RT.own (3 : Go.TypeId) (Ty.int Go.IntKind.i64)] (List.take (List.length x3) x3))) := by kernel_rfl
theorem q52_6v1 (x0 : List (Int × ByteArray × ByteArray × Int × List ByteArray × List ByteArray)) (x1 : Int) (x2 : List Int) (x3 : List (Int × ByteArray × ByteArray × Int × List ByteArray × List ByteArray)) : cutG W0 (callW W0) (cutW W0) n52 td52_6 { fr := [((0 : Nat), F.a (A.c (C.sl ty24 x0))), ((5 : Nat), F.a (A.c (C.ow (0 : Nat) (List.length x2)))), ((6 : Nat), F.a (A.c (C.ow (1 : Nat) (List.length x3)))), ((7 : Nat), F.a (A.c (C.sc (Go.Value.int Go.IntKind.i64 x1))))], mem := [some (Row.arr (3 : Nat) (Ty.int Go.IntKind.i64) x2 false), some (Row.arr (24 : Nat) ty24 x3 false)], nx := (2 : Nat) } = ifs (decide (x1 ≥ (0 : Int)) = true) (ifs ((0 : Int) ≤ x1) (Option.bind x0[Int.toNat x1]? fun r => Option.bind (cR (nat_lit 50) [RT.own (24 : Go.TypeId) ty24, RT.d ty24, RT.d (Ty.int Go.IntKind.i64)] [inj ty24 r, inj (Ty.sl ty24) (List.take (List.length x3) x3)]) fun r => ifs ((r.snd.snd == (0 : Int)) = true) (l52_6v1 x0 (Go.IntKind.wrap Go.IntKind.i64 (x1 - (1 : Int))) x2 r.fst) (ifs ((0 : Int) ≤ x1) (Option.bind x0[Int.toNat x1]? fun r => ifs (((1 : Nat) + List.length (List.take (List.length x3) x3)) * nat_lit 96 ≤ (140737488355328 : Nat)) (ifs (((1 : Nat) + List.length (List.take (List.length x2) x2)) * nat_lit 8 ≤ (140737488355328 : Nat)) (l52_6v1 x0 (Go.IntKind.wrap Go.IntKind.i64 (x1 - (1 : Int))) ([x1] ++ List.take (List.length x2) x2) ([r] ++ List.take (List.length x3) x3)) none) none) none)) none) (some (injRs [RT.own (3 : Go.TypeId) (Ty.int Go.IntKind.i64)] (List.take (List.length x2) x2))) := by kernel_rfl
noncomputable def td56_3 : List Item := (findT (code Tryd.f56) [] 3).getD []
noncomputable def l56_3 (x0 : List ByteArray) (x1 : Int) (x2 : List ByteArray) : Option (List RV) := cutW W0 n56 td56_3 { fr := [((0 : Nat), F.a (A.c (C.sl Ty.str x0))), ((3 : Nat), F.a (A.c (C.ow (0 : Nat) (List.length x2)))), ((4 : Nat), F.a (A.c (C.sc (Go.Value.int Go.IntKind.i64 x1))))], mem := [some (Row.arr (9 : Nat) Ty.str x2 false)], nx := (1 : Nat) }
noncomputable def td56_6 : List Item := (findT (code Tryd.f56) [] 6).getD []
noncomputable def l56_6 (x0 : List ByteArray) (x1 : Int) (x2 : Int) (x3 : List ByteArray) : Option (List RV) := cutW W0 n56 td56_6 { fr := [((0 : Nat), F.a (A.c (C.sl Ty.str x0))), ((3 : Nat), F.a (A.c (C.ow (0 : Nat) (List.length x3)))), ((4 : Nat), F.a (A.c (C.sc (Go.Value.int Go.IntKind.i64 x1)))), ((5 : Nat), F.a (A.c (C.sc (Go.Value.int Go.IntKind.i64 x2))))], mem := [some (Row.arr (9 : Nat) Ty.str x3 false)], nx := (1 : Nat) }
theorem e56 (a0 : List ByteArray) : callG W0 (callW W0) (cutW W0) 56 [inj (Ty.sl Ty.str) a0] = l56_3 a0 (0 : Int) [] := by kernel_rfl
theorem q56_3 (x0 : List ByteArray) (x1 : Int) (x2 : List ByteArray) : cutG W0 (callW W0) (cutW W0) n56 td56_3 { fr := [((0 : Nat), F.a (A.c (C.sl Ty.str x0))), ((3 : Nat), F.a (A.c (C.ow (0 : Nat) (List.length x2)))), ((4 : Nat), F.a (A.c (C.sc (Go.Value.int Go.IntKind.i64 x1))))], mem := [some (Row.arr (9 : Nat) Ty.str x2 false)], nx := (1 : Nat) } = ifs (decide (x1 < (↑(List.length x0) : Int)) = true) (l56_6 x0 x1 (0 : Int) x2) (some (injRs [RT.own (9 : Go.TypeId) Ty.str] (List.take (List.length x2) x2))) := by kernel_rfl
theorem q56_6 (x0 : List ByteArray) (x1 : Int) (x2 : Int) (x3 : List ByteArray) : cutG W0 (callW W0) (cutW W0) n56 td56_6 { fr := [((0 : Nat), F.a (A.c (C.sl Ty.str x0))), ((3 : Nat), F.a (A.c (C.ow (0 : Nat) (List.length x3)))), ((4 : Nat), F.a (A.c (C.sc (Go.Value.int Go.IntKind.i64 x1)))), ((5 : Nat), F.a (A.c (C.sc (Go.Value.int Go.IntKind.i64 x2))))], mem := [some (Row.arr (9 : Nat) Ty.str x3 false)], nx := (1 : Nat) } = ifs (decide (x2 < (↑(List.length x3) : Int)) = true) (ifs ((0 : Int) ≤ x2 ∧ x2 < (↑(List.length x3) : Int)) (Option.bind x3[Int.toNat x2]? fun r => ifs ((0 : Int) ≤ x1) (Option.bind x0[Int.toNat x1]? fun r_1 => ifs (Go.Op.bytesLess (ByteArray.toList r) (ByteArray.toList r_1) = true) (l56_6 x0 x1 (Go.IntKind.wrap Go.IntKind.i64 (x2 + (1 : Int))) x3) (ifs (decide (x2 < (↑(List.length x3) : Int)) = true) (ifs ((0 : Int) ≤ x2 ∧ x2 < (↑(List.length x3) : Int)) (Option.bind x3[Int.toNat x2]? fun r => ifs ((0 : Int) ≤ x1) (Option.bind x0[Int.toNat x1]? fun r_2 => ifs ((ByteArray.toList r == ByteArray.toList r_2) = true) (l56_3 x0 (Go.IntKind.wrap Go.IntKind.i64 (x1 + (1 : Int))) x3) (ifs ((0 : Int) ≤ x2 ∧ x2 ≤ (↑(List.length x3) : Int)) (ifs (((0 : Nat) + List.length (List.take (Int.toNat x2) x3)) * nat_lit 16 ≤ (140737488355328 : Nat)) (ifs ((0 : Int) ≤ x1) (Option.bind x0[Int.toNat x1]? fun r => ifs ((List.length ([] ++ List.take (Int.toNat x2) x3) + (1 : Nat)) * nat_lit 16 ≤ (140737488355328 : Nat)) (ifs ((0 : Int) ≤ (↑(List.length x3) : Int) ∧ (↑(List.length x3) : Int) ≤ (↑(List.length x3) : Int)) (ifs ((0 : Int) ≤ x2 ∧ x2 ≤ (↑(List.length x3) : Int)) (ifs ((List.length (List.take (List.length ([] ++ List.take (Int.toNat x2) x3)) ([] ++ List.take (Int.toNat x2) x3) ++ [r]) + List.length (List.drop (Int.toNat x2) (List.take (Int.toNat (↑(List.length x3) : Int)) x3))) * nat_lit 16 ≤ (140737488355328 : Nat)) (l56_3 x0 (Go.IntKind.wrap Go.IntKind.i64 (x1 + (1 : Int))) (List.take (List.length (List.take (List.length ([] ++ List.take (Int.toNat x2) x3)) ([] ++ List.take (Int.toNat x2) x3) ++ [r])) (List.take (List.length ([] ++ List.take (Int.toNat x2) x3)) ([] ++ List.take (Int.toNat x2) x3) ++ [r]) ++ List.drop (Int.toNat x2) (List.take (Int.toNat (↑(List.length x3) : Int)) x3))) none) none) none) none) none) none) none)) none) none) (ifs ((0 : Int) ≤ x2 ∧ x2 ≤ (↑(List.length x3) : Int)) (ifs (((0 : Nat) + List.length (List.take (Int.toNat x2) x3)) * nat_lit 16 ≤ (140737488355328 : Nat)) (ifs ((0 : Int) ≤ x1) (Option.bind x0[Int.toNat x1]? fun r => ifs ((List.length ([] ++ List.take (Int.toNat x2) x3) + (1 : Nat)) * nat_lit 16 ≤ (140737488355328 : Nat)) (ifs ((0 : Int) ≤ (↑(List.length x3) : Int) ∧ (↑(List.length x3) : Int) ≤ (↑(List.length x3) : Int)) (ifs ((0 : Int) ≤ x2 ∧ x2 ≤ (↑(List.length x3) : Int)) (ifs ((List.length (List.take (List.length ([] ++ List.take (Int.toNat x2) x3)) ([] ++ List.take (Int.toNat x2) x3) ++ [r]) + List.length (List.drop (Int.toNat x2) (List.take (Int.toNat (↑(List.length x3) : Int)) x3))) * nat_lit 16 ≤ (140737488355328 : Nat)) (l56_3 x0 (Go.IntKind.wrap Go.IntKind.i64 (x1 + (1 : Int))) (List.take (List.length (List.take (List.length ([] ++ List.take (Int.toNat x2) x3)) ([] ++ List.take (Int.toNat x2) x3) ++ [r])) (List.take (List.length ([] ++ List.take (Int.toNat x2) x3)) ([] ++ List.take (Int.toNat x2) x3) ++ [r]) ++ List.drop (Int.toNat x2) (List.take (Int.toNat (↑(List.length x3) : Int)) x3))) none) none) none) none) none) none) none))) none) none) (ifs (decide (x2 < (↑(List.length x3) : Int)) = true) (ifs ((0 : Int) ≤ x2 ∧ x2 < (↑(List.length x3) : Int)) (Option.bind x3[Int.toNat x2]? fun r => ifs ((0 : Int) ≤ x1) (Option.bind x0[Int.toNat x1]? fun r_1 => ifs ((ByteArray.toList r == ByteArray.toList r_1) = true) (l56_3 x0 (Go.IntKind.wrap Go.IntKind.i64 (x1 + (1 : Int))) x3) (ifs ((0 : Int) ≤ x2 ∧ x2 ≤ (↑(List.length x3) : Int)) (ifs (((0 : Nat) + List.length (List.take (Int.toNat x2) x3)) * nat_lit 16 ≤ (140737488355328 : Nat)) (ifs ((0 : Int) ≤ x1) (Option.bind x0[Int.toNat x1]? fun r => ifs ((List.length ([] ++ List.take (Int.toNat x2) x3) + (1 : Nat)) * nat_lit 16 ≤ (140737488355328 : Nat)) (ifs ((0 : Int) ≤ (↑(List.length x3) : Int) ∧ (↑(List.length x3) : Int) ≤ (↑(List.length x3) : Int)) (ifs ((0 : Int) ≤ x2 ∧ x2 ≤ (↑(List.length x3) : Int)) (ifs ((List.length (List.take (List.length ([] ++ List.take (Int.toNat x2) x3)) ([] ++ List.take (Int.toNat x2) x3) ++ [r]) + List.length (List.drop (Int.toNat x2) (List.take (Int.toNat (↑(List.length x3) : Int)) x3))) * nat_lit 16 ≤ (140737488355328 : Nat)) (l56_3 x0 (Go.IntKind.wrap Go.IntKind.i64 (x1 + (1 : Int))) (List.take (List.length (List.take (List.length ([] ++ List.take (Int.toNat x2) x3)) ([] ++ List.take (Int.toNat x2) x3) ++ [r])) (List.take (List.length ([] ++ List.take (Int.toNat x2) x3)) ([] ++ List.take (Int.toNat x2) x3) ++ [r]) ++ List.drop (Int.toNat x2) (List.take (Int.toNat (↑(List.length x3) : Int)) x3))) none) none) none) none) none) none) none)) none) none) (ifs ((0 : Int) ≤ x2 ∧ x2 ≤ (↑(List.length x3) : Int)) (ifs (((0 : Nat) + List.length (List.take (Int.toNat x2) x3)) * nat_lit 16 ≤ (140737488355328 : Nat)) (ifs ((0 : Int) ≤ x1) (Option.bind x0[Int.toNat x1]? fun r => ifs ((List.length ([] ++ List.take (Int.toNat x2) x3) + (1 : Nat)) * nat_lit 16 ≤ (140737488355328 : Nat)) (ifs ((0 : Int) ≤ (↑(List.length x3) : Int) ∧ (↑(List.length x3) : Int) ≤ (↑(List.length x3) : Int)) (ifs ((0 : Int) ≤ x2 ∧ x2 ≤ (↑(List.length x3) : Int)) (ifs ((List.length (List.take (List.length ([] ++ List.take (Int.toNat x2) x3)) ([] ++ List.take (Int.toNat x2) x3) ++ [r]) + List.length (List.drop (Int.toNat x2) (List.take (Int.toNat (↑(List.length x3) : Int)) x3))) * nat_lit 16 ≤ (140737488355328 : Nat)) (l56_3 x0 (Go.IntKind.wrap Go.IntKind.i64 (x1 + (1 : Int))) (List.take (List.length (List.take (List.length ([] ++ List.take (Int.toNat x2) x3)) ([] ++ List.take (Int.toNat x2) x3) ++ [r])) (List.take (List.length ([] ++ List.take (Int.toNat x2) x3)) ([] ++ List.take (Int.toNat x2) x3) ++ [r]) ++ List.drop (Int.toNat x2) (List.take (Int.toNat (↑(List.length x3) : Int)) x3))) none) none) none) none) none) none) none)) := by kernel_rfl
theorem e44 : callG W0 (callW W0) (cutW W0) 44 [] = Option.bind (cR (nat_lit 51) [RT.d (Ty.sl (Ty.int Go.IntKind.i64))] [inj (Ty.sl ty24) [((3 : Int), { data := #[(97 : UInt8)] }, { data := #[] }, (0 : Int), [], []), ((1 : Int), { data := #[(100 : UInt8)] }, { data := #[] }, (0 : Int), [], []), ((6 : Int), { data := #[(97 : UInt8)] }, { data := #[] }, (0 : Int), [], [{ data := #[(120 : UInt8)] }])], inj (Ty.int Go.IntKind.i64) (2 : Int)]) fun r => Option.bind (cR (nat_lit 47) [RT.d (Ty.sl ty24), RT.d (Ty.int Go.IntKind.i64)] [inj (Ty.sl ty24) [((3 : Int), { data := #[(97 : UInt8)] }, { data := #[] }, (0 : Int), [], []), ((1 : Int), { data := #[(100 : UInt8)] }, { data := #[] }, (0 : Int), [], [])], inj (Ty.int Go.IntKind.i64) (1 : Int)]) fun r_1 => Option.bind (cR (nat_lit 47) [RT.d (Ty.sl ty24), RT.d (Ty.int Go.IntKind.i64)] [inj (Ty.sl ty24) [((3 : Int), { data := #[(97 : UInt8)] }, { data := #[] }, (0 : Int), [], []), ((6 : Int), { data := #[(97 : UInt8)] }, { data := #[] }, (0 : Int), [], [{ data := #[(120 : UInt8)] }])], inj (Ty.int Go.IntKind.i64) (1 : Int)]) fun r_2 => ifs (((↑(List.length r) : Int) == (1 : Int)) = true) (Option.bind r[Int.toNat (0 : Int)]? fun r => ifs ((r == (0 : Int)) = true) (ifs ((r_1.snd == (0 : Int)) = true) (Option.bind r_1.fst[Int.toNat (0 : Int)]? fun r => ifs ((r.fst == (1 : Int)) = true) (ifs ((r_2.snd == (13 : Int)) = true) (Option.bind (cR (nat_lit 55) [RT.own (9 : Go.TypeId) Ty.str] [inj (Ty.sl ty24) [((3 : Int), { data := #[(97 : UInt8)] }, { data := #[] }, (0 : Int), [], []), ((6 : Int), { data := #[(97 : UInt8)] }, { data := #[] }, (0 : Int), [], [{ data := #[(120 : UInt8)] }]), ((1 : Int), { data := #[(100 : UInt8)] }, { data := #[] }, (0 : Int), [], [])]]) fun r => some (injRs [RT.d Ty.bool] ((↑(List.length r) : Int) == (2 : Int)))) (some (injRs [RT.d Ty.bool] false))) (some (injRs [RT.d Ty.bool] false))) (some (injRs [RT.d Ty.bool] false))) (some (injRs [RT.d Ty.bool] false))) (some (injRs [RT.d Ty.bool] false)) := by kernel_rfl
theorem e8 (a0 : List (Int × ByteArray × ByteArray × Int × List ByteArray × List ByteArray)) (a1 : List (Int × ByteArray × ByteArray × Int × List ByteArray × List ByteArray)) (a2 : Int) : callG W0 (callW W0) (cutW W0) 8 [inj (Ty.sl ty24) a0, inj (Ty.sl ty24) a1, inj (Ty.int Go.IntKind.i64) a2] = Option.bind (cR (nat_lit 10) [RT.d Ty.bool] [inj (Ty.sl ty24) a0]) fun r => ifs ((!r) = false) (Option.bind (cR (nat_lit 10) [RT.d Ty.bool] [inj (Ty.sl ty24) a1]) fun r => ifs ((!r) = false) (ifs (decide ((↑(List.length a0) : Int) > (12 : Int)) = false) (ifs (decide ((↑(List.length a1) : Int) > (12 : Int)) = true) (Option.bind (cR (nat_lit 44) [RT.d Ty.bool] []) fun r => some (injRs [RT.d Ty.bool] r)) (Option.bind (cR (nat_lit 45) [RT.d (Ty.sl ty24), RT.own (24 : Go.TypeId) ty24, RT.d (Ty.int Go.IntKind.i64)] [inj (Ty.sl ty24) a0, inj (Ty.sl ty24) a1]) fun r => Option.bind (cR (nat_lit 46) [RT.d (Ty.sl ty24), RT.own (24 : Go.TypeId) ty24, RT.d (Ty.int Go.IntKind.i64)] [inj (Ty.sl ty24) a0, inj (Ty.sl ty24) a1]) fun r_1 => Option.bind (cR (nat_lit 47) [RT.d (Ty.sl ty24), RT.d (Ty.int Go.IntKind.i64)] [inj (Ty.sl ty24) a0, inj (Ty.int Go.IntKind.i64) a2]) fun r_2 => Option.bind (cR (nat_lit 48) [RT.own (24 : Go.TypeId) ty24, RT.d (Ty.int Go.IntKind.i64)] [inj (Ty.sl ty24) a0, inj (Ty.int Go.IntKind.i64) a2]) fun r_3 => ifs ((r.snd.snd != r_1.snd.snd) = false) (Option.bind (cR (nat_lit 13) [RT.d Ty.bool] [inj (Ty.sl ty24) r.fst, inj (Ty.sl ty24) r_1.fst]) fun r_4 => ifs ((!r_4) = false) (Option.bind (cR (nat_lit 13) [RT.d Ty.bool] [inj (Ty.sl ty24) (List.take (List.length r.snd.fst) r.snd.fst), inj (Ty.sl ty24) (List.take (List.length r_1.snd.fst) r_1.snd.fst)]) fun r => ifs ((!r) = false) (ifs ((r_2.snd != r_3.snd) = false) (Option.bind (cR (nat_lit 13) [RT.d Ty.bool] [inj (Ty.sl ty24) r_2.fst, inj (Ty.sl ty24) (List.take (List.length r_3.fst) r_3.fst)]) fun r => ifs ((!r) = true) (some (injRs [RT.d Ty.bool] false)) (ifs (((↑(List.length a0) : Int) == (0 : Int)) = true) (Option.bind (cR (nat_lit 44) [RT.d Ty.bool] []) fun r => some (injRs [RT.d Ty.bool] r)) (Option.bind a0[Int.toNat (0 : Int)]? fun r => Option.bind (cR (nat_lit 49) [RT.own (24 : Go.TypeId) ty24, RT.d ty24, RT.d (Ty.int Go.IntKind.i64)] [inj ty24 r, inj (Ty.sl ty24) a1]) fun r => Option.bind a0[Int.toNat (0 : Int)]? fun r_5 => Option.bind (cR (nat_lit 50) [RT.own (24 : Go.TypeId) ty24, RT.d ty24, RT.d (Ty.int Go.IntKind.i64)] [inj ty24 r_5, inj (Ty.sl ty24) a1]) fun r_6 => Option.bind (cR (nat_lit 44) [RT.d Ty.bool] []) fun r_7 => ifs (r_7 = true) (ifs ((r.snd.snd == r_6.snd.snd) = true) (Option.bind (cR (nat_lit 13) [RT.d Ty.bool] [inj (Ty.sl ty24) (List.take (List.length r.fst) r.fst), inj (Ty.sl ty24) (List.take (List.length r_6.fst) r_6.fst)]) fun r_8 => ifs (r_8 = true) (Option.bind (cR (nat_lit 13) [RT.d Ty.bool] [inj (Ty.sl ty24) [r.snd.fst], inj (Ty.sl ty24) [r_6.snd.fst]]) fun r => some (injRs [RT.d Ty.bool] r)) (some (injRs [RT.d Ty.bool] false))) (some (injRs [RT.d Ty.bool] false))) (some (injRs [RT.d Ty.bool] false))))) (some (injRs [RT.d Ty.bool] false))) (some (injRs [RT.d Ty.bool] false))) (some (injRs [RT.d Ty.bool] false))) (some (injRs [RT.d Ty.bool] false)))) (Option.bind (cR (nat_lit 44) [RT.d Ty.bool] []) fun r => some (injRs [RT.d Ty.bool] r))) (Option.bind (cR (nat_lit 44) [RT.d Ty.bool] []) fun r => some (injRs [RT.d Ty.bool] r))) (Option.bind (cR (nat_lit 44) [RT.d Ty.bool] []) fun r => some (injRs [RT.d Ty.bool] r)) := by kernel_rfl
noncomputable def td9_6 : List Item := (findT (code Tryd.f9) [] 6).getD []
noncomputable def l9_6 (x0 : List (Int × ByteArray × ByteArray × Int × List ByteArray × List ByteArray)) (x1 : Int) (x2 : List Int) (x3 : Int) (x4 : List Int) : Option (List RV) := cutW W0 n9 td9_6 { fr := [((0 : Nat), F.a (A.c (C.sl ty24 x0))), ((1 : Nat), F.a (A.c (C.sc (Go.Value.int Go.IntKind.i64 x1)))), ((5 : Nat), F.a (A.c (C.sl (Ty.int Go.IntKind.i64) x2))), ((6 : Nat), F.a (A.c (C.ow (0 : Nat) (List.length x4)))), ((7 : Nat), F.a (A.c (C.sc (Go.Value.int Go.IntKind.i64 x3))))], mem := [some (Row.arr (3 : Nat) (Ty.int Go.IntKind.i64) x4 false)], nx := (1 : Nat) }
noncomputable def td9_16 : List Item := (findT (code Tryd.f9) [] 16).getD []
noncomputable def l9_16 (x0 : List (Int × ByteArray × ByteArray × Int × List ByteArray × List ByteArray)) (x1 : Int) (x2 : Int) (x3 : List ByteArray) : Option (List RV) := cutW W0 n9 td9_16 { fr := [((0 : Nat), F.a (A.c (C.sl ty24 x0))), ((1 : Nat), F.a (A.c (C.sc (Go.Value.int Go.IntKind.i64 x1)))), ((11 : Nat), F.a (A.c (C.ow (0 : Nat) (List.length x3)))), ((12 : Nat), F.a (A.c (C.sc (Go.Value.int Go.IntKind.i64 x2))))], mem := [some (Row.arr (9 : Nat) Ty.str x3 false)], nx := (1 : Nat) }
theorem e9 (a0 : List (Int × ByteArray × ByteArray × Int × List ByteArray × List ByteArray)) (a1 : Int) : callG W0 (callW W0) (cutW W0) 9 [inj (Ty.sl ty24) a0, inj (Ty.int Go.IntKind.i64) a1] = Option.bind (cR (nat_lit 10) [RT.d Ty.bool] [inj (Ty.sl ty24) a0]) fun r => ifs ((!r) = false) (ifs (decide ((↑(List.length a0) : Int) > (15 : Int)) = true) (Option.bind (cR (nat_lit 44) [RT.d Ty.bool] []) fun r => some (injRs [RT.d Ty.bool] r)) (Option.bind (cR (nat_lit 51) [RT.d (Ty.sl (Ty.int Go.IntKind.i64))] [inj (Ty.sl ty24) a0, inj (Ty.int Go.IntKind.i64) a1]) fun r => Option.bind (cR (nat_lit 52) [RT.own (3 : Go.TypeId) (Ty.int Go.IntKind.i64)] [inj (Ty.sl ty24) a0, inj (Ty.int Go.IntKind.i64) a1]) fun r_1 => l9_6 a0 a1 r (0 : Int) r_1)) (Option.bind (cR (nat_lit 44) [RT.d Ty.bool] []) fun r => some (injRs [RT.d Ty.bool] r)) := by kernel_rfl
theorem q9_6 (x0 : List (Int × ByteArray × ByteArray × Int × List ByteArray × List ByteArray)) (x1 : Int) (x2 : List Int) (x3 : Int) (x4 : List Int) : cutG W0 (callW W0) (cutW W0) n9 td9_6 { fr := [((0 : Nat), F.a (A.c (C.sl ty24 x0))), ((1 : Nat), F.a (A.c (C.sc (Go.Value.int Go.IntKind.i64 x1)))), ((5 : Nat), F.a (A.c (C.sl (Ty.int Go.IntKind.i64) x2))), ((6 : Nat), F.a (A.c (C.ow (0 : Nat) (List.length x4)))), ((7 : Nat), F.a (A.c (C.sc (Go.Value.int Go.IntKind.i64 x3))))], mem := [some (Row.arr (3 : Nat) (Ty.int Go.IntKind.i64) x4 false)], nx := (1 : Nat) } = ifs (decide (x3 < (↑(List.length x2) : Int)) = true) (ifs (((↑(List.length x2) : Int) != (↑(List.length x4) : Int)) = false) (ifs ((0 : Int) ≤ x3) (Option.bind x2[Int.toNat x3]? fun r => ifs ((0 : Int) ≤ x3 ∧ x3 < (↑(List.length x4) : Int)) (Option.bind x4[Int.toNat x3]? fun r_1 => ifs ((r != r_1) = true) (some (injRs [RT.d Ty.bool] false)) (l9_6 x0 x1 x2 (Go.IntKind.wrap Go.IntKind.i64 (x3 + (1 : Int))) x4)) none) none) (some (injRs [RT.d Ty.bool] false))) (Option.bind (cR (nat_lit 47) [RT.d (Ty.sl ty24), RT.d (Ty.int Go.IntKind.i64)] [inj (Ty.sl ty24) x0, inj (Ty.int Go.IntKind.i64) x1]) fun r => ifs (decide (x1 ≥ (0 : Int)) = true) (ifs (((↑(List.length x2) : Int) != (↑(List.length x4) : Int)) = false) (ifs (decide (x1 < (↑(List.length x0) : Int)) = true) (ifs ((!(r.snd == (0 : Int)) == ((↑(List.length x2) : Int) == (0 : Int))) = true) (some (injRs [RT.d Ty.bool] false)) (l9_16 x0 x1 (0 : Int) [])) (l9_16 x0 x1 (0 : Int) [])) (some (injRs [RT.d Ty.bool] false))) (ifs (((↑(List.length x2) : Int) != (↑(List.length x4) : Int)) = false) (l9_16 x0 x1 (0 : Int) []) (some (injRs [RT.d Ty.bool] false)))) := by kernel_rfl
theorem q9_16 (x0 : List (Int × ByteArray × ByteArray × Int × List ByteArray × List ByteArray)) (x1 : Int) (x2 : Int) (x3 : List ByteArray) : cutG W0 (callW W0) (cutW W0) n9 td9_16 { fr := [((0 : Nat), F.a (A.c (C.sl ty24 x0))), ((1 : Nat), F.a (A.c (C.sc (Go.Value.int Go.IntKind.i64 x1)))), ((11 : Nat), F.a (A.c (C.ow (0 : Nat) (List.length x3)))), ((12 : Nat), F.a (A.c (C.sc (Go.Value.int Go.IntKind.i64 x2))))], mem := [some (Row.arr (9 : Nat) Ty.str x3 false)], nx := (1 : Nat) } = ifs (decide (x2 < (↑(List.length x0) : Int)) = true) (ifs ((0 : Int) ≤ x2) (Option.bind x0[Int.toNat x2]? fun r => Option.bind (cR (nat_lit 53) [RT.own (9 : Go.TypeId) Ty.str] [inj ty24 r]) fun r => ifs ((List.length x3 + List.length (List.take (List.length r) r)) * nat_lit 16 ≤ (140737488355328 : Nat)) (l9_16 x0 x1 (Go.IntKind.wrap Go.IntKind.i64 (x2 + (1 : Int))) (List.take (List.length x3) x3 ++ List.take (List.length r) r)) none) none) (Option.bind (cR (nat_lit 54) [RT.own (24 : Go.TypeId) ty24, RT.d (Ty.int Go.IntKind.i64)] [inj (Ty.sl ty24) x0, inj (Ty.int Go.IntKind.i64) x1]) fun r => ifs (decide (x1 < (0 : Int)) = false) (ifs (decide (x1 ≥ Go.IntKind.wrap Go.IntKind.i64 ((↑(List.length x0) : Int) - (1 : Int))) = true) (Option.bind (cR (nat_lit 44) [RT.d Ty.bool] []) fun r_1 => ifs (r_1 = true) (ifs ((r.snd == (3 : Int)) = true) (ifs (((↑(List.length r.fst) : Int) == (0 : Int)) = true) (Option.bind (cR (nat_lit 55) [RT.own (9 : Go.TypeId) Ty.str] [inj (Ty.sl ty24) x0]) fun r => Option.bind (cR (nat_lit 56) [RT.own (9 : Go.TypeId) Ty.str] [inj (Ty.sl Ty.str) (List.take (List.length x3) x3)]) fun r_2 => Option.bind (cR (nat_lit 42) [RT.d Ty.bool] [inj (Ty.sl Ty.str) (List.take (List.length r) r), inj (Ty.sl Ty.str) (List.take (List.length r_2) r_2)]) fun r => some (injRs [RT.d Ty.bool] r)) (some (injRs [RT.d Ty.bool] false))) (some (injRs [RT.d Ty.bool] false))) (some (injRs [RT.d Ty.bool] false))) (ifs ((0 : Int) ≤ x1) (Option.bind x0[Int.toNat x1]? fun r_1 => ifs ((0 : Int) ≤ Go.IntKind.wrap Go.IntKind.i64 (x1 + (1 : Int))) (Option.bind x0[Int.toNat (Go.IntKind.wrap Go.IntKind.i64 (x1 + (1 : Int)))]? fun r_2 => Option.bind (cR (nat_lit 57) [RT.d ty24, RT.d ty24, RT.d (Ty.int Go.IntKind.i64)] [inj ty24 r_1, inj ty24 r_2]) fun r_3 => ifs (((0 : Nat) + List.length x0) * nat_lit 96 ≤ (140737488355328 : Nat)) (ifs ((0 : Int) ≤ x1 ∧ x1 < (↑(List.length ([] ++ x0)) : Int)) (Option.bind ([] ++ x0)[Int.toNat x1]? fun r_4 => ifs ((0 : Int) ≤ Go.IntKind.wrap Go.IntKind.i64 (x1 + (1 : Int)) ∧ Go.IntKind.wrap Go.IntKind.i64 (x1 + (1 : Int)) < (↑(List.length ([] ++ x0)) : Int)) (Option.bind (List.set ([] ++ x0) (Int.toNat x1) r_3.fst)[Int.toNat (Go.IntKind.wrap Go.IntKind.i64 (x1 + (1 : Int)))]? fun r_5 => Option.bind (cR (nat_lit 44) [RT.d Ty.bool] []) fun r_6 => ifs (r_6 = true) (ifs ((r.snd == r_3.snd.snd) = true) (ifs ((r_3.snd.snd != (0 : Int)) = true) (ifs (((↑(List.length r.fst) : Int) == (0 : Int)) = false) (ifs ((r_3.snd.snd == (0 : Int)) = true) (Option.bind (cR (nat_lit 13) [RT.d Ty.bool] [inj (Ty.sl ty24) (List.take (List.length r.fst) r.fst), inj (Ty.sl ty24) (List.take (List.length ([] ++ x0)) (List.set (List.set ([] ++ x0) (Int.toNat x1) r_3.fst) (Int.toNat (Go.IntKind.wrap Go.IntKind.i64 (x1 + (1 : Int)))) r_3.snd.fst))]) fun r => ifs (r = true) (Option.bind (cR (nat_lit 55) [RT.own (9 : Go.TypeId) Ty.str] [inj (Ty.sl ty24) x0]) fun r => Option.bind (cR (nat_lit 56) [RT.own (9 : Go.TypeId) Ty.str] [inj (Ty.sl Ty.str) (List.take (List.length x3) x3)]) fun r_7 => Option.bind (cR (nat_lit 42) [RT.d Ty.bool] [inj (Ty.sl Ty.str) (List.take (List.length r) r), inj (Ty.sl Ty.str) (List.take (List.length r_7) r_7)]) fun r => some (injRs [RT.d Ty.bool] r)) (some (injRs [RT.d Ty.bool] false))) (some (injRs [RT.d Ty.bool] false))) (Option.bind (cR (nat_lit 55) [RT.own (9 : Go.TypeId) Ty.str] [inj (Ty.sl ty24) x0]) fun r => Option.bind (cR (nat_lit 56) [RT.own (9 : Go.TypeId) Ty.str] [inj (Ty.sl Ty.str) (List.take (List.length x3) x3)]) fun r_7 => Option.bind (cR (nat_lit 42) [RT.d Ty.bool] [inj (Ty.sl Ty.str) (List.take (List.length r) r), inj (Ty.sl Ty.str) (List.take (List.length r_7) r_7)]) fun r => some (injRs [RT.d Ty.bool] r))) (ifs ((r_3.snd.snd == (0 : Int)) = true) (Option.bind (cR (nat_lit 13) [RT.d Ty.bool] [inj (Ty.sl ty24) (List.take (List.length r.fst) r.fst), inj (Ty.sl ty24) (List.take (List.length ([] ++ x0)) (List.set (List.set ([] ++ x0) (Int.toNat x1) r_3.fst) (Int.toNat (Go.IntKind.wrap Go.IntKind.i64 (x1 + (1 : Int)))) r_3.snd.fst))]) fun r => ifs (r = true) (Option.bind (cR (nat_lit 55) [RT.own (9 : Go.TypeId) Ty.str] [inj (Ty.sl ty24) x0]) fun r => Option.bind (cR (nat_lit 56) [RT.own (9 : Go.TypeId) Ty.str] [inj (Ty.sl Ty.str) (List.take (List.length x3) x3)]) fun r_7 => Option.bind (cR (nat_lit 42) [RT.d Ty.bool] [inj (Ty.sl Ty.str) (List.take (List.length r) r), inj (Ty.sl Ty.str) (List.take (List.length r_7) r_7)]) fun r => some (injRs [RT.d Ty.bool] r)) (some (injRs [RT.d Ty.bool] false))) (some (injRs [RT.d Ty.bool] false)))) (some (injRs [RT.d Ty.bool] false))) (some (injRs [RT.d Ty.bool] false))) none) none) none) none) none)) (Option.bind (cR (nat_lit 44) [RT.d Ty.bool] []) fun r_1 => ifs (r_1 = true) (ifs ((r.snd == (3 : Int)) = true) (ifs (((↑(List.length r.fst) : Int) == (0 : Int)) = true) (Option.bind (cR (nat_lit 55) [RT.own (9 : Go.TypeId) Ty.str] [inj (Ty.sl ty24) x0]) fun r => Option.bind (cR (nat_lit 56) [RT.own (9 : Go.TypeId) Ty.str] [inj (Ty.sl Ty.str) (List.take (List.length x3) x3)]) fun r_2 => Option.bind (cR (nat_lit 42) [RT.d Ty.bool] [inj (Ty.sl Ty.str) (List.take (List.length r) r), inj (Ty.sl Ty.str) (List.take (List.length r_2) r_2)]) fun r => some (injRs [RT.d Ty.bool] r)) (some (injRs [RT.d Ty.bool] false))) (some (injRs [RT.d Ty.bool] false))) (some (injRs [RT.d Ty.bool] false)))) := by kernel_rfl
end Go.Proofs.YtokecnkjgoghhaaDoor.Tb
end
section
/- What some functions of the program come to, in plain words: steps that are apart, and that change places. Conditions: lengths as they stand in each statement. -/
set_option linter.unusedVariables false
set_option linter.unusedSimpArgs false
namespace Go.Proofs.YtokecnkjgoghhaaDoor.Sp
open Go Go.Proofs.YtokecnkjgoghhaaDoor.Ab Go.Proofs.YtokecnkjgoghhaaDoor.Tb Go.Proofs.YtokecnkjgoghhaaDoor.EText

/-! ### Is a text among others? -/
theorem slIndex_loop (l : List Txt) (x : Txt) (hl : l.length ≤ top) : ∀ i : Nat, i ≤ l.length → ∃ r : Int, l153_2 l x l.length i = some (injRs [RT.d (.int .i64)] r) ∧ decide (r ≥ 0) = (l.drop i).any (fun s => decide (x = s)) := by
  refine upTo (fun i hi ih => ?_) ?_
  · obtain ⟨r, hr, he⟩ := ih
    rw [List.drop_eq_getElem_cons hi, List.any_cons]
    by_cases h : x = l[i]
    · refine ⟨i, cutG_step ((q153_2 ..).trans ?_), by simp [h]⟩
      rw [ifs_pos (by simpa using hi), ifs_pos (by omega), Int.toNat_natCast, List.getElem?_eq_getElem hi, Option.bind_some, bat, ifs_pos (by simp [h])]
    · refine ⟨r, cutG_step ((q153_2 ..).trans ?_), by rw [he]; simp [h]⟩
      rw [ifs_pos (by simpa using hi), ifs_pos (by omega), Int.toNat_natCast, List.getElem?_eq_getElem hi, Option.bind_some, bat, ifs_neg (by simp [h]), wrS hi hl, hr]
  · refine ⟨-1, cutG_step ((q153_2 ..).trans ?_), by simp⟩
    rw [ifs_neg (by simp)]
theorem slContains_ok (l : List Txt) (x : Txt) (hl : l.length ≤ top) : cR 107 [RT.d .bool] [inj (.sl .str) l, inj .str x] = some (l.any fun s => decide (x = s)) := by
  obtain ⟨r, hr, he⟩ := slIndex_loop l x hl 0 (Nat.zero_le _)
  refine callT_of ((e107 l x).trans ?_)
  have hx : cR 153 [RT.d (.int .i64)] [inj (.sl .str) l, inj .str x] = some r := callT_of ((e153 l x).trans hr)
  rw [hx, Option.bind_some, he, List.drop_zero]

/-! ### Within -/
def preB (s t : Txt) : Bool := decide (t.size ≤ s.size) && decide (s.extract 0 t.size = t)
theorem hasPre_ok (s t : Txt) : cR 184 [RT.d .bool] [inj .str s, inj .str t] = some (preB s t) := by
  refine callT_of ((e184 s t).trans ?_)
  have hx : cR 214 [RT.d .bool] [inj .str s, inj .str t] = some (preB s t) := by
    refine callT_of ((e214 s t).trans ?_)
    unfold preB
    by_cases h : t.size ≤ s.size
    · rw [ifs_pos (by simp; omega), ifs_pos (by omega), bat, decide_eq_true h]
      rfl
    · rw [ifs_neg (by simp; omega), decide_eq_false h]
      rfl
  rw [hx]; rfl
def withinB (p d : Txt) : Bool := rightP p && (decide (d = zt) || (rightP d && preB p (d ++ slash)))
theorem within_ok (p d : Txt) (hp : p.size ≤ 100000) (hd : d.size ≤ 100000) : cR 154 [RT.d .bool] [inj .str p, inj .str d] = some (withinB p d) := by
  refine callT_of ((e154 p d).trans ?_)
  have hsz : d.size + ByteArray.size { data := #[(47 : UInt8)] } ≤ 9223372036854775807 := by
    have : ByteArray.size { data := #[(47 : UInt8)] } = 1 := rfl
    omega
  simp only [pright_ok p hp, pright_ok d hd, hasPre_ok, Option.bind_some, bat]
  unfold withinB
  simp only [ifs, hsz, if_true]
  cases rightP p with
  | false => simp
  | true =>
    by_cases h : d = zt
    · simp [h]
    · cases rightP d <;> simp [h]

/-! ### Apart -/
def touchesL (p : Prm) : List Txt := if chk p ≠ 0 then [] else if p.1 = 5 then [p.2.1, p.2.2.1] else [p.2.1]
theorem touches_ok (p : Prm) (hp : Md p) : cR 60 [RT.own 9 .str] [inj ty24 p] = some (touchesL p) := by
  refine callT_of ((e60 p).trans ?_)
  rw [pcheck_ok p hp, Option.bind_some]
  unfold touchesL
  simp only [ifs]
  by_cases h : chk p = 0
  · by_cases h5 : p.1 = 5 <;> simp [h, h5]
  · simp [h]
theorem touches_mem (p : Prm) (hp : Md p) : ∀ s ∈ touchesL p, s.size ≤ 100000 := by
  unfold touchesL
  intro s hs
  split at hs
  · cases hs
  · split at hs
    · simp only [List.mem_cons, List.not_mem_nil, or_false] at hs
      rcases hs with rfl | rfl
      · exact hp.path
      · exact hp.dst
    · simp only [List.mem_cons, List.not_mem_nil, or_false] at hs
      subst hs; exact hp.path
theorem touches_len (p : Prm) : (touchesL p).length ≤ 2 := by
  unfold touchesL
  repeat' split
  all_goals simp
def aboveB (p : Prm) (s : Txt) : Bool := (decide (p.1 = 1) || decide (p.1 = 2)) && withinB s p.2.1
theorem above_ok (p : Prm) (s : Txt) (hp : Md p) (hs : s.size ≤ 100000) : cR 108 [RT.d .bool] [inj ty24 p, inj .str s] = some (aboveB p s) := by
  refine callT_of ((e108 p s).trans ?_)
  rw [within_ok s _ hs hp.path]
  unfold aboveB
  simp only [ifs, Option.bind_some]
  by_cases h1 : p.1 = 1
  · simp [h1]
  · by_cases h2 : p.1 = 2 <;> simp [h1, h2]
theorem apart1_ok (a : Txt) (y : List Txt) (q : Prm) (hq : Md q) (ha : a.size ≤ 100000) (hy : y.length ≤ top) :
    cR 106 [RT.d .bool] [inj .str a, A.c (C.pt (Pt.sh (.sl .str) y 0)), A.c (C.pt (Pt.sh ty24 q 0))] = some ((y.any fun s => decide (a = s)) || aboveB q a) := by
  refine callT_of ((e106 a y q).trans ?_)
  rw [slContains_ok y a hy, Option.bind_some, above_ok q a hq ha]
  cases y.any (fun s => decide (a = s)) with
  | true => rw [ifs_neg (by simp)]; rfl
  | false => rw [ifs_pos rfl]; rfl
theorem apart2_ok (b : Txt) (p : Prm) (hp : Md p) (hb : b.size ≤ 100000) : cR 110 [RT.d .bool] [inj .str b, A.c (C.pt (Pt.sh ty24 p 0))] = some (aboveB p b) :=
  callT_of ((e110 b p).trans (by rw [above_ok p b hp hb]; rfl))
theorem ixfC_loop (l y : List Txt) (q : Prm) (hq : Md q) (hl : l.length ≤ top) (hs : ∀ s ∈ l, s.size ≤ 100000) (hy : y.length ≤ top) : ∀ i : Nat, i ≤ l.length →
    ∃ r : Int, l155c_2 l y q l.length i = some (injRs [RT.d (.int .i64)] r) ∧ decide (r ≥ 0) = (l.drop i).any (fun a => (y.any fun s => decide (a = s)) || aboveB q a) := by
  refine upTo (fun i hi ih => ?_) ?_
  · obtain ⟨r, hr, he⟩ := ih
    rw [List.drop_eq_getElem_cons hi, List.any_cons]
    cases h : (y.any fun s => decide (l[i] = s)) || aboveB q l[i] with
    | true =>
      refine ⟨i, cutG_step ((q155c_2 ..).trans ?_), by simp⟩
      rw [ifs_pos (by simpa using hi), ifs_pos (by omega), Int.toNat_natCast, List.getElem?_eq_getElem hi, Option.bind_some, apart1_ok _ y q hq (hs _ (List.getElem_mem hi)) hy, Option.bind_some, h, ifs_pos rfl]
    | false =>
      refine ⟨r, cutG_step ((q155c_2 ..).trans ?_), by rw [he]; simp⟩
      rw [ifs_pos (by simpa using hi), ifs_pos (by omega), Int.toNat_natCast, List.getElem?_eq_getElem hi, Option.bind_some, apart1_ok _ y q hq (hs _ (List.getElem_mem hi)) hy, Option.bind_some, h, ifs_neg (by simp), wrS hi hl, hr]
  · refine ⟨-1, cutG_step ((q155c_2 ..).trans ?_), by simp⟩
    rw [ifs_neg (by simp)]
theorem ixfD_loop (l : List Txt) (p : Prm) (hp : Md p) (hl : l.length ≤ top) (hs : ∀ s ∈ l, s.size ≤ 100000) : ∀ i : Nat, i ≤ l.length →
    ∃ r : Int, l155d_2 l p l.length i = some (injRs [RT.d (.int .i64)] r) ∧ decide (r ≥ 0) = (l.drop i).any (fun a => aboveB p a) := by
  refine upTo (fun i hi ih => ?_) ?_
  · obtain ⟨r, hr, he⟩ := ih
    rw [List.drop_eq_getElem_cons hi, List.any_cons]
    cases h : aboveB p l[i] with
    | true =>
      refine ⟨i, cutG_step ((q155d_2 ..).trans ?_), by simp⟩
      rw [ifs_pos (by simpa using hi), ifs_pos (by omega), Int.toNat_natCast, List.getElem?_eq_getElem hi, Option.bind_some, apart2_ok _ p hp (hs _ (List.getElem_mem hi)), Option.bind_some, h, ifs_pos rfl]
    | false =>
      refine ⟨r, cutG_step ((q155d_2 ..).trans ?_), by rw [he]; simp⟩
      rw [ifs_pos (by simpa using hi), ifs_pos (by omega), Int.toNat_natCast, List.getElem?_eq_getElem hi, Option.bind_some, apart2_ok _ p hp (hs _ (List.getElem_mem hi)), Option.bind_some, h, ifs_neg (by simp), wrS hi hl, hr]
  · refine ⟨-1, cutG_step ((q155d_2 ..).trans ?_), by simp⟩
    rw [ifs_neg (by simp)]
def apartB (p q : Prm) : Bool :=
  decide (touchesL p ≠ []) && (decide (touchesL q ≠ []) && (!((touchesL p).any fun a => ((touchesL q).any fun s => decide (a = s)) || aboveB q a) && !((touchesL q).any fun b => aboveB p b)))
theorem apart_ok (p q : Prm) (hp : Md p) (hq : Md q) : cR 59 [RT.d .bool] [inj ty24 p, inj ty24 q] = some (apartB p q) := by
  have t1 := touches_len p
  have t2 := touches_len q
  have l1 : (touchesL p).length ≤ top := by simp only [top]; omega
  have l2 : (touchesL q).length ≤ top := by simp only [top]; omega
  have hc : cR 109 [RT.d .bool] [inj (.sl .str) (touchesL p), A.c (C.cl 106 [Pt.sh (.sl .str) (touchesL q) 0, Pt.sh ty24 q 0])] = some ((touchesL p).any fun a => ((touchesL q).any fun s => decide (a = s)) || aboveB q a) := by
    obtain ⟨r, hr, he⟩ := ixfC_loop (touchesL p) (touchesL q) q hq l1 (touches_mem p hp) l2 0 (Nat.zero_le _)
    refine callT_of ((e109c _ _ _).trans ?_)
    have hx : cR 155 [RT.d (.int .i64)] [inj (.sl .str) (touchesL p), A.c (C.cl 106 [Pt.sh (.sl .str) (touchesL q) 0, Pt.sh ty24 q 0])] = some r := callT_of ((e155c _ _ _).trans hr)
    rw [hx, Option.bind_some, he, List.drop_zero]
  have hd : cR 109 [RT.d .bool] [inj (.sl .str) (touchesL q), A.c (C.cl 110 [Pt.sh ty24 p 0])] = some ((touchesL q).any fun b => aboveB p b) := by
    obtain ⟨r, hr, he⟩ := ixfD_loop (touchesL q) p hp l2 (touches_mem q hq) 0 (Nat.zero_le _)
    refine callT_of ((e109d _ _).trans ?_)
    have hx : cR 155 [RT.d (.int .i64)] [inj (.sl .str) (touchesL q), A.c (C.cl 110 [Pt.sh ty24 p 0])] = some r := callT_of ((e155d _ _).trans hr)
    rw [hx, Option.bind_some, he, List.drop_zero]
  refine callT_of ((e59 p q).trans ?_)
  rw [touches_ok p hp, Option.bind_some, touches_ok q hq, Option.bind_some, List.take_length, List.take_length, hc, Option.bind_some, hd]
  unfold apartB
  simp only [ifs, Option.bind_some]
  generalize (touchesL p).any (fun a => ((touchesL q).any fun s => decide (a = s)) || aboveB q a) = u
  generalize (touchesL q).any (fun b => aboveB p b) = v
  have e1 : ∀ l : List Txt, ((l.length : Int) == 0) = decide (l = []) := fun l => by
    cases l <;> simp
    omega
  rw [e1, e1]
  by_cases h1 : touchesL p = []
  · simp [h1]
  · by_cases h2 : touchesL q = []
    · simp [h1, h2]
    · cases u <;> cases v <;> simp [h1, h2]

/-! ### Two steps change places -/
def setAt (p : Prm) (n : Int) : Prm := (p.1, p.2.1, p.2.2.1, n, p.2.2.2.2)
abbrev W64 (n : Int) : Int := IntKind.i64.wrap n
def shiftP (p q : Prm) : Prm × Prm × Bool :=
  if p.1 = 6 ∧ q.1 = 6 ∧ p.2.1 = q.2.1 ∧ chk p = 0 ∧ chk q = 0 then
    (if W64 (q.2.2.2.1 - p.2.2.2.2.2.length) > p.2.2.2.1 then (setAt q (W64 (q.2.2.2.1 - W64 (p.2.2.2.2.2.length - p.2.2.2.2.1.length))), p, true)
    else if W64 (p.2.2.2.1 - q.2.2.2.2.1.length) > q.2.2.2.1 then (q, setAt p (W64 (p.2.2.2.1 + W64 (q.2.2.2.2.2.length - q.2.2.2.2.1.length))), true)
    else (zp, zp, false))
  else (zp, zp, false)
theorem copied_ok (p : Prm) (hp : Md p) : cR 63 [RT.d ty24] [inj ty24 p] = some p := by
  refine callT_of ((e63 p).trans ?_)
  rw [inv_ok p hp, Option.bind_some, inv_ok _ hp.inv, Option.bind_some, invP_back]
theorem shift_ok (p q : Prm) (hp : Md p) (hq : Md q) : cR 62 [RT.d ty24, RT.d ty24, RT.d .bool] [inj ty24 p, inj ty24 q] = some (shiftP p q) := by
  refine callT_of ((e62 p q).trans ?_)
  rw [pcheck_ok p hp, Option.bind_some, pcheck_ok q hq, Option.bind_some, copied_ok p hp, Option.bind_some, copied_ok q hq, Option.bind_some, bat]
  unfold shiftP
  simp only [ifs]
  by_cases c1 : p.1 = 6
  · by_cases c2 : q.1 = 6
    · by_cases c3 : p.2.1 = q.2.1
      · by_cases c4 : chk p = 0
        · by_cases c5 : chk q = 0
          · simp only [c1, c2, c3, c4, c5, and_self, if_true]
            by_cases d1 : W64 (q.2.2.2.1 - p.2.2.2.2.2.length) > p.2.2.2.1
            · simp [d1]; rw [← c2]; rfl
            · by_cases d2 : W64 (p.2.2.2.1 - q.2.2.2.2.1.length) > q.2.2.2.1
              · simp [d1, d2]; rw [← c1, ← c3]; rfl
              · simp [d1, d2]
          · simp [c1, c2, c3, c4, c5]
        · simp [c1, c2, c3, c4]
      · simp [c1, c2, c3]
    · simp [c1, c2]
  · simp [c1]

end Go.Proofs.YtokecnkjgoghhaaDoor.Sp
end
section
/- What commute.Pair comes to, in plain words; and three hunks that change places. Conditions: lengths as they stand in each statement. -/
set_option linter.unusedVariables false
set_option linter.unusedSimpArgs false
namespace Go.Proofs.YtokecnkjgoghhaaDoor.Sp
open Go Go.Proofs.YtokecnkjgoghhaaDoor.Ab Go.Proofs.YtokecnkjgoghhaaDoor.Tb Go.Proofs.YtokecnkjgoghhaaDoor.EText

def pairC (p q : Prm) : Prm × Prm × Int :=
  if chk p ≠ 0 then (zp, zp, chk p)
  else if chk q ≠ 0 then (zp, zp, chk q)
  else if (shiftP p q).2.2 = true then ((shiftP p q).1, (shiftP p q).2.1, 0)
  else if p.1 = 5 ∧ q.1 = 6 ∧ q.2.1 = p.2.2.1 then ((q.1, p.2.1, q.2.2), p, 0)
  else if p.1 = 6 ∧ q.1 = 5 ∧ q.2.1 = p.2.1 then (q, (p.1, q.2.2.1, p.2.2), 0)
  else if apartB p q then (q, p, 0)
  else (zp, zp, 13)
theorem cpair_end (p q : Prm) (hp : Md p) (hq : Md q) (h1 : chk p = 0) (h2 : chk q = 0) : l12_2 2 2 p.1 p.2.1 p.2.2.1 p.2.2.2.1 p.2.2.2.2.1 p.2.2.2.2.2 q.1 q.2.1 q.2.2.1 q.2.2.2.1 q.2.2.2.2.1 q.2.2.2.2.2 0 zt zt 0 0 zt zt 0 [p, q] = some (injRs [RT.d ty24, RT.d ty24, RT.d (.int .i64)] (pairC p q)) := by
  refine cutG_step ((q12_2 ..).trans ?_)
  rw [ifs_neg (by simp)]
  have e1 : cR 62 [RT.d ty24, RT.d ty24, RT.d .bool] [inj ty24 (p.1, p.2.1, p.2.2.1, p.2.2.2.1, p.2.2.2.2.1, p.2.2.2.2.2), inj ty24 (q.1, q.2.1, q.2.2.1, q.2.2.2.1, q.2.2.2.2.1, q.2.2.2.2.2)] = some (shiftP p q) := shift_ok p q hp hq
  have e2 : cR 63 [RT.d ty24] [inj ty24 (p.1, p.2.1, p.2.2.1, p.2.2.2.1, p.2.2.2.2.1, p.2.2.2.2.2)] = some p := copied_ok p hp
  have e3 : cR 63 [RT.d ty24] [inj ty24 (q.1, q.2.1, q.2.2.1, q.2.2.2.1, q.2.2.2.2.1, q.2.2.2.2.2)] = some q := copied_ok q hq
  have e4 : cR 59 [RT.d .bool] [inj ty24 (p.1, p.2.1, p.2.2.1, p.2.2.2.1, p.2.2.2.2.1, p.2.2.2.2.2), inj ty24 (q.1, q.2.1, q.2.2.1, q.2.2.2.1, q.2.2.2.2.1, q.2.2.2.2.2)] = some (apartB p q) := apart_ok p q hp hq
  simp only [e1, e2, e3, e4, Option.bind_some, bat]
  unfold pairC
  simp only [ifs, h1, h2]
  generalize shiftP p q = s
  generalize apartB p q = u
  obtain ⟨k, a, b, n, o, w⟩ := p
  obtain ⟨k', a', b', n', o', w'⟩ := q
  obtain ⟨s1, s2, s3⟩ := s
  cases s3 with
  | true => simp
  | false =>
    by_cases k5 : k = 5
    · subst k5
      by_cases k6' : k' = 6
      · subst k6'
        by_cases c : a' = b
        · simp [c]
        · cases u <;> simp [c]
      · cases u <;> simp [k6']
    · by_cases k6 : k = 6
      · subst k6
        by_cases k5' : k' = 5
        · subst k5'
          by_cases c : a' = a
          · simp [c]
          · cases u <;> simp [c]
        · cases u <;> simp [k5']
      · cases u <;> simp [k5, k6]
theorem cpair_ok (p q : Prm) (hp : Md p) (hq : Md q) : cR 12 [RT.d ty24, RT.d ty24, RT.d (.int .i64)] [inj ty24 p, inj ty24 q] = some (pairC p q) := by
  refine callT_of ((e12 p q).trans ?_)
  have w1 : IntKind.i64.wrap (0 + 1) = 1 := wr _ (by omega)
  have w2 : IntKind.i64.wrap (1 + 1) = 2 := wr _ (by omega)
  have g0 : ([p, q] : List Prm)[Int.toNat 0]? = some p := rfl
  have g1 : ([p, q] : List Prm)[Int.toNat 1]? = some q := rfl
  have step1 : l12_2 2 1 p.1 p.2.1 p.2.2.1 p.2.2.2.1 p.2.2.2.2.1 p.2.2.2.2.2 q.1 q.2.1 q.2.2.1 q.2.2.2.1 q.2.2.2.2.1 q.2.2.2.2.2 0 zt zt 0 0 zt zt 0 [p, q] = some (injRs [RT.d ty24, RT.d ty24, RT.d (.int .i64)] (if chk q ≠ 0 then (zp, zp, chk q) else if chk p ≠ 0 then (zp, zp, chk q) else pairC p q)) ∨ chk p ≠ 0 := by
    by_cases h1 : chk p = 0
    · left
      refine cutG_step ((q12_2 ..).trans ?_)
      rw [ifs_pos (by simp), ifs_pos (by simp), g1, Option.bind_some, pcheck_ok q hq, Option.bind_some, w2]
      by_cases h2 : chk q = 0
      · rw [ifs_neg (by simp [h2]), cpair_end p q hp hq h1 h2]
        simp [h1, h2]
      · rw [ifs_pos (by simp [h2])]
        simp [h2]
    · exact .inr h1
  refine cutG_step ((q12_2 ..).trans ?_)
  rw [ifs_pos (by simp), ifs_pos (by simp), g0, Option.bind_some, pcheck_ok p hp, Option.bind_some, w1]
  by_cases h1 : chk p = 0
  · rw [ifs_neg (by simp [h1])]
    rcases step1 with h | h
    · refine h.trans ?_
      by_cases h2 : chk q = 0
      · simp [h1, h2]
      · unfold pairC; simp [h1, h2]
    · exact absurd h1 h
  · rw [ifs_pos (by simp [h1])]
    unfold pairC; simp [h1]

end Go.Proofs.YtokecnkjgoghhaaDoor.Sp
end
section
/- The law CommuteThree as plain Lean: it answers true. Conditions: lengths and numbers are those of the machine. -/
set_option linter.unusedVariables false
set_option linter.unusedSimpArgs false
namespace Go.Proofs.YtokecnkjgoghhaaDoor.Sp
open Go Go.Proofs.YtokecnkjgoghhaaDoor.Ab Go.Proofs.YtokecnkjgoghhaaDoor.Tb Go.Proofs.YtokecnkjgoghhaaDoor.EText

set_option maxRecDepth 100000 in
theorem awake8_ok : cR 11 [RT.d .bool] [] = some true := callT_ofN 60 (by kernel_rfl)

/-- Where two hunks stand the other way round. -/
def Step (same : Prop) (P pn po Q qn qo Q' P' : Int) : Prop :=
  (¬ same ∧ Q' = Q ∧ P' = P) ∨ (same ∧ W64 (Q - pn) > P ∧ Q' = W64 (Q - W64 (pn - po)) ∧ P' = P) ∨ (same ∧ ¬ W64 (Q - pn) > P ∧ W64 (P - qo) > Q ∧ Q' = Q ∧ P' = W64 (P + W64 (qn - qo)))

theorem wk (n : Int) : ∃ k : Int, W64 n = n + 18446744073709551616 * k ∧ -9223372036854775808 ≤ W64 n ∧ W64 n ≤ 9223372036854775807 := by
  show ∃ k : Int, IntKind.i64.wrap n = _ ∧ -9223372036854775808 ≤ IntKind.i64.wrap n ∧ IntKind.i64.wrap n ≤ 9223372036854775807
  rw [IntKind.wrap_i64]
  refine ⟨-((n + 9223372036854775808) / 18446744073709551616), ?_⟩
  omega

/-- Of hunks in their range: no number is too great. -/
theorem Step.plain {same : Prop} {P pn po Q qn qo Q' P' : Int} (h : Step same P pn po Q qn qo Q' P') (hP : 0 ≤ P ∧ P ≤ 9223372036854775807) (hQ : 0 ≤ Q ∧ Q ≤ 9223372036854775807) (l1 : 0 ≤ pn ∧ pn ≤ 60) (l2 : 0 ≤ po ∧ po ≤ 60) (l3 : 0 ≤ qn ∧ qn ≤ 60) (l4 : 0 ≤ qo ∧ qo ≤ 60) :
    (¬ same ∧ Q' = Q ∧ P' = P) ∨ (same ∧ Q - pn > P ∧ Q' = W64 (Q - (pn - po)) ∧ P' = P) ∨ (same ∧ ¬ Q - pn > P ∧ P - qo > Q ∧ Q' = Q ∧ P' = W64 (P + (qn - qo))) := by
  unfold Step W64 at h
  unfold W64
  rw [wr (Q - pn) ⟨by omega, by omega⟩, wr (P - qo) ⟨by omega, by omega⟩, wr (pn - po) ⟨by omega, by omega⟩, wr (qn - qo) ⟨by omega, by omega⟩] at h
  exact h

/-- The same over plain integers. -/
def LStep (same : Prop) (P pn po Q qn qo Q' P' : Int) : Prop :=
  (¬ same ∧ Q' = Q ∧ P' = P) ∨ (same ∧ Q - pn > P ∧ Q' = Q - (pn - po) ∧ P' = P) ∨ (same ∧ ¬ Q - pn > P ∧ P - qo > Q ∧ Q' = Q ∧ P' = P + (qn - qo))
theorem w_id (x : Int) (h : 0 ≤ x ∧ x ≤ 9223372036854775807) : W64 x = x := wr x ⟨by omega, by omega⟩
theorem w_ex (x y : Int) (h : x = W64 y) (h0 : 0 ≤ x) (h1 : 0 ≤ y) (h2 : y ≤ 9223372036854776807) : x = y := by
  obtain ⟨k, hk, h3, h4⟩ := wk y
  omega
/-- Each place behind it, as it is but for its range. -/
theorem Step.lin {same : Prop} {P pn po Q qn qo Q' P' : Int} (h : Step same P pn po Q qn qo Q' P') (hP : 0 ≤ P ∧ P ≤ 9223372036854775807) (hQ : 0 ≤ Q ∧ Q ≤ 9223372036854775807) (l1 : 0 ≤ pn ∧ pn ≤ 60) (l2 : 0 ≤ po ∧ po ≤ 60) (l3 : 0 ≤ qn ∧ qn ≤ 60) (l4 : 0 ≤ qo ∧ qo ≤ 60) :
    ∃ q p : Int, LStep same P pn po Q qn qo q p ∧ Q' = W64 q ∧ P' = W64 p ∧ (0 ≤ Q' → Q' = q) ∧ (0 ≤ P' → P' = p) := by
  rcases h.plain hP hQ l1 l2 l3 l4 with ⟨a, rfl, rfl⟩ | ⟨a, b, c, rfl⟩ | ⟨a, b, c, rfl, d⟩
  · exact ⟨_, _, .inl ⟨a, rfl, rfl⟩, (w_id _ hQ).symm, (w_id _ hP).symm, fun _ => rfl, fun _ => rfl⟩
  · exact ⟨_, _, .inr (.inl ⟨a, b, rfl, rfl⟩), c, (w_id _ hP).symm, fun h0 => w_ex _ _ c h0 (by omega) (by omega), fun _ => rfl⟩
  · exact ⟨_, _, .inr (.inr ⟨a, b, c, rfl, rfl⟩), (w_id _ hQ).symm, d, fun _ => rfl, fun h0 => w_ex _ _ d h0 (by omega) (by omega)⟩

set_option maxHeartbeats 4000000 in
theorem three_same (P pn po Q qn qo R rn ro Q1 P1 R1 P2 R2 Q2 S1 T1 S2 T2 U1 U2 : Int)
    (lp : 0 ≤ pn) (lp' : 0 ≤ po) (lq : 0 ≤ qn) (lq' : 0 ≤ qo) (lr : 0 ≤ rn) (lr' : 0 ≤ ro)
    (h1 : (Q - pn > P ∧ Q1 = Q - (pn - po) ∧ P1 = P) ∨ (¬ Q - pn > P ∧ P - qo > Q ∧ Q1 = Q ∧ P1 = P + (qn - qo)))
    (h2 : (R - pn > P1 ∧ R1 = R - (pn - po) ∧ P2 = P1) ∨ (¬ R - pn > P1 ∧ P1 - ro > R ∧ R1 = R ∧ P2 = P1 + (rn - ro)))
    (h3 : (R1 - qn > Q1 ∧ R2 = R1 - (qn - qo) ∧ Q2 = Q1) ∨ (¬ R1 - qn > Q1 ∧ Q1 - ro > R1 ∧ R2 = R1 ∧ Q2 = Q1 + (rn - ro)))
    (h4 : (R - qn > Q ∧ S1 = R - (qn - qo) ∧ T1 = Q) ∨ (¬ R - qn > Q ∧ Q - ro > R ∧ S1 = R ∧ T1 = Q + (rn - ro)))
    (h5 : (S1 - pn > P ∧ S2 = S1 - (pn - po) ∧ T2 = P) ∨ (¬ S1 - pn > P ∧ P - ro > S1 ∧ S2 = S1 ∧ T2 = P + (rn - ro)))
    (h6 : (T1 - pn > T2 ∧ U1 = T1 - (pn - po) ∧ U2 = T2) ∨ (¬ T1 - pn > T2 ∧ T2 - qo > T1 ∧ U1 = T1 ∧ U2 = T2 + (qn - qo))) : R2 = S2 ∧ Q2 = U1 ∧ P2 = U2 := by
  rcases h1 with ⟨a1, rfl, rfl⟩ | ⟨a1, b1, rfl, rfl⟩ <;> rcases h2 with ⟨a2, rfl, rfl⟩ | ⟨a2, b2, rfl, rfl⟩ <;> rcases h3 with ⟨a3, rfl, rfl⟩ | ⟨a3, b3, rfl, rfl⟩ <;>
  rcases h4 with ⟨a4, rfl, rfl⟩ | ⟨a4, b4, rfl, rfl⟩ <;> rcases h5 with ⟨a5, rfl, rfl⟩ | ⟨a5, b5, rfl, rfl⟩ <;> rcases h6 with ⟨a6, rfl, rfl⟩ | ⟨a6, b6, rfl, rfl⟩
  all_goals omega

theorem three_int (spq spr sqr : Prop) (t1 : spq → spr → sqr) (t2 : spq → sqr → spr) (t3 : spr → sqr → spq) (P pn po Q qn qo R rn ro Q1 P1 R1 P2 R2 Q2 S1 T1 S2 T2 U1 U2 : Int)
    (lp : 0 ≤ pn ∧ pn ≤ 60) (lp' : 0 ≤ po ∧ po ≤ 60) (lq : 0 ≤ qn ∧ qn ≤ 60) (lq' : 0 ≤ qo ∧ qo ≤ 60) (lr : 0 ≤ rn ∧ rn ≤ 60) (lr' : 0 ≤ ro ∧ ro ≤ 60)
    (hP : 0 ≤ P ∧ P ≤ 9223372036854775807) (hQ : 0 ≤ Q ∧ Q ≤ 9223372036854775807) (hR : 0 ≤ R ∧ R ≤ 9223372036854775807) (hQ1 : 0 ≤ Q1 ∧ Q1 ≤ 9223372036854775807) (hP1 : 0 ≤ P1 ∧ P1 ≤ 9223372036854775807)
    (hR1 : 0 ≤ R1 ∧ R1 ≤ 9223372036854775807) (hS1 : 0 ≤ S1 ∧ S1 ≤ 9223372036854775807) (hT1 : 0 ≤ T1 ∧ T1 ≤ 9223372036854775807) (hT2 : 0 ≤ T2 ∧ T2 ≤ 9223372036854775807)
    (h1 : Step spq P pn po Q qn qo Q1 P1) (h2 : Step spr P1 pn po R rn ro R1 P2) (h3 : Step sqr Q1 qn qo R1 rn ro R2 Q2)
    (h4 : Step sqr Q qn qo R rn ro S1 T1) (h5 : Step spr P pn po S1 rn ro S2 T2) (h6 : Step spq T2 pn po T1 qn qo U1 U2) : R2 = S2 ∧ Q2 = U1 ∧ P2 = U2 := by
  obtain ⟨q1, p1, g1, _, _, x1, y1⟩ := h1.lin hP hQ lp lp' lq lq'
  obtain ⟨r1, p2, g2, _, z2, x2, _⟩ := h2.lin hP1 hR lp lp' lr lr'
  obtain ⟨r2, q2, g3, z3, w3, _, _⟩ := h3.lin hQ1 hR1 lq lq' lr lr'
  obtain ⟨s1, u1, g4, _, _, x4, y4⟩ := h4.lin hQ hR lq lq' lr lr'
  obtain ⟨s2, u2, g5, z5, _, _, y5⟩ := h5.lin hP hS1 lp lp' lr lr'
  obtain ⟨v1, v2, g6, z6, w6, _, _⟩ := h6.lin hT2 hT1 lp lp' lq lq'
  obtain rfl := x1 hQ1.1
  obtain rfl := y1 hP1.1
  obtain rfl := x2 hR1.1
  obtain rfl := x4 hS1.1
  obtain rfl := y4 hT1.1
  obtain rfl := y5 hT2.1
  have key : r2 = s2 ∧ q2 = v1 ∧ p2 = v2 := by
    unfold LStep at g1 g2 g3 g4 g5 g6
    by_cases c1 : spq
    · by_cases c2 : spr
      · have c3 := t1 c1 c2
        simp only [c1, c2, c3, not_true_eq_false, false_and, true_and, false_or] at g1 g2 g3 g4 g5 g6
        exact three_same _ _ _ _ _ _ _ _ _ _ _ _ _ _ _ _ _ _ _ _ _ lp.1 lp'.1 lq.1 lq'.1 lr.1 lr'.1 g1 g2 g3 g4 g5 g6
      · have c3 : ¬ sqr := fun h => c2 (t2 c1 h)
        simp only [c1, c2, c3, not_true_eq_false, not_false_eq_true, false_and, true_and, false_or, or_false] at g1 g2 g3 g4 g5 g6
        clear h1 h2 h3 h4 h5 h6
        omega
    · by_cases c2 : spr
      · have c3 : ¬ sqr := fun h => c1 (t3 c2 h)
        simp only [c1, c2, c3, not_true_eq_false, not_false_eq_true, false_and, true_and, false_or, or_false] at g1 g2 g3 g4 g5 g6
        clear h1 h2 h3 h4 h5 h6
        omega
      · by_cases c3 : sqr
        · simp only [c1, c2, c3, not_true_eq_false, not_false_eq_true, false_and, true_and, false_or, or_false] at g1 g2 g3 g4 g5 g6
          clear h1 h2 h3 h4 h5 h6
          omega
        · simp only [c1, c2, c3, not_true_eq_false, not_false_eq_true, false_and, true_and, false_or, or_false] at g1 g2 g3 g4 g5 g6
          clear h1 h2 h3 h4 h5 h6
          omega
  obtain ⟨rfl, rfl, rfl⟩ := key
  exact ⟨by rw [z3, z5], by rw [w3, z6], by rw [z2, w6]⟩

end Go.Proofs.YtokecnkjgoghhaaDoor.Sp
end
section
/- The law CommuteThree as plain Lean: it answers true. Conditions: lengths and numbers are those of the machine. -/
set_option linter.unusedVariables false
set_option linter.unusedSimpArgs false
namespace Go.Proofs.YtokecnkjgoghhaaDoor.Sp
open Go Go.Proofs.YtokecnkjgoghhaaDoor.Ab Go.Proofs.YtokecnkjgoghhaaDoor.Tb Go.Proofs.YtokecnkjgoghhaaDoor.EText

theorem setAt_same (p : Prm) : setAt p p.2.2.2.1 = p := rfl
theorem apart_same {p q : Prm} (h1 : chk p = 0) (h2 : chk q = 0) (k1 : p.1 = 6) (k2 : q.1 = 6) (hs : p.2.1 = q.2.1) : apartB p q = false := by
  have e1 : touchesL p = [p.2.1] := by unfold touchesL; simp [h1, k1]
  have e2 : touchesL q = [q.2.1] := by unfold touchesL; simp [h2, k2]
  unfold apartB
  rw [e1, e2]
  simp [hs]
theorem pair_hunks {p q : Prm} (k1 : p.1 = 6) (k2 : q.1 = 6) (h : (pairC p q).2.2 = 0) : chk p = 0 ∧ chk q = 0 ∧ ∃ Q' P' : Int, (pairC p q).1 = setAt q Q' ∧ (pairC p q).2.1 = setAt p P' ∧
    Step (p.2.1 = q.2.1) p.2.2.2.1 p.2.2.2.2.2.length p.2.2.2.2.1.length q.2.2.2.1 q.2.2.2.2.2.length q.2.2.2.2.1.length Q' P' := by
  by_cases h1 : chk p = 0
  · by_cases h2 : chk q = 0
    · refine ⟨h1, h2, ?_⟩
      by_cases hs : p.2.1 = q.2.1
      · by_cases d1 : W64 (q.2.2.2.1 - p.2.2.2.2.2.length) > p.2.2.2.1
        · have e : shiftP p q = (setAt q (W64 (q.2.2.2.1 - W64 (p.2.2.2.2.2.length - p.2.2.2.2.1.length))), p, true) := by
            unfold shiftP; rw [if_pos ⟨k1, k2, hs, h1, h2⟩, if_pos d1]
          unfold pairC
          rw [if_neg (by simp [h1]), if_neg (by simp [h2]), e, if_pos rfl]
          exact ⟨_, _, rfl, (setAt_same p).symm, .inr (.inl ⟨hs, d1, rfl, rfl⟩)⟩
        · by_cases d2 : W64 (p.2.2.2.1 - q.2.2.2.2.1.length) > q.2.2.2.1
          · have e : shiftP p q = (q, setAt p (W64 (p.2.2.2.1 + W64 (q.2.2.2.2.2.length - q.2.2.2.2.1.length))), true) := by
              unfold shiftP; rw [if_pos ⟨k1, k2, hs, h1, h2⟩, if_neg d1, if_pos d2]
            unfold pairC
            rw [if_neg (by simp [h1]), if_neg (by simp [h2]), e, if_pos rfl]
            exact ⟨_, _, (setAt_same q).symm, rfl, .inr (.inr ⟨hs, d1, d2, rfl, rfl⟩)⟩
          · exfalso
            have e : shiftP p q = (zp, zp, false) := by
              unfold shiftP; rw [if_pos ⟨k1, k2, hs, h1, h2⟩, if_neg d1, if_neg d2]
            unfold pairC at h
            rw [if_neg (by simp [h1]), if_neg (by simp [h2]), e, if_neg (by simp), if_neg (by omega), if_neg (by omega), apart_same h1 h2 k1 k2 hs, if_neg (by simp)] at h
            cases h
      · have e : shiftP p q = (zp, zp, false) := by
          unfold shiftP; rw [if_neg (fun x => hs x.2.2.1)]
        unfold pairC at h ⊢
        rw [if_neg (by simp [h1]), if_neg (by simp [h2]), e, if_neg (by simp), if_neg (by omega), if_neg (by omega)] at h ⊢
        cases ha : apartB p q with
        | true => rw [if_pos rfl]; exact ⟨_, _, (setAt_same q).symm, (setAt_same p).symm, .inl ⟨hs, rfl, rfl⟩⟩
        | false => rw [ha, if_neg (by simp)] at h; cases h
    · exfalso; unfold pairC at h; rw [if_neg (by simp [h1]), if_pos h2] at h; exact h2 h
  · exfalso; unfold pairC at h; rw [if_pos h1] at h; exact h1 h

theorem Md.zp : Md zp := ⟨by decide, by decide, ⟨by decide, fun s h => by cases h⟩, ⟨by decide, fun s h => by cases h⟩⟩
theorem Md.setAt {p : Prm} (h : Md p) (n : Int) : Md (setAt p n) := ⟨h.path, h.dst, h.old, h.new⟩
theorem shiftP_md {p q : Prm} (hp : Md p) (hq : Md q) : Md (shiftP p q).1 ∧ Md (shiftP p q).2.1 := by
  unfold shiftP
  split
  · split
    · exact ⟨hq.setAt _, hp⟩
    · split
      · exact ⟨hq, hp.setAt _⟩
      · exact ⟨Md.zp, Md.zp⟩
  · exact ⟨Md.zp, Md.zp⟩
theorem pairC_md {p q : Prm} (hp : Md p) (hq : Md q) : Md (pairC p q).1 ∧ Md (pairC p q).2.1 := by
  unfold pairC
  split
  · exact ⟨Md.zp, Md.zp⟩
  · split
    · exact ⟨Md.zp, Md.zp⟩
    · split
      · exact shiftP_md hp hq
      · split
        · exact ⟨⟨hp.path, hq.dst, hq.old, hq.new⟩, hp⟩
        · split
          · exact ⟨hq, ⟨hq.dst, hp.dst, hp.old, hp.new⟩⟩
          · split
            · exact ⟨hq, hp⟩
            · exact ⟨Md.zp, Md.zp⟩

theorem light7_md {l : List Prm} (h : light7 l = true) {p : Prm} (hp : p ∈ l) : Md p := by
  obtain ⟨_, hf⟩ := light7_facts h
  obtain ⟨h1, h2, h3, h4⟩ := hf p hp
  exact ⟨by omega, by omega, ⟨by omega, fun s hs => by have := h3.2 s hs; omega⟩, ⟨by omega, fun s hs => by have := h4.2 s hs; omega⟩⟩
theorem fits_w (n : Int) : fits (W64 n) := by obtain ⟨_, _, h⟩ := wk n; exact h
theorem step_fits {same : Prop} {P pn po Q qn qo Q' P' : Int} (h : Step same P pn po Q qn qo Q' P') (hP : fits P) (hQ : fits Q) : fits Q' ∧ fits P' := by
  rcases h with ⟨_, rfl, rfl⟩ | ⟨_, _, rfl, rfl⟩ | ⟨_, _, _, rfl, rfl⟩
  · exact ⟨hQ, hP⟩
  · exact ⟨fits_w _, hP⟩
  · exact ⟨hQ, fits_w _⟩
/-- The six calls of the law. -/
theorem three_plain (p q r : Prm) (kp : p.1 = 6) (kq : q.1 = 6) (kr : r.1 = 6) (fp : fits p.2.2.2.1) (fq : fits q.2.2.2.1) (fr : fits r.2.2.2.1)
    (lp : p.2.2.2.2.2.length ≤ 60 ∧ p.2.2.2.2.1.length ≤ 60) (lq : q.2.2.2.2.2.length ≤ 60 ∧ q.2.2.2.2.1.length ≤ 60) (lr : r.2.2.2.2.2.length ≤ 60 ∧ r.2.2.2.2.1.length ≤ 60)
    (h1 : (pairC p q).2.2 = 0) (h2 : (pairC (pairC p q).2.1 r).2.2 = 0) (h3 : (pairC (pairC p q).1 (pairC (pairC p q).2.1 r).1).2.2 = 0)
    (h4 : (pairC q r).2.2 = 0) (h5 : (pairC p (pairC q r).1).2.2 = 0) (h6 : (pairC (pairC p (pairC q r).1).2.1 (pairC q r).2.1).2.2 = 0) :
    ([(pairC (pairC p q).1 (pairC (pairC p q).2.1 r).1).1, (pairC (pairC p q).1 (pairC (pairC p q).2.1 r).1).2.1, (pairC (pairC p q).2.1 r).2.1] : List Prm) =
      [(pairC p (pairC q r).1).1, (pairC (pairC p (pairC q r).1).2.1 (pairC q r).2.1).1, (pairC (pairC p (pairC q r).1).2.1 (pairC q r).2.1).2.1] := by
  obtain ⟨c1, c2, Q1, P1, e1, d1, s1⟩ := pair_hunks kp kq h1
  rw [d1] at h2 h3
  rw [e1] at h3
  obtain ⟨c3, c4, R1, P2, e2, d2, s2⟩ := pair_hunks (p := setAt p P1) (q := r) kp kr h2
  rw [e2] at h3
  obtain ⟨c5, c6, R2, Q2, e3, d3, s3⟩ := pair_hunks (p := setAt q Q1) (q := setAt r R1) kq kr h3
  obtain ⟨_, _, S1, T1, e4, d4, s4⟩ := pair_hunks kq kr h4
  rw [e4] at h5 h6
  obtain ⟨_, c8, S2, T2, e5, d5, s5⟩ := pair_hunks (p := p) (q := setAt r S1) kp kr h5
  rw [d5, d4] at h6
  obtain ⟨c9, c10, U1, U2, e6, d6, s6⟩ := pair_hunks (p := setAt p T2) (q := setAt q T1) kp kq h6
  rw [d1, e1, e2, e4, d5, d4, e3, d3, e5, e6, d6, d2]
  obtain ⟨f1, f2⟩ := step_fits s1 fp fq
  obtain ⟨f3, _⟩ := step_fits s2 f2 fr
  obtain ⟨f4, f5⟩ := step_fits s4 fq fr
  obtain ⟨_, f6⟩ := step_fits s5 fp f4
  have key := three_int (p.2.1 = q.2.1) (p.2.1 = r.2.1) (q.2.1 = r.2.1) (fun a b => a.symm.trans b) (fun a b => a.trans b) (fun a b => a.trans b.symm)
    p.2.2.2.1 p.2.2.2.2.2.length p.2.2.2.2.1.length q.2.2.2.1 q.2.2.2.2.2.length q.2.2.2.2.1.length r.2.2.2.1 r.2.2.2.2.2.length r.2.2.2.2.1.length Q1 P1 R1 P2 R2 Q2 S1 T1 S2 T2 U1 U2
    (by omega) (by omega) (by omega) (by omega) (by omega) (by omega)
    ⟨(chk_hunk c1 kp).1, fp.2⟩ ⟨(chk_hunk c2 kq).1, fq.2⟩ ⟨(chk_hunk c4 kr).1, fr.2⟩ ⟨(chk_hunk c5 kq).1, f1.2⟩ ⟨(chk_hunk c3 kp).1, f2.2⟩ ⟨(chk_hunk c6 kr).1, f3.2⟩ ⟨(chk_hunk c8 kr).1, f4.2⟩ ⟨(chk_hunk c10 kq).1, f5.2⟩ ⟨(chk_hunk c9 kp).1, f6.2⟩
    s1 s2 s3 s4 s5 s6
  obtain ⟨rfl, rfl, rfl⟩ := key
  rfl

theorem commuteThree_true (p q r : Prm) (ap : Arg p) (aq : Arg q) (ar : Arg r) : callW W0 3 [inj ty24 p, inj ty24 q, inj ty24 r] = some (injRs [RT.d .bool] true) := by
  refine callG_step ((e3 p q r).trans ?_)
  have ha : ∀ x ∈ [p, q, r], POk x := fun x hx => by
    simp only [List.mem_cons, List.not_mem_nil, or_false] at hx
    rcases hx with rfl | rfl | rfl
    · exact ap.1
    · exact aq.1
    · exact ar.1
  rw [light7_ok [p, q, r] (by simp [top]) ha, Option.bind_some, awake8_ok]
  cases h : light7 [p, q, r] with
  | false => rw [ifs_neg (by simp)]; rfl
  | true =>
    rw [ifs_pos (by simp)]
    by_cases k1 : p.1 = 6
    · by_cases k2 : q.1 = 6
      · by_cases k3 : r.1 = 6
        · have mp := light7_md h (p := p) (by simp)
          have mq := light7_md h (p := q) (by simp)
          have mr := light7_md h (p := r) (by simp)
          obtain ⟨m1, m2⟩ := pairC_md mp mq
          obtain ⟨m3, m4⟩ := pairC_md m2 mr
          obtain ⟨m5, m6⟩ := pairC_md m1 m3
          obtain ⟨n1, n2⟩ := pairC_md mq mr
          obtain ⟨n3, n4⟩ := pairC_md mp n1
          obtain ⟨n5, n6⟩ := pairC_md n4 n2
          rw [ifs_pos (by simp [k1]), ifs_pos (by simp [k2]), ifs_neg (by simp [k3]), cpair_ok p q mp mq, Option.bind_some, cpair_ok _ r m2 mr, Option.bind_some, cpair_ok _ _ m1 m3, Option.bind_some]
          by_cases h1 : (pairC p q).2.2 = 0
          case neg => rw [ifs_neg (by simp [h1])]; rfl
          by_cases h2 : (pairC (pairC p q).2.1 r).2.2 = 0
          case neg => rw [ifs_pos (by simp [h1]), ifs_neg (by simp [h2])]; rfl
          by_cases h3 : (pairC (pairC p q).1 (pairC (pairC p q).2.1 r).1).2.2 = 0
          case neg => rw [ifs_pos (by simp [h1]), ifs_pos (by simp [h2]), ifs_pos (by simp [h3])]; rfl
          rw [ifs_pos (by simp [h1]), ifs_pos (by simp [h2]), ifs_neg (by simp [h3]), cpair_ok q r mq mr, Option.bind_some, cpair_ok p _ mp n1, Option.bind_some, cpair_ok _ _ n4 n2, Option.bind_some]
          by_cases h4 : (pairC q r).2.2 = 0
          case neg => rw [ifs_neg (by simp [h4])]; rfl
          by_cases h5 : (pairC p (pairC q r).1).2.2 = 0
          case neg => rw [ifs_pos (by simp [h4]), ifs_neg (by simp [h5])]; rfl
          by_cases h6 : (pairC (pairC p (pairC q r).1).2.1 (pairC q r).2.1).2.2 = 0
          case neg => rw [ifs_pos (by simp [h4]), ifs_pos (by simp [h5]), ifs_pos (by simp [h6])]; rfl
          rw [ifs_pos (by simp [h4]), ifs_pos (by simp [h5]), ifs_neg (by simp [h6]), Option.bind_some, ifs_pos rfl]
          obtain ⟨_, hf⟩ := light7_facts h
          obtain ⟨_, _, p1, p2⟩ := hf p (by simp)
          obtain ⟨_, _, q1, q2⟩ := hf q (by simp)
          obtain ⟨_, _, r1, r2⟩ := hf r (by simp)
          rw [same7_ok _ _ (by simp [top]) (fun x hx => by
            simp only [List.mem_cons, List.not_mem_nil, or_false] at hx
            rcases hx with rfl | rfl | rfl
            · exact m5.pok
            · exact m6.pok
            · exact m4.pok), Option.bind_some, decide_eq_true (three_plain p q r k1 k2 k3 ap.2 aq.2 ar.2 ⟨p2.1, p1.1⟩ ⟨q2.1, q1.1⟩ ⟨r2.1, r1.1⟩ h1 h2 h3 h4 h5 h6)]
        · rw [ifs_pos (by simp [k1]), ifs_pos (by simp [k2]), ifs_pos (by simp [k3])]; rfl
      · rw [ifs_pos (by simp [k1]), ifs_neg (by simp [k2])]; rfl
    · rw [ifs_neg (by simp [k1])]; rfl

end Go.Proofs.YtokecnkjgoghhaaDoor.Sp
end
section
/- What the functions of seq come to, in plain words. Conditions: lengths as they stand in each statement. -/
set_option linter.unusedVariables false
set_option linter.unusedSimpArgs false
namespace Go.Proofs.YtokecnkjgoghhaaDoor.Sp
open Go Go.Proofs.YtokecnkjgoghhaaDoor.Ab Go.Proofs.YtokecnkjgoghhaaDoor.Tb Go.Proofs.YtokecnkjgoghhaaDoor.EText

/-- A step passes a row. -/
def pastG : List Prm → Prm → List Prm → List Prm × Prm × Int
  | acc, p, [] => (acc, p, 0)
  | acc, p, q :: l => if (pairC p q).2.2 ≠ 0 then ([], zp, (pairC p q).2.2) else pastG (acc ++ [(pairC p q).1]) (pairC p q).2.1 l
def pastP (p : Prm) (l : List Prm) : List Prm × Prm × Int := pastG [] p l

/-- The reference's pair is the program's. -/
def H8 : Prop := ∀ p q : Prm, Md p → Md q → cR 57 [RT.d ty24, RT.d ty24, RT.d (.int .i64)] [inj ty24 p, inj ty24 q] = some (pairC p q)

theorem past_loop (l : List Prm) (hl : l.length ≤ 100000) (hm : ∀ q ∈ l, Md q) : ∀ i : Nat, i ≤ l.length → ∀ (p : Prm) (acc : List Prm), Md p → acc.length ≤ i →
    l49_3 l l.length i p.1 p.2.1 p.2.2.1 p.2.2.2.1 p.2.2.2.2.1 p.2.2.2.2.2 0 zt zt 0 acc = some (injRs [RT.own 24 ty24, RT.d ty24, RT.d (.int .i64)] (pastG acc p (l.drop i))) := by
  refine upTo (fun i hi ih => ?_) ?_
  · intro p acc hp ha
    refine cutG_step ((q49_3 ..).trans ?_)
    have hq : Md l[i] := hm _ (List.getElem_mem hi)
    have e1 : cR 12 [RT.d ty24, RT.d ty24, RT.d (.int .i64)] [inj ty24 (p.1, p.2.1, p.2.2.1, p.2.2.2.1, p.2.2.2.2.1, p.2.2.2.2.2), inj ty24 l[i]] = some (pairC p l[i]) := cpair_ok p l[i] hp hq
    rw [ifs_pos (by simpa using hi), ifs_pos (by omega), Int.toNat_natCast, List.getElem?_eq_getElem hi, Option.bind_some, e1, Option.bind_some, List.drop_eq_getElem_cons hi]
    unfold pastG
    by_cases h : (pairC p l[i]).2.2 = 0
    · rw [ifs_neg (by simp [h]), ifs_pos (by omega), List.take_length, wrS hi (by simp only [top]; omega), if_neg (by simp [h])]
      exact ih _ _ (pairC_md hp hq).2 (by simp; omega)
    · rw [ifs_pos (by simp [h]), if_pos h]
  · intro p acc hp ha
    refine cutG_step ((q49_3 ..).trans ?_)
    rw [ifs_neg (by simp), List.take_length, List.drop_length]
    rfl
theorem past_ok (p : Prm) (l : List Prm) (hp : Md p) (hl : l.length ≤ 100000) (hm : ∀ q ∈ l, Md q) : cR 49 [RT.own 24 ty24, RT.d ty24, RT.d (.int .i64)] [inj ty24 p, inj (.sl ty24) l] = some (pastP p l) :=
  callT_of ((e49 p l).trans (past_loop l hl hm 0 (Nat.zero_le _) p [] hp (Nat.zero_le _)))

theorem past10_loop (h8 : H8) (l : List Prm) (hl : l.length ≤ 100000) (hm : ∀ q ∈ l, Md q) : ∀ i : Nat, i ≤ l.length → ∀ (p : Prm) (acc : List Prm), Md p → acc.length ≤ i →
    l50_3 l i p.1 p.2.1 p.2.2.1 p.2.2.2.1 p.2.2.2.2.1 p.2.2.2.2.2 0 zt zt 0 acc = some (injRs [RT.own 24 ty24, RT.d ty24, RT.d (.int .i64)] (pastG acc p (l.drop i))) := by
  refine upTo (fun i hi ih => ?_) ?_
  · intro p acc hp ha
    refine cutG_step ((q50_3 ..).trans ?_)
    have hq : Md l[i] := hm _ (List.getElem_mem hi)
    have e1 : cR 57 [RT.d ty24, RT.d ty24, RT.d (.int .i64)] [inj ty24 (p.1, p.2.1, p.2.2.1, p.2.2.2.1, p.2.2.2.2.1, p.2.2.2.2.2), inj ty24 l[i]] = some (pairC p l[i]) := h8 p l[i] hp hq
    rw [ifs_pos (by simpa using hi), ifs_pos (by omega), Int.toNat_natCast, List.getElem?_eq_getElem hi, Option.bind_some, e1, Option.bind_some, List.drop_eq_getElem_cons hi]
    unfold pastG
    by_cases h : (pairC p l[i]).2.2 = 0
    · rw [ifs_neg (by simp [h]), ifs_pos (by omega), List.take_length, wrS hi (by simp only [top]; omega), if_neg (by simp [h])]
      exact ih _ _ (pairC_md hp hq).2 (by simp; omega)
    · rw [ifs_pos (by simp [h]), if_pos h]
  · intro p acc hp ha
    refine cutG_step ((q50_3 ..).trans ?_)
    rw [ifs_neg (by simp), List.take_length, List.drop_length]
    rfl
theorem past10_ok (h8 : H8) (p : Prm) (l : List Prm) (hp : Md p) (hl : l.length ≤ 100000) (hm : ∀ q ∈ l, Md q) : cR 50 [RT.own 24 ty24, RT.d ty24, RT.d (.int .i64)] [inj ty24 p, inj (.sl ty24) l] = some (pastP p l) :=
  callT_of ((e50 p l).trans (past10_loop h8 l hl hm 0 (Nat.zero_le _) p [] hp (Nat.zero_le _)))

theorem pastG_md : ∀ (l : List Prm) (acc : List Prm) (p : Prm), Md p → (∀ q ∈ acc, Md q) → (∀ q ∈ l, Md q) → (∀ q ∈ (pastG acc p l).1, Md q) ∧ Md (pastG acc p l).2.1 ∧ (pastG acc p l).1.length ≤ acc.length + l.length
  | [], acc, p, hp, ha, hl => ⟨ha, hp, by simp [pastG]⟩
  | q :: l, acc, p, hp, ha, hl => by
    unfold pastG
    have hq : Md q := hl q (by simp)
    split
    · exact ⟨fun q h => (by cases h), Md.zp, by simp⟩
    · obtain ⟨h1, h2, h3⟩ := pastG_md l (acc ++ [(pairC p q).1]) (pairC p q).2.1 (pairC_md hp hq).2 (fun x hx => by
        rcases List.mem_append.1 hx with hx | hx
        · exact ha x hx
        · rw [List.mem_singleton.1 hx]; exact (pairC_md hp hq).1) (fun x hx => hl x (List.mem_cons_of_mem _ hx))
      exact ⟨h1, h2, by simp at h3 ⊢; omega⟩
theorem pastP_md (p : Prm) (l : List Prm) (hp : Md p) (hl : ∀ q ∈ l, Md q) : (∀ q ∈ (pastP p l).1, Md q) ∧ Md (pastP p l).2.1 ∧ (pastP p l).1.length ≤ l.length := by
  obtain ⟨h1, h2, h3⟩ := pastG_md l [] p hp (fun q h => by cases h) hl
  exact ⟨h1, h2, by simpa [pastP] using h3⟩

/-- Rows change places: the first row's last step first. -/
def rowsG : List Prm → List Prm → List Prm → List Prm × List Prm × Int
  | [], ahead, behind => (ahead, behind, 0)
  | p :: l, ahead, behind => if (pastP p ahead).2.2 ≠ 0 then ([], [], (pastP p ahead).2.2) else rowsG l (pastP p ahead).1 ((pastP p ahead).2.1 :: behind)
def rowsP (a b : List Prm) : List Prm × List Prm × Int := rowsG a.reverse b []

theorem wrP {i : Nat} (hi : i ≤ 1000000) : IntKind.i64.wrap ((i : Int) - 1) = (i : Int) - 1 := wr _ (by omega)
theorem rev_take {α : Type} (l : List α) {i : Nat} (hi : i < l.length) : (l.take (i + 1)).reverse = l[i] :: (l.take i).reverse := by
  rw [List.take_succ_eq_append_getElem hi, List.reverse_append]; rfl

theorem rows_loop (a : List Prm) (ha : a.length ≤ 1000) (hm : ∀ q ∈ a, Md q) : ∀ i : Nat, i ≤ a.length → ∀ (x y : List Prm), x.length ≤ 1000 → y.length ≤ a.length - i → (∀ q ∈ x, Md q) →
    l45_3 a ((i : Int) - 1) x y = some (injRs [RT.d (.sl ty24), RT.own 24 ty24, RT.d (.int .i64)] (rowsG (a.take i).reverse x y)) := by
  intro i
  induction i with
  | zero =>
    intro hi x y hx hy hxm
    refine cutG_step ((q45_3 ..).trans ?_)
    rw [ifs_neg (by simp), List.take_length, List.take_length]
    rfl
  | succ i ih =>
    intro hi x y hx hy hxm
    refine cutG_step ((q45_3 ..).trans ?_)
    have e0 : ((i + 1 : Nat) : Int) - 1 = (i : Int) := by omega
    have hq : Md a[i] := hm _ (List.getElem_mem hi)
    obtain ⟨m1, m2, m3⟩ := pastP_md a[i] x hq hxm
    rw [e0, ifs_pos (by simp), ifs_pos (by omega), Int.toNat_natCast, List.getElem?_eq_getElem hi, Option.bind_some, List.take_length, past_ok a[i] x hq (by omega) hxm, Option.bind_some, rev_take a hi]
    unfold rowsG
    by_cases h : (pastP a[i] x).2.2 = 0
    · rw [ifs_neg (by simp [h]), List.take_length, ifs_pos (by omega), wrP (by omega), if_neg (by simp [h])]
      exact ih (by omega) _ _ (by omega) (by simp; omega) m1
    · rw [ifs_pos (by simp [h]), if_pos h]
theorem rows_ok (a b : List Prm) (ha : a.length ≤ 1000) (hb : b.length ≤ 1000) (hm : ∀ q ∈ a, Md q) (hn : ∀ q ∈ b, Md q) :
    cR 45 [RT.d (.sl ty24), RT.own 24 ty24, RT.d (.int .i64)] [inj (.sl ty24) a, inj (.sl ty24) b] = some (rowsP a b) := by
  refine callT_of ((e45 a b).trans ?_)
  have hc : cR 102 [RT.own 24 ty24] [inj (.sl ty24) b] = some b := by
    refine callT_of ?_
    show (if b.length * 96 ≤ 140737488355328 then some [RV.own 24 Cl.tyP b] else none) = _
    rw [if_pos (by omega)]; rfl
  rw [hc, Option.bind_some, wrP (by omega)]
  have := rows_loop a ha hm a.length (Nat.le_refl _) b [] hb (Nat.zero_le _) hn
  rw [List.take_length] at this
  exact this

theorem rows10_loop (h8 : H8) (a : List Prm) (ha : a.length ≤ 1000) (hm : ∀ q ∈ a, Md q) : ∀ i : Nat, i ≤ a.length → ∀ (x y : List Prm), x.length ≤ 1000 → y.length ≤ a.length - i → (∀ q ∈ x, Md q) →
    l46_3v1 a ((i : Int) - 1) x y = some (injRs [RT.d (.sl ty24), RT.own 24 ty24, RT.d (.int .i64)] (rowsG (a.take i).reverse x y)) := by
  intro i
  induction i with
  | zero =>
    intro hi x y hx hy hxm
    refine cutG_step ((q46_3v1 ..).trans ?_)
    rw [ifs_neg (by simp), List.take_length, List.take_length]
    rfl
  | succ i ih =>
    intro hi x y hx hy hxm
    refine cutG_step ((q46_3v1 ..).trans ?_)
    have e0 : ((i + 1 : Nat) : Int) - 1 = (i : Int) := by omega
    have hq : Md a[i] := hm _ (List.getElem_mem hi)
    obtain ⟨m1, m2, m3⟩ := pastP_md a[i] x hq hxm
    rw [e0, ifs_pos (by simp), ifs_pos (by omega), Int.toNat_natCast, List.getElem?_eq_getElem hi, Option.bind_some, List.take_length, past10_ok h8 a[i] x hq (by omega) hxm, Option.bind_some, rev_take a hi]
    unfold rowsG
    by_cases h : (pastP a[i] x).2.2 = 0
    · rw [ifs_neg (by simp [h]), List.take_length, ifs_pos (by omega), wrP (by omega), if_neg (by simp [h])]
      exact ih (by omega) _ _ (by omega) (by simp; omega) m1
    · rw [ifs_pos (by simp [h]), if_pos h]

theorem rows10_ok (h8 : H8) (a b : List Prm) (ha : a.length ≤ 1000) (hb : b.length ≤ 1000) (hm : ∀ q ∈ a, Md q) (hn : ∀ q ∈ b, Md q) :
    cR 46 [RT.d (.sl ty24), RT.own 24 ty24, RT.d (.int .i64)] [inj (.sl ty24) a, inj (.sl ty24) b] = some (rowsP a b) := by
  refine callT_of ((e46 a b).trans ?_)
  rw [wrP (by omega)]
  refine cutG_step ((q46_3 ..).trans ?_)
  rcases Nat.eq_zero_or_pos a.length with h0 | h0
  · rw [h0, ifs_neg (by simp)]
    rw [List.eq_nil_of_length_eq_zero h0]
    rfl
  · obtain ⟨i, hi⟩ : ∃ i, a.length = i + 1 := ⟨a.length - 1, by omega⟩
    have hlt : i < a.length := by omega
    have e0 : (a.length : Int) - 1 = (i : Int) := by omega
    have hq : Md a[i] := hm _ (List.getElem_mem hlt)
    obtain ⟨m1, m2, m3⟩ := pastP_md a[i] b hq hn
    have hr : a.reverse = a[i] :: (a.take i).reverse := by rw [← rev_take a hlt, ← hi, List.take_length]
    rw [e0, ifs_pos (by simp), ifs_pos (by omega), Int.toNat_natCast, List.getElem?_eq_getElem hlt, Option.bind_some, past10_ok h8 a[i] b hq (by omega) hn, Option.bind_some]
    unfold rowsP
    rw [hr]
    unfold rowsG
    by_cases h : (pastP a[i] b).2.2 = 0
    · rw [ifs_neg (by simp [h]), ifs_pos (by simp), wrP (by omega), if_neg (by simp [h])]
      exact rows10_loop h8 a ha hm i (by omega) _ _ (by omega) (by simp; omega) m1
    · rw [ifs_pos (by simp [h]), if_pos h]

end Go.Proofs.YtokecnkjgoghhaaDoor.Sp
end
section
/- What seq.Swap and seq.Front come to, and the reference's front. Conditions: lengths as they stand in each statement. -/
set_option linter.unusedVariables false
set_option linter.unusedSimpArgs false
namespace Go.Proofs.YtokecnkjgoghhaaDoor.Sp
open Go Go.Proofs.YtokecnkjgoghhaaDoor.Ab Go.Proofs.YtokecnkjgoghhaaDoor.Tb Go.Proofs.YtokecnkjgoghhaaDoor.EText

theorem cloneP_ok (b : List Prm) (hb : b.length ≤ 1000) : cR 102 [RT.own 24 ty24] [inj (.sl ty24) b] = some b := by
  refine callT_of ?_
  show (if b.length * 96 ≤ 140737488355328 then some [RV.own 24 Cl.tyP b] else none) = _
  rw [if_pos (by omega)]; rfl

theorem set_pre {α : Type} (x y : α) (r : List α) : ∀ pre : List α, (pre ++ x :: r).set pre.length y = pre ++ y :: r
  | [] => rfl
  | a :: pre => by simp [set_pre x y r pre]
theorem set_pre1 {α : Type} (a x y : α) (r : List α) : ∀ pre : List α, (pre ++ a :: x :: r).set (pre.length + 1) y = pre ++ a :: y :: r
  | [] => rfl
  | b :: pre => by simp [set_pre1 a x y r pre]

/-- Neighbours behind 'pre' change places. -/
def swapR (pre : List Prm) (p q : Prm) (rest : List Prm) : List Prm × Int :=
  if (pairC p q).2.2 ≠ 0 then ([], (pairC p q).2.2) else (pre ++ (pairC p q).1 :: (pairC p q).2.1 :: rest, 0)
theorem swap_in (pre : List Prm) (p q : Prm) (rest : List Prm) (hp : Md p) (hq : Md q) (hl : (pre ++ p :: q :: rest).length ≤ 1000) :
    cR 54 [RT.own 24 ty24, RT.d (.int .i64)] [inj (.sl ty24) (pre ++ p :: q :: rest), inj (.int .i64) (pre.length : Int)] = some (swapR pre p q rest) := by
  refine callT_of ((e54 _ _).trans ?_)
  simp only [List.length_append, List.length_cons] at hl
  have g0 : (pre ++ p :: q :: rest)[pre.length]? = some p := by simp
  have g1 : (pre ++ p :: q :: rest)[pre.length + 1]? = some q := by rw [List.getElem?_append_right (by omega)]; simp
  have w1 : IntKind.i64.wrap ((pre.length : Int) + 1) = ((pre.length + 1 : Nat) : Int) := by rw [wr _ (by omega)]; omega
  have w2 : IntKind.i64.wrap (((pre ++ p :: q :: rest).length : Int) - 1) = ((pre ++ p :: q :: rest).length : Int) - 1 := wr _ (by simp only [List.length_append, List.length_cons]; omega)
  have hn : ((pre ++ p :: q :: rest).length : Int) = pre.length + rest.length + 2 := by simp only [List.length_append, List.length_cons]; omega
  rw [ifs_pos (by simp), w2, ifs_neg (by simp only [decide_eq_true_eq]; omega), ifs_pos (by omega), Int.toNat_natCast, g0, Option.bind_some, w1, ifs_pos (by omega), Int.toNat_natCast, g1, Option.bind_some, cpair_ok p q hp hq, Option.bind_some]
  unfold swapR
  by_cases h : (pairC p q).2.2 = 0
  · rw [ifs_neg (by simp [h]), cloneP_ok _ (by simp only [List.length_append, List.length_cons]; omega), Option.bind_some, ifs_pos (by omega), g0, Option.bind_some, ifs_pos (by omega)]
    have s1 : (pre ++ p :: q :: rest).set pre.length (pairC p q).1 = pre ++ (pairC p q).1 :: q :: rest := set_pre _ _ _ _
    have s2 : (pre ++ (pairC p q).1 :: q :: rest).set (pre.length + 1) (pairC p q).2.1 = pre ++ (pairC p q).1 :: (pairC p q).2.1 :: rest := set_pre1 _ _ _ _ _
    have g2 : (pre ++ (pairC p q).1 :: q :: rest)[pre.length + 1]? = some q := by rw [List.getElem?_append_right (by omega)]; simp
    rw [s1, g2, Option.bind_some, s2, List.take_of_length_le (by simp), if_neg (by simp [h])]
  · rw [ifs_pos (by simp [h]), if_pos h]

/-- A step comes to the front of those ahead of it, told from the last one on. -/
def frontR : List Prm → Prm → List Prm → List Prm × Int
  | [], one, rest => (one :: rest, 0)
  | p :: l, one, rest => if (pairC p one).2.2 ≠ 0 then ([], (pairC p one).2.2) else frontR l (pairC p one).1 ((pairC p one).2.1 :: rest)
def frontP (l : List Prm) (i : Int) : List Prm × Int :=
  if i < 0 then ([], 3) else match l[i.toNat]? with
    | some one => frontR (l.take i.toNat).reverse one (l.drop (i.toNat + 1))
    | none => ([], 3)

theorem front_loop : ∀ (n : Nat) (pre : List Prm) (one : Prm) (rest : List Prm), pre.length = n → (∀ q ∈ pre, Md q) → Md one → (pre ++ one :: rest).length ≤ 1000 →
    l47_4 (n : Int) (pre ++ one :: rest) = some (injRs [RT.d (.sl ty24), RT.d (.int .i64)] (frontR pre.reverse one rest)) := by
  intro n
  induction n with
  | zero =>
    intro pre one rest h hm ho hl
    obtain rfl := List.eq_nil_of_length_eq_zero h
    refine cutG_step ((q47_4 ..).trans ?_)
    rw [ifs_neg (by simp), List.take_length]
    rfl
  | succ n ih =>
    intro pre one rest h hm ho hl
    obtain ⟨pre', p, rfl⟩ : ∃ pre' p, pre = pre' ++ [p] := by
      rcases List.eq_nil_or_concat pre with h0 | ⟨a, b, hb⟩
      · rw [h0] at h; cases h
      · exact ⟨a, b, by simpa using hb⟩
    have h' : pre'.length = n := by simpa using h
    have hp : Md p := hm p (by simp)
    have e0 : pre' ++ [p] ++ one :: rest = pre' ++ p :: one :: rest := by simp
    rw [e0] at hl ⊢
    refine cutG_step ((q47_4 ..).trans ?_)
    have w1 : IntKind.i64.wrap (((n + 1 : Nat) : Int) - 1) = (pre'.length : Int) := by
      simp only [List.length_append, List.length_cons] at hl
      rw [wr _ (by omega)]; omega
    rw [ifs_pos (by simp), List.take_length, w1, swap_in pre' p one rest hp ho hl, Option.bind_some, List.reverse_append]
    show _ = some (injRs [RT.d (.sl ty24), RT.d (.int .i64)] (frontR (p :: pre'.reverse) one rest))
    unfold frontR swapR
    by_cases hz : (pairC p one).2.2 = 0
    · rw [if_neg (by simp [hz]), if_neg (by simp [hz]), ifs_neg (by simp), h']
      exact ih pre' _ _ h' (fun q hq => hm q (by simp [hq])) (pairC_md hp ho).1 (by simp only [List.length_append, List.length_cons] at hl ⊢; omega)
    · rw [if_pos hz, if_pos hz, ifs_pos (by simp [hz])]
theorem split_at (l : List Prm) {i : Nat} (hi : i < l.length) : l = l.take i ++ l[i] :: l.drop (i + 1) := by
  rw [← List.drop_eq_getElem_cons hi, List.take_append_drop]
theorem front_ok (l : List Prm) (i : Int) (hi : fits i) (hl : l.length ≤ 1000) (hm : ∀ q ∈ l, Md q) : cR 47 [RT.d (.sl ty24), RT.d (.int .i64)] [inj (.sl ty24) l, inj (.int .i64) i] = some (frontP l i) := by
  refine callT_of ((e47 l i).trans ?_)
  unfold frontP
  by_cases h0 : i < 0
  · rw [ifs_neg (by simp [h0]), if_pos h0]
  · rw [ifs_pos (by simp [h0]), if_neg h0]
    by_cases h1 : i ≥ l.length
    · rw [ifs_pos (by simpa using h1), List.getElem?_eq_none (by omega)]
    · have hlt : i.toNat < l.length := by omega
      rw [ifs_neg (by simpa using h1), cloneP_ok l hl, Option.bind_some, List.getElem?_eq_getElem hlt]
      have := front_loop i.toNat (l.take i.toNat) l[i.toNat] (l.drop (i.toNat + 1)) (by simp; omega) (fun q hq => hm q (List.mem_of_mem_take hq)) (hm _ (List.getElem_mem hlt)) (by rw [← split_at l hlt]; exact hl)
      rw [← split_at l hlt, show ((i.toNat : Nat) : Int) = i by omega] at this
      exact this

end Go.Proofs.YtokecnkjgoghhaaDoor.Sp
end
section
/- What the reference's front comes to, and what a step needs: the program's and the reference's. Conditions: lengths as they stand in each statement. -/
set_option linter.unusedVariables false
set_option linter.unusedSimpArgs false
namespace Go.Proofs.YtokecnkjgoghhaaDoor.Sp
open Go Go.Proofs.YtokecnkjgoghhaaDoor.Ab Go.Proofs.YtokecnkjgoghhaaDoor.Tb Go.Proofs.YtokecnkjgoghhaaDoor.EText

theorem front10_loop (h8 : H8) (l : List Prm) (i : Nat) (hi : i < l.length) (hl : l.length ≤ 1000) (hm : ∀ q ∈ l, Md q) : ∀ k : Nat, k ≤ i → ∀ (one : Prm) (behind : List Prm), Md one → behind.length + k ≤ 1000 →
    l48_6 l (i : Int) ((k : Int) - 1) one.1 one.2.1 one.2.2.1 one.2.2.2.1 one.2.2.2.2.1 one.2.2.2.2.2 behind = some (injRs [RT.own 24 ty24, RT.d (.int .i64)] (frontR (l.take k).reverse one (behind ++ l.drop (i + 1)))) := by
  intro k
  induction k with
  | zero =>
    intro hk one behind ho hb
    refine cutG_step ((q48_6 ..).trans ?_)
    have w1 : IntKind.i64.wrap ((i : Int) + 1) = ((i + 1 : Nat) : Int) := by rw [wr _ (by omega)]; omega
    simp only [w1, List.take_length, Int.toNat_natCast]
    rw [ifs_neg (by simp), ifs_pos (by omega), ifs_pos ⟨by omega, Int.le_refl _⟩, ifs_pos ⟨by omega, by omega⟩, ifs_pos (by simp; omega)]
    rfl
  | succ k ih =>
    intro hk one behind ho hb
    have hlt : k < l.length := by omega
    have hq : Md l[k] := hm _ (List.getElem_mem hlt)
    refine cutG_step ((q48_6 ..).trans ?_)
    have e0 : ((k + 1 : Nat) : Int) - 1 = (k : Int) := by omega
    have e1 : cR 57 [RT.d ty24, RT.d ty24, RT.d (.int .i64)] [inj ty24 l[k], inj ty24 (one.1, one.2.1, one.2.2.1, one.2.2.2.1, one.2.2.2.2.1, one.2.2.2.2.2)] = some (pairC l[k] one) := h8 l[k] one hq ho
    rw [e0, ifs_pos (by simp), ifs_pos (by omega), Int.toNat_natCast, List.getElem?_eq_getElem hlt, Option.bind_some, e1, Option.bind_some, rev_take l hlt]
    unfold frontR
    by_cases h : (pairC l[k] one).2.2 = 0
    · rw [ifs_neg (by simp [h]), List.take_length, ifs_pos (by omega), wrP (by omega), if_neg (by simp [h])]
      exact ih (by omega) _ _ (pairC_md hq ho).1 (by simp; omega)
    · rw [ifs_pos (by simp [h]), if_pos h]
theorem front10_ok (h8 : H8) (l : List Prm) (i : Int) (hi : fits i) (hl : l.length ≤ 1000) (hm : ∀ q ∈ l, Md q) : cR 48 [RT.own 24 ty24, RT.d (.int .i64)] [inj (.sl ty24) l, inj (.int .i64) i] = some (frontP l i) := by
  refine callT_of ((e48 l i).trans ?_)
  unfold frontP
  by_cases h0 : i < 0
  · rw [ifs_neg (by simp [h0]), if_pos h0]
  · rw [ifs_pos (by simp [h0]), if_neg h0]
    by_cases h1 : i ≥ l.length
    · rw [ifs_pos (by simpa using h1), List.getElem?_eq_none (by omega)]
    · have hlt : i.toNat < l.length := by omega
      have hii : i = ((i.toNat : Nat) : Int) := by omega
      rw [ifs_neg (by simpa using h1), ifs_pos (by omega), List.getElem?_eq_getElem hlt, Option.bind_some]
      have := front10_loop h8 l i.toNat hlt hl hm i.toNat (Nat.le_refl _) l[i.toNat] [] (hm _ (List.getElem_mem hlt)) (by simp; omega)
      rw [← hii] at this
      rw [wr _ (by omega)]
      exact this

/-- What a step needs: those ahead of it, from the last one on; the number of those left is the place. -/
def needsG : List Prm → List Int → List Prm → List Int
  | [], out, _ => out
  | p :: l, out, group => if (pastP p group).2.2 ≠ 0 then needsG l ((l.length : Int) :: out) (p :: group) else needsG l out (pastP p group).1
def needsP (l : List Prm) (i : Int) : List Int :=
  if i < 0 then [] else match l[i.toNat]? with
    | some one => needsG (l.take i.toNat).reverse [] [one]
    | none => []

theorem rows_one (p : Prm) (g : List Prm) : rowsP [p] g = if (pastP p g).2.2 ≠ 0 then ([], [], (pastP p g).2.2) else ((pastP p g).1, [(pastP p g).2.1], 0) := rfl

theorem add_ok (k : Nat) (l : List Prm) (out : List Int) (g : List Prm) (hk : k < l.length) (ho : out.length ≤ 1000) (hg : g.length ≤ 1000) :
    cR2 103 [] [.sl (.int .i64), .sl ty24] [inj (.int .i64) (k : Int), A.c (C.pt (Pt.own 0 0 0)), A.c (C.pt (Pt.sh (.sl ty24) l 0)), A.c (C.pt (Pt.own 1 0 0)), inj (.sl (.int .i64)) out, inj (.sl ty24) g] = some ((), ((k : Int) :: out, l[k] :: g)) := by
  refine callT2_of ((e103 ..).trans ?_)
  have b1 : (1 + out.length) * 8 ≤ 140737488355328 := by omega
  have b2 : (1 + g.length) * 96 ≤ 140737488355328 := by omega
  rw [ifs_pos b1, ifs_pos (by omega), Int.toNat_natCast, List.getElem?_eq_getElem hk, Option.bind_some, ifs_pos b2, List.take_length, List.take_length]
  rfl

theorem needs_loop (l : List Prm) (hl : l.length ≤ 500) (hm : ∀ q ∈ l, Md q) : ∀ k : Nat, k ≤ l.length → ∀ (out : List Int) (g : List Prm), out.length + k ≤ 500 → g.length + k ≤ 1000 → (∀ q ∈ g, Md q) →
    l51_7v1 ((k : Int) - 1) l out g = some (injRs [RT.d (.sl (.int .i64))] (needsG (l.take k).reverse out g)) := by
  intro k
  induction k with
  | zero =>
    intro hk out g ho hg hgm
    refine cutG_step ((q51_7v1 ..).trans ?_)
    rw [ifs_neg (by simp)]
    rfl
  | succ k ih =>
    intro hk out g ho hg hgm
    have hlt : k < l.length := by omega
    have hq : Md l[k] := hm _ (List.getElem_mem hlt)
    refine cutG_step ((q51_7v1 ..).trans ?_)
    have e0 : ((k + 1 : Nat) : Int) - 1 = (k : Int) := by omega
    obtain ⟨m1, m2, m3⟩ := pastP_md l[k] g hq hgm
    rw [e0, ifs_pos (by simp), ifs_pos (by omega), Int.toNat_natCast, List.getElem?_eq_getElem hlt, Option.bind_some, rows_ok [l[k]] g (by simp) (by omega) (fun q h => by rw [List.mem_singleton.1 h]; exact hq) hgm, Option.bind_some, rows_one, rev_take l hlt]
    unfold needsG
    by_cases h : (pastP l[k] g).2.2 = 0
    · rw [if_neg (by simp [h]), if_neg (by simp [h]), ifs_neg (by simp), wrP (by omega)]
      exact ih (by omega) _ _ (by omega) (by show (pastP l[k] g).1.length + k ≤ 1000; omega) m1
    · rw [if_pos h, if_pos h, ifs_pos (by simp [h])]
      have := add_ok k l out g hlt (by omega) (by omega)
      rw [this, Option.bind_some, wrP (by omega)]
      have hlen : (l.take k).reverse.length = k := by simp; omega
      rw [hlen]
      exact ih (by omega) _ _ (by simp; omega) (by simp; omega) (fun q hq' => by
        rcases List.mem_cons.1 hq' with rfl | hq'
        · exact hq
        · exact hgm q hq')

/-- The same where nothing is needed so far. -/
theorem needs_loop0 (l : List Prm) (hl : l.length ≤ 500) (hm : ∀ q ∈ l, Md q) : ∀ k : Nat, k ≤ l.length → ∀ (g : List Prm), g.length + k ≤ 1000 → (∀ q ∈ g, Md q) →
    l51_7 ((k : Int) - 1) l g = some (injRs [RT.d (.sl (.int .i64))] (needsG (l.take k).reverse [] g)) := by
  intro k
  induction k with
  | zero =>
    intro hk g hg hgm
    refine cutG_step ((q51_7 ..).trans ?_)
    rw [ifs_neg (by simp)]
    rfl
  | succ k ih =>
    intro hk g hg hgm
    have hlt : k < l.length := by omega
    have hq : Md l[k] := hm _ (List.getElem_mem hlt)
    refine cutG_step ((q51_7 ..).trans ?_)
    have e0 : ((k + 1 : Nat) : Int) - 1 = (k : Int) := by omega
    obtain ⟨m1, m2, m3⟩ := pastP_md l[k] g hq hgm
    rw [e0, ifs_pos (by simp), ifs_pos (by omega), Int.toNat_natCast, List.getElem?_eq_getElem hlt, Option.bind_some, rows_ok [l[k]] g (by simp) (by omega) (fun q h => by rw [List.mem_singleton.1 h]; exact hq) hgm, Option.bind_some, rows_one, rev_take l hlt]
    unfold needsG
    by_cases h : (pastP l[k] g).2.2 = 0
    · rw [if_neg (by simp [h]), if_neg (by simp [h]), ifs_neg (by simp), wrP (by omega)]
      exact ih (by omega) _ (by show (pastP l[k] g).1.length + k ≤ 1000; omega) m1
    · rw [if_pos h, if_pos h, ifs_pos (by simp [h])]
      have := add_ok k l [] g hlt (by simp) (by omega)
      rw [this, Option.bind_some, wrP (by omega)]
      have hlen : (l.take k).reverse.length = k := by simp; omega
      rw [hlen]
      exact needs_loop l hl hm k (by omega) _ _ (by simp; omega) (by simp; omega) (fun q hq' => by
        rcases List.mem_cons.1 hq' with rfl | hq'
        · exact hq
        · exact hgm q hq')
theorem needs_ok (l : List Prm) (i : Int) (hi : fits i) (hl : l.length ≤ 400) (hm : ∀ q ∈ l, Md q) : cR 51 [RT.d (.sl (.int .i64))] [inj (.sl ty24) l, inj (.int .i64) i] = some (needsP l i) := by
  refine callT_of ((e51 l i).trans ?_)
  unfold needsP
  by_cases h0 : i < 0
  · rw [ifs_neg (by simp [h0]), if_pos h0]
  · rw [ifs_pos (by simp [h0]), if_neg h0]
    by_cases h1 : i ≥ l.length
    · rw [ifs_pos (by simpa using h1), List.getElem?_eq_none (by omega)]
    · have hlt : i.toNat < l.length := by omega
      have hii : i = ((i.toNat : Nat) : Int) := by omega
      have hq := hm _ (List.getElem_mem hlt)
      rw [ifs_neg (by simpa using h1), ifs_pos (by omega), List.getElem?_eq_getElem hlt, Option.bind_some]
      have := needs_loop0 l (by omega) hm i.toNat (by omega) [l[i.toNat]] (by simp; omega) (fun q h => by rw [List.mem_singleton.1 h]; exact hq)
      rw [← hii] at this
      rw [wr _ (by omega)]
      exact this

end Go.Proofs.YtokecnkjgoghhaaDoor.Sp
end
section
/- What a step needs, by the reference. Conditions: lengths as they stand in each statement. -/
set_option linter.unusedVariables false
set_option linter.unusedSimpArgs false
namespace Go.Proofs.YtokecnkjgoghhaaDoor.Sp
open Go Go.Proofs.YtokecnkjgoghhaaDoor.Ab Go.Proofs.YtokecnkjgoghhaaDoor.Tb Go.Proofs.YtokecnkjgoghhaaDoor.EText

theorem needs10_loop (h8 : H8) (l : List Prm) (hl : l.length ≤ 500) (hm : ∀ q ∈ l, Md q) : ∀ k : Nat, k ≤ l.length → ∀ (out : List Int) (g : List Prm), out.length + k ≤ 500 → g.length + k ≤ 1000 → (∀ q ∈ g, Md q) →
    l52_6v1 l ((k : Int) - 1) out g = some (injRs [RT.own 3 (.int .i64)] (needsG (l.take k).reverse out g)) := by
  intro k
  induction k with
  | zero =>
    intro hk out g ho hg hgm
    refine cutG_step ((q52_6v1 ..).trans ?_)
    rw [ifs_neg (by simp), List.take_length]
    rfl
  | succ k ih =>
    intro hk out g ho hg hgm
    have hlt : k < l.length := by omega
    have hq : Md l[k] := hm _ (List.getElem_mem hlt)
    refine cutG_step ((q52_6v1 ..).trans ?_)
    have e0 : ((k + 1 : Nat) : Int) - 1 = (k : Int) := by omega
    obtain ⟨m1, m2, m3⟩ := pastP_md l[k] g hq hgm
    rw [e0, ifs_pos (by simp), ifs_pos (by omega), Int.toNat_natCast, List.getElem?_eq_getElem hlt, Option.bind_some, List.take_length, past10_ok h8 l[k] g hq (by omega) hgm, Option.bind_some, rev_take l hlt]
    unfold needsG
    have b1 : (1 + out.length) * 8 ≤ 140737488355328 := by omega
    have b2 : (1 + g.length) * 96 ≤ 140737488355328 := by omega
    by_cases h : (pastP l[k] g).2.2 = 0
    · rw [if_neg (by simp [h]), ifs_pos (by simp [h]), wrP (by omega)]
      exact ih (by omega) _ _ (by omega) (by omega) m1
    · rw [if_pos h, ifs_neg (by simp [h]), ifs_pos (by omega), Option.bind_some, List.take_length, ifs_pos b2, ifs_pos b1, wrP (by omega)]
      have hlen : (l.take k).reverse.length = k := by simp; omega
      rw [hlen]
      exact ih (by omega) _ _ (by simp; omega) (by simp; omega) (fun q hq' => by
        rcases List.mem_cons.1 hq' with rfl | hq'
        · exact hq
        · exact hgm q hq')
theorem needs10_loop0 (h8 : H8) (l : List Prm) (hl : l.length ≤ 500) (hm : ∀ q ∈ l, Md q) (k : Nat) (hk : k ≤ l.length) (g : List Prm) (hg : g.length + k ≤ 1000) (hgm : ∀ q ∈ g, Md q) :
    l52_6 l ((k : Int) - 1) g [] = some (injRs [RT.own 3 (.int .i64)] (needsG (l.take k).reverse [] g)) := by
  cases k with
  | zero =>
    refine cutG_step ((q52_6 ..).trans ?_)
    rw [ifs_neg (by simp), List.take_length]
    rfl
  | succ k =>
    have hlt : k < l.length := by omega
    have hq : Md l[k] := hm _ (List.getElem_mem hlt)
    refine cutG_step ((q52_6 ..).trans ?_)
    have e0 : ((k + 1 : Nat) : Int) - 1 = (k : Int) := by omega
    obtain ⟨m1, m2, m3⟩ := pastP_md l[k] g hq hgm
    rw [e0, ifs_pos (by simp), ifs_pos (by omega), Int.toNat_natCast, List.getElem?_eq_getElem hlt, Option.bind_some, List.take_length, past10_ok h8 l[k] g hq (by omega) hgm, Option.bind_some, rev_take l hlt]
    unfold needsG
    have b2 : (1 + g.length) * 96 ≤ 140737488355328 := by omega
    by_cases h : (pastP l[k] g).2.2 = 0
    · rw [if_neg (by simp [h]), ifs_pos (by simp [h]), wrP (by omega)]
      exact needs10_loop h8 l hl hm k (by omega) _ _ (by simp; omega) (by omega) m1
    · rw [if_pos h, ifs_neg (by simp [h]), ifs_pos (by omega), Option.bind_some, List.take_length, ifs_pos b2, ifs_pos (by simp), wrP (by omega)]
      have hlen : (l.take k).reverse.length = k := by simp; omega
      rw [hlen]
      exact needs10_loop h8 l hl hm k (by omega) _ _ (by simp; omega) (by simp; omega) (fun q hq' => by
        rcases List.mem_cons.1 hq' with rfl | hq'
        · exact hq
        · exact hgm q hq')
theorem needs10_ok (h8 : H8) (l : List Prm) (i : Int) (hi : fits i) (hl : l.length ≤ 400) (hm : ∀ q ∈ l, Md q) : cR 52 [RT.own 3 (.int .i64)] [inj (.sl ty24) l, inj (.int .i64) i] = some (needsP l i) := by
  refine callT_of ((e52 l i).trans ?_)
  unfold needsP
  by_cases h0 : i < 0
  · rw [ifs_neg (by simp [h0]), if_pos h0]
  · rw [ifs_pos (by simp [h0]), if_neg h0]
    by_cases h1 : i ≥ l.length
    · rw [ifs_pos (by simpa using h1), List.getElem?_eq_none (by omega)]
    · have hlt : i.toNat < l.length := by omega
      have hii : i = ((i.toNat : Nat) : Int) := by omega
      have hq := hm _ (List.getElem_mem hlt)
      rw [ifs_neg (by simpa using h1), ifs_pos (by omega), List.getElem?_eq_getElem hlt, Option.bind_some]
      have := needs10_loop0 h8 l (by omega) hm i.toNat (by omega) [l[i.toNat]] (by simp; omega) (fun q h => by rw [List.mem_singleton.1 h]; exact hq)
      rw [← hii] at this
      rw [wr _ (by omega)]
      exact this

end Go.Proofs.YtokecnkjgoghhaaDoor.Sp
end
section
/- The reference's steps that are apart. Conditions: lengths as they stand in each statement. -/
set_option linter.unusedVariables false
set_option linter.unusedSimpArgs false
namespace Go.Proofs.YtokecnkjgoghhaaDoor.Sp
open Go Go.Proofs.YtokecnkjgoghhaaDoor.Ab Go.Proofs.YtokecnkjgoghhaaDoor.Tb Go.Proofs.YtokecnkjgoghhaaDoor.EText

theorem touches8_ok (p : Prm) (hp : Md p) : cR 53 [RT.own 9 .str] [inj ty24 p] = some (touchesL p) := by
  refine callT_of ((e53 p).trans ?_)
  rw [check7_ok p hp, Option.bind_some]
  unfold touchesL
  simp only [ifs]
  by_cases h : chk p = 0
  · by_cases h5 : p.1 = 5 <;> simp [h, h5]
  · simp [h]

def begB (a b : List Txt) : Bool := decide (b.length ≤ a.length) && decide (a.take b.length = b)
theorem begins_ok (a b : List Txt) (ha : a.length ≤ top) : cR 183 [RT.d .bool] [inj (.sl .str) a, inj (.sl .str) b] = some (begB a b) := by
  refine callT_of ((e183 a b).trans ?_)
  unfold begB
  by_cases h : b.length ≤ a.length
  · rw [ifs_neg (by simp; omega), ifs_pos ⟨by omega, by omega⟩, Int.toNat_natCast]
    have := same1_ok (a.take b.length) b (by simp; omega)
    rw [show List.drop (Int.toNat 0) (List.take b.length a) = a.take b.length from rfl, this, decide_eq_true h]
    rfl
  · rw [ifs_pos (by simp; omega), decide_eq_false h]
    rfl

def nearB (p : Prm) (x y : Txt) : Bool := decide (x = y) || (decide (p.1 ≤ 2) && (decide ((names x).length < (names y).length) && begB (names y) (names x)))
theorem near8_ok (p : Prm) (x y : Txt) (hx : x.size ≤ 100000) (hy : y.size ≤ 100000) (hl : (names y).length ≤ top) : cR 152 [RT.d .bool] [inj ty24 p, inj .str x, inj .str y] = some (nearB p x y) := by
  refine callT_of ((e152 p x y).trans ?_)
  unfold nearB
  rw [bat]
  by_cases h : x = y
  · rw [ifs_pos (by simp [h]), decide_eq_true h]; rfl
  · rw [ifs_neg (by simp [h]), decide_eq_false h, names5_ok x, Option.bind_some, names5_ok y, Option.bind_some, List.take_length, List.take_length, begins_ok _ _ hl]
    by_cases h2 : p.1 ≤ 2
    · rw [ifs_pos (by simpa using h2), decide_eq_true h2]
      by_cases h3 : (names x).length < (names y).length
      · rw [ifs_pos (by simpa using h3), decide_eq_true h3]; rfl
      · rw [ifs_neg (by simpa using h3), decide_eq_false h3]; rfl
    · rw [ifs_neg (by simpa using h2), decide_eq_false h2]; rfl

/-- Is one of these near one of those? -/
def anyNear (p q : Prm) (xs ys : List Txt) : Bool := xs.any fun x => ys.any fun y => nearB p x y || nearB q y x
def apart8B (p q : Prm) : Bool := !anyNear p q (touchesL p) (touchesL q) && (decide (0 < (touchesL p).length) && decide (0 < (touchesL q).length))

theorem apart8_in (p q : Prm) (xs ys : List Txt) (hxl : xs.length ≤ 1000) (hyl : ys.length ≤ 1000) (hxs : ∀ s ∈ xs, s.size ≤ 100000 ∧ (names s).length ≤ top) (hys : ∀ s ∈ ys, s.size ≤ 100000 ∧ (names s).length ≤ top) (i : Nat) (hi : i < xs.length) (R : Option (List RV))
    (hR : l105_4 ((i + 1 : Nat) : Int) p.1 p.2.1 p.2.2.1 p.2.2.2.1 p.2.2.2.2.1 p.2.2.2.2.2 q.1 q.2.1 q.2.2.1 q.2.2.2.1 q.2.2.2.2.1 q.2.2.2.2.2 xs ys = R) : ∀ k : Nat, k ≤ ys.length →
    l105_7 (i : Int) (k : Int) p.1 p.2.1 p.2.2.1 p.2.2.2.1 p.2.2.2.2.1 p.2.2.2.2.2 q.1 q.2.1 q.2.2.1 q.2.2.2.1 q.2.2.2.2.1 q.2.2.2.2.2 xs ys = (if (ys.drop k).any (fun y => nearB p xs[i] y || nearB q y xs[i]) = true then some (injRs [RT.d .bool] false) else R) ∨ R = none := by
  by_cases hn : R = none
  · intro k _; exact .inr hn
  obtain ⟨r, rfl⟩ := Option.ne_none_iff_exists'.1 hn
  refine fun k hk => .inl ?_
  have key : ∀ k : Nat, k ≤ ys.length → l105_7 (i : Int) (k : Int) p.1 p.2.1 p.2.2.1 p.2.2.2.1 p.2.2.2.2.1 p.2.2.2.2.2 q.1 q.2.1 q.2.2.1 q.2.2.2.1 q.2.2.2.2.1 q.2.2.2.2.2 xs ys = some (if (ys.drop k).any (fun y => nearB p xs[i] y || nearB q y xs[i]) = true then injRs [RT.d .bool] false else r) := by
    refine upTo (fun k hk ih => ?_) ?_
    · refine cutG_step ((q105_7 ..).trans ?_)
      have a1 := hxs _ (List.getElem_mem hi)
      have a2 := hys _ (List.getElem_mem hk)
      have e1 : cR 152 [RT.d .bool] [inj ty24 (p.1, p.2.1, p.2.2.1, p.2.2.2.1, p.2.2.2.2.1, p.2.2.2.2.2), inj .str xs[i], inj .str ys[k]] = some (nearB p xs[i] ys[k]) := near8_ok p xs[i] ys[k] a1.1 a2.1 a2.2
      have e2 : cR 152 [RT.d .bool] [inj ty24 (q.1, q.2.1, q.2.2.1, q.2.2.2.1, q.2.2.2.2.1, q.2.2.2.2.2), inj .str ys[k], inj .str xs[i]] = some (nearB q ys[k] xs[i]) := near8_ok q ys[k] xs[i] a2.1 a1.1 a1.2
      rw [ifs_pos (by simpa using hk), ifs_pos ⟨by omega, by omega⟩, Int.toNat_natCast, List.getElem?_eq_getElem hi, Option.bind_some, ifs_pos ⟨by omega, by omega⟩, Int.toNat_natCast, List.getElem?_eq_getElem hk, Option.bind_some, e1, Option.bind_some, List.drop_eq_getElem_cons hk, List.any_cons]
      cases h1 : nearB p xs[i] ys[k] with
      | true => rw [ifs_neg (by simp)]; simp
      | false =>
        rw [ifs_pos rfl, ifs_pos ⟨by omega, by omega⟩, Option.bind_some, ifs_pos ⟨by omega, by omega⟩, Option.bind_some, e2, Option.bind_some]
        cases h2 : nearB q ys[k] xs[i] with
        | true => rw [ifs_pos rfl]; simp
        | false =>
          rw [ifs_neg (by simp), wrS hk (by simp only [top]; omega), ih]
          simp
    · refine cutG_step ((q105_7 ..).trans ?_)
      rw [ifs_neg (by simp), wrS hi (by simp only [top]; omega), hR, List.drop_length]
      simp
  rw [key k hk]
  split <;> rfl

theorem apart8_out (p q : Prm) (xs ys : List Txt) (hxl : xs.length ≤ 1000) (hyl : ys.length ≤ 1000) (hxs : ∀ s ∈ xs, s.size ≤ 100000 ∧ (names s).length ≤ top) (hys : ∀ s ∈ ys, s.size ≤ 100000 ∧ (names s).length ≤ top) : ∀ i : Nat, i ≤ xs.length →
    l105_4 (i : Int) p.1 p.2.1 p.2.2.1 p.2.2.2.1 p.2.2.2.2.1 p.2.2.2.2.2 q.1 q.2.1 q.2.2.1 q.2.2.2.1 q.2.2.2.2.1 q.2.2.2.2.2 xs ys = some (injRs [RT.d .bool] (!anyNear p q (xs.drop i) ys && (decide (0 < xs.length) && decide (0 < ys.length)))) := by
  refine upTo (fun i hi ih => ?_) ?_
  · refine cutG_step ((q105_4 ..).trans ?_)
    rw [ifs_pos (by simpa using hi)]
    rcases apart8_in p q xs ys hxl hyl hxs hys i hi _ ih 0 (Nat.zero_le _) with h | h
    · refine Eq.trans h ?_
      rw [List.drop_zero, List.drop_eq_getElem_cons hi]
      unfold anyNear
      rw [List.any_cons]
      cases ys.any (fun y => nearB p xs[i] y || nearB q y xs[i]) <;> simp
    · cases h
  · refine cutG_step ((q105_4 ..).trans ?_)
    rw [ifs_neg (by simp), List.drop_length]
    unfold anyNear
    by_cases h : 0 < xs.length
    · rw [ifs_pos (by simpa using h)]
      simp [h]
    · rw [ifs_neg (by simpa using h)]
      simp [h]
theorem apart8_ok (p q : Prm) (hp : Md p) (hq : Md q) (hn : ∀ s ∈ touchesL p, (names s).length ≤ top) (hm : ∀ s ∈ touchesL q, (names s).length ≤ top) : cR 105 [RT.d .bool] [inj ty24 p, inj ty24 q] = some (apart8B p q) := by
  refine callT_of ((e105 p q).trans ?_)
  rw [touches8_ok p hp, Option.bind_some, touches8_ok q hq, Option.bind_some]
  have t1 := touches_len p
  have t2 := touches_len q
  exact apart8_out p q _ _ (by omega) (by omega) (fun s hs => ⟨touches_mem p hp s hs, hn s hs⟩) (fun s hs => ⟨touches_mem q hq s hs, hm s hs⟩) 0 (Nat.zero_le _)

end Go.Proofs.YtokecnkjgoghhaaDoor.Sp
end
section
/- The reference's pair is the program's, where both tell the same steps apart. Conditions: lengths as they stand in each statement. -/
set_option linter.unusedVariables false
set_option linter.unusedSimpArgs false
namespace Go.Proofs.YtokecnkjgoghhaaDoor.Sp
open Go Go.Proofs.YtokecnkjgoghhaaDoor.Ab Go.Proofs.YtokecnkjgoghhaaDoor.Tb Go.Proofs.YtokecnkjgoghhaaDoor.EText

theorem wsub (Q n o : Int) : W64 (W64 (Q - n) + o) = W64 (Q - W64 (n - o)) := by
  obtain ⟨k1, h1, _, _⟩ := wk (Q - n)
  obtain ⟨k2, h2, _, _⟩ := wk (n - o)
  obtain ⟨k3, h3, _, _⟩ := wk (W64 (Q - n) + o)
  obtain ⟨k4, h4, _, _⟩ := wk (Q - W64 (n - o))
  omega
theorem wadd (P n o : Int) : W64 (W64 (P + n) - o) = W64 (P + W64 (n - o)) := by
  obtain ⟨k1, h1, _, _⟩ := wk (P + n)
  obtain ⟨k2, h2, _, _⟩ := wk (n - o)
  obtain ⟨k3, h3, _, _⟩ := wk (W64 (P + n) - o)
  obtain ⟨k4, h4, _, _⟩ := wk (P + W64 (n - o))
  omega

theorem pair8_of (p q : Prm) (hp : Md p) (hq : Md q) (ha : chk p = 0 → chk q = 0 → cR 105 [RT.d .bool] [inj ty24 p, inj ty24 q] = some (apartB p q)) :
    cR 57 [RT.d ty24, RT.d ty24, RT.d (.int .i64)] [inj ty24 p, inj ty24 q] = some (pairC p q) := by
  refine callT_of ((e57 p q).trans ?_)
  rw [check7_ok p hp, Option.bind_some]
  by_cases h1 : chk p = 0
  · rw [ifs_neg (by simp [h1]), check7_ok q hq, Option.bind_some]
    by_cases h2 : chk q = 0
    · rw [ifs_neg (by simp [h2]), ha h1 h2]
      simp only [Option.bind_some, bat]
      unfold pairC shiftP
      simp only [ifs, h1, h2, wsub, wadd]
      have hz : p.1 = 6 → q.1 = 6 → p.2.1 = q.2.1 → apartB p q = false := apart_same h1 h2
      clear ha
      generalize apartB p q = u at hz
      obtain ⟨k, a, b, n, o, w⟩ := p
      obtain ⟨k', a', b', n', o', w'⟩ := q
      by_cases k6 : k = 6
      · subst k6
        by_cases k6' : k' = 6
        · subst k6'
          by_cases c : a = a'
          · subst c
            obtain rfl := hz rfl rfl rfl
            clear h1 h2 hp hq hz
            by_cases c1 : IntKind.i64.wrap (n' - ↑w.length) > n
            · have c1' : W64 (n' - ↑w.length) > n := c1
              simp [c1, c1', setAt]
            · have c1' : ¬ W64 (n' - ↑w.length) > n := c1
              by_cases c2 : IntKind.i64.wrap (n - ↑o'.length) > n'
              · have c2' : W64 (n - ↑o'.length) > n' := c2
                simp [c1, c1', c2, c2', setAt]
              · have c2' : ¬ W64 (n - ↑o'.length) > n' := c2
                simp [c1, c1', c2, c2', setAt, zp]
          · cases u <;> simp [c]
        · by_cases k5' : k' = 5
          · subst k5'
            by_cases c : a' = a
            · simp [c]
            · cases u <;> simp [c]
          · cases u <;> simp [k5', k6']
      · by_cases k5 : k = 5
        · subst k5
          by_cases k6' : k' = 6
          · subst k6'
            by_cases c : a' = b
            · simp [c]
            · cases u <;> simp [c]
          · cases u <;> simp [k6']
        · cases u <;> simp [k5, k6]
    · rw [ifs_pos (by simp [h2])]
      unfold pairC; simp [h1, h2]
  · rw [ifs_pos (by simp [h1])]
    unfold pairC; simp [h1]

end Go.Proofs.YtokecnkjgoghhaaDoor.Sp
end
section
/- The parts of a text between slashes, as lists of bytes. No condition. -/
set_option linter.unusedVariables false
set_option linter.unusedSimpArgs false
namespace Go.Proofs.YtokecnkjgoghhaaDoor.Sp
open Go Go.Proofs.YtokecnkjgoghhaaDoor.Ab Go.Proofs.YtokecnkjgoghhaaDoor.Tb Go.Proofs.YtokecnkjgoghhaaDoor.EText

def consP (c : UInt8) : List (List UInt8) → List (List UInt8)
  | [] => [[c]]
  | x :: r => (c :: x) :: r
def parts : List UInt8 → List (List UInt8)
  | [] => [[]]
  | c :: l => if c = 47 then [] :: parts l else consP c (parts l)
theorem consP_app (c : UInt8) (a b : List (List UInt8)) (h : a ≠ []) : consP c (a ++ b) = consP c a ++ b := by
  cases a with
  | nil => exact absurd rfl h
  | cons x r => rfl
theorem consP_ne (c : UInt8) (a : List (List UInt8)) : consP c a ≠ [] := by cases a <;> simp [consP]
theorem parts_ne : ∀ l : List UInt8, parts l ≠ []
  | [] => by simp [parts]
  | c :: l => by
    unfold parts
    split
    · simp
    · exact consP_ne _ _
theorem parts_app (t : List UInt8) : ∀ x : List UInt8, parts (x ++ 47 :: t) = parts x ++ parts t
  | [] => by simp [parts]
  | c :: x => by
    have ih := parts_app t x
    simp only [List.cons_append, parts, ih]
    split
    · rfl
    · exact consP_app _ _ _ (parts_ne x)
/-- The text of parts. -/
def joinP : List (List UInt8) → List UInt8
  | [] => []
  | [x] => x
  | x :: y :: r => x ++ 47 :: joinP (y :: r)
theorem joinP_consP (c : UInt8) : ∀ a : List (List UInt8), a ≠ [] → joinP (consP c a) = c :: joinP a
  | [], h => absurd rfl h
  | [x], _ => rfl
  | x :: y :: r, _ => rfl
theorem join_parts : ∀ l : List UInt8, joinP (parts l) = l
  | [] => rfl
  | c :: l => by
    have ih := join_parts l
    unfold parts
    split
    · rename_i h
      subst h
      cases hp : parts l with
      | nil => exact absurd hp (parts_ne l)
      | cons y r => rw [hp] at ih; simp only [joinP, List.nil_append, ih]
    · rw [joinP_consP _ _ (parts_ne l), ih]
theorem joinP_app (b : List (List UInt8)) (hb : b ≠ []) : ∀ a : List (List UInt8), a ≠ [] → joinP (a ++ b) = joinP a ++ 47 :: joinP b
  | [], h => absurd rfl h
  | [x], _ => by
    cases b with
    | nil => exact absurd rfl hb
    | cons y r => rfl
  | x :: y :: r, _ => by
    have ih := joinP_app b hb (y :: r) (by simp)
    simp only [List.cons_append] at ih
    simp only [List.cons_append, joinP, ih, List.append_assoc]
/-- A text begins with another one and a slash just if its parts begin with the other one's, and go on. -/
theorem parts_pre (x y : List UInt8) : (∃ t, y = x ++ 47 :: t) ↔ ((parts x).length < (parts y).length ∧ (parts y).take (parts x).length = parts x) := by
  constructor
  · rintro ⟨t, rfl⟩
    rw [parts_app]
    refine ⟨?_, List.take_left⟩
    have := List.length_pos_iff.2 (parts_ne t)
    simp only [List.length_append]; omega
  · rintro ⟨h1, h2⟩
    have hr : (parts y).drop (parts x).length ≠ [] := by
      intro h0
      have := congrArg List.length h0
      simp only [List.length_drop, List.length_nil] at this
      omega
    refine ⟨joinP ((parts y).drop (parts x).length), ?_⟩
    have h3 : parts y = parts x ++ (parts y).drop (parts x).length := by
      conv => lhs; rw [← List.take_append_drop (parts x).length (parts y), h2]
    have h4 := congrArg joinP h3
    rw [join_parts, joinP_app _ hr _ (parts_ne x), join_parts] at h4
    exact h4

end Go.Proofs.YtokecnkjgoghhaaDoor.Sp
end
section
/- strings.Split at slashes, as the parts of the bytes. No condition. -/
set_option linter.unusedVariables false
set_option linter.unusedSimpArgs false
namespace Go.Proofs.YtokecnkjgoghhaaDoor.Sp
open Go Go.Proofs.YtokecnkjgoghhaaDoor.Ab Go.Proofs.YtokecnkjgoghhaaDoor.Tb Go.Proofs.YtokecnkjgoghhaaDoor.EText

theorem parts_none : ∀ l : List UInt8, (∀ c ∈ l, c ≠ 47) → parts l = [l]
  | [], _ => rfl
  | c :: l, h => by
    have ih := parts_none l (fun x hx => h x (List.mem_cons_of_mem _ hx))
    simp only [parts, ih]
    rw [if_neg (h c (by simp))]
    rfl
theorem parts_hit (u t : List UInt8) (h : ∀ c ∈ u, c ≠ 47) : parts (u ++ 47 :: t) = u :: parts t := by
  rw [parts_app, parts_none u h]; rfl
theorem first47 : ∀ l : List UInt8, (∀ c ∈ l, c ≠ 47) ∨ ∃ u t, l = u ++ 47 :: t ∧ ∀ c ∈ u, c ≠ 47
  | [] => .inl (by simp)
  | c :: l => by
    by_cases hc : c = 47
    · exact .inr ⟨[], l, by simp [hc], by simp⟩
    · rcases first47 l with h | ⟨u, t, h1, h2⟩
      · exact .inl fun x hx => by
          rcases List.mem_cons.1 hx with rfl | hx
          · exact hc
          · exact h x hx
      · exact .inr ⟨c :: u, t, by simp [h1], fun x hx => by
          rcases List.mem_cons.1 hx with rfl | hx
          · exact hc
          · exact h2 x hx⟩
theorem split_parts_at (s : Txt) : ∀ (n a : Nat), s.size - a ≤ n → a ≤ s.size → (splitL (s.extract a s.size) slash).map (·.data.toList) = parts (s.data.toList.drop a) := by
  have hsz : s.size = s.data.toList.length := (Array.length_toList (xs := s.data)).symm
  intro n
  induction n with
  | zero =>
    intro a h1 h2
    have ha : a = s.size := by omega
    subst ha
    rw [segs_miss s s.size (fun k hk => by rw [List.getElem?_eq_none (by omega)]; simp), List.map_singleton, tail_data, List.drop_eq_nil_iff.2 (by omega)]
    rfl
  | succ n ih =>
    intro a h1 h2
    rcases first47 (s.data.toList.drop a) with h | ⟨u, t, h, hu⟩
    · rw [segs_miss s a (fun k hk hc => by
        have : (s.data.toList.drop a)[k - a]? = some 47 := by rw [List.getElem?_drop, show a + (k - a) = k by omega]; exact hc
        exact h 47 (List.mem_of_getElem? this) rfl), List.map_singleton, tail_data, parts_none _ h]
    · have hl : (s.data.toList.drop a).length = u.length + 1 + t.length := by rw [h]; simp; omega
      rw [List.length_drop, ← hsz] at hl
      have hat : ∀ k, a ≤ k → s.data.toList[k]? = (u ++ 47 :: t)[k - a]? := fun k hk => by rw [← h, List.getElem?_drop, show a + (k - a) = k by omega]
      have hdr : s.data.toList.drop (a + u.length + 1) = t := by
        have := congrArg (List.drop (u.length + 1)) h
        rw [List.drop_drop] at this
        rw [show a + u.length + 1 = a + (u.length + 1) by omega, this]
        simp
      have hxt : (s.extract a (a + u.length)).data.toList = u := by
        rw [ex_data, h, show a + u.length - a = u.length by omega, List.take_left]
      rw [segs_hit s a (a + u.length) (by omega) (by omega) (by rw [hat _ (by omega)]; simp) (fun k hk hk2 hc => by
        rw [hat k hk, List.getElem?_append_left (by omega)] at hc
        exact hu 47 (List.mem_of_getElem? hc) rfl), List.map_cons, ih (a + u.length + 1) (by omega) (by omega), hdr, hxt, h, parts_hit u t hu]
theorem split_parts (s : Txt) : (splitL s slash).map (·.data.toList) = parts s.data.toList := by
  have := split_parts_at s s.size 0 (by omega) (Nat.zero_le _)
  rw [ex_all] at this
  exact this

end Go.Proofs.YtokecnkjgoghhaaDoor.Sp
end
section
/- A path within a directory, by its text and by its names. No condition. -/
set_option linter.unusedVariables false
set_option linter.unusedSimpArgs false
namespace Go.Proofs.YtokecnkjgoghhaaDoor.Sp
open Go Go.Proofs.YtokecnkjgoghhaaDoor.Ab Go.Proofs.YtokecnkjgoghhaaDoor.Tb Go.Proofs.YtokecnkjgoghhaaDoor.EText

theorem data_slash (x : Txt) : (x ++ slash).data.toList = x.data.toList ++ [47] := by
  rw [ByteArray.data_append, Array.toList_append]
theorem size_slash (x : Txt) : (x ++ slash).size = x.data.toList.length + 1 := by
  show (x ++ slash).data.size = _
  rw [← Array.length_toList, data_slash]; simp
theorem preB_iff (y x : Txt) : preB y (x ++ slash) = true ↔ ∃ t, y.data.toList = x.data.toList ++ 47 :: t := by
  have hsz : y.size = y.data.toList.length := (Array.length_toList (xs := y.data)).symm
  unfold preB
  simp only [Bool.and_eq_true, decide_eq_true_eq]
  constructor
  · rintro ⟨h1, h2⟩
    have h3 : (y.extract 0 (x ++ slash).size).data.toList = x.data.toList ++ [47] := by rw [h2, data_slash]
    rw [ex_data, List.drop_zero, Nat.sub_zero] at h3
    refine ⟨y.data.toList.drop (x ++ slash).size, ?_⟩
    conv => lhs; rw [← List.take_append_drop (x ++ slash).size y.data.toList, h3]
    simp
  · rintro ⟨t, h⟩
    have hl : (x ++ slash).size ≤ y.size := by
      rw [size_slash, hsz, h]; simp only [List.length_append, List.length_cons]; omega
    refine ⟨hl, ext_of ?_⟩
    rw [ex_data, List.drop_zero, Nat.sub_zero, data_slash, size_slash, h]
    rw [show x.data.toList ++ 47 :: t = (x.data.toList ++ [47]) ++ t by simp, show x.data.toList.length + 1 = (x.data.toList ++ [47]).length by simp, List.take_left]
theorem data_inj : ∀ {a b : List Txt}, a.map (·.data.toList) = b.map (·.data.toList) → a = b
  | [], [], _ => rfl
  | [], _ :: _, h => by simp at h
  | _ :: _, [], h => by simp at h
  | x :: a, y :: b, h => by
    simp only [List.map_cons, List.cons.injEq] at h
    rw [ext_of h.1, data_inj h.2]
theorem within_names (y x : Txt) (hy : rightP y = true) (hx : rightP x = true) (h0 : x ≠ zt) : withinB y x = (decide ((names x).length < (names y).length) && begB (names y) (names x)) := by
  have e1 : names x = splitL x slash := by unfold names; rw [if_pos hx]
  have e2 : names y = splitL y slash := by unfold names; rw [if_pos hy]
  have p1 := split_parts x
  have p2 := split_parts y
  have l1 : (parts x.data.toList).length = (names x).length := by rw [← p1, List.length_map, e1]
  have l2 : (parts y.data.toList).length = (names y).length := by rw [← p2, List.length_map, e2]
  have key : preB y (x ++ slash) = true ↔ ((names x).length < (names y).length ∧ (names y).take (names x).length = names x) := by
    rw [preB_iff, parts_pre, l1, l2]
    refine and_congr Iff.rfl ⟨fun h => data_inj ?_, fun h => ?_⟩
    · rw [List.map_take, e1, e2, p1, p2, ← e1]; exact h
    · have := congrArg (List.map (·.data.toList)) h
      rw [List.map_take, e1, e2, p1, p2, ← e1] at this
      exact this
  unfold withinB begB
  rw [hy, hx, decide_eq_false h0]
  simp only [Bool.true_and, Bool.false_or]
  rw [Bool.eq_iff_iff, key]
  simp only [Bool.and_eq_true, decide_eq_true_eq]
  constructor
  · rintro ⟨a, b⟩; exact ⟨a, by omega, b⟩
  · rintro ⟨a, _, b⟩; exact ⟨a, b⟩

end Go.Proofs.YtokecnkjgoghhaaDoor.Sp
end
section
/- The reference tells the same steps apart as the program: its pair is the program's. Conditions: lengths as they stand in each statement. -/
set_option linter.unusedVariables false
set_option linter.unusedSimpArgs false
namespace Go.Proofs.YtokecnkjgoghhaaDoor.Sp
open Go Go.Proofs.YtokecnkjgoghhaaDoor.Ab Go.Proofs.YtokecnkjgoghhaaDoor.Tb Go.Proofs.YtokecnkjgoghhaaDoor.EText

theorem chk_right {p : Prm} (h : chk p = 0) : 1 ≤ p.1 ∧ ∀ s ∈ touchesL p, rightP s = true := by
  have h0 := h
  unfold chk at h
  split at h
  · cases h
  · rename_i a1
    split at h
    · cases h
    · rename_i a2
      refine ⟨by omega, fun s hs => ?_⟩
      unfold touchesL at hs
      rw [if_neg (by simp [h0])] at hs
      split at hs
      · rename_i k5
        rcases List.mem_cons.1 hs with rfl | hs
        · cases hr : rightP p.2.1 with
          | true => rfl
          | false => exact absurd (.inl hr) a2
        · rw [List.mem_singleton.1 hs]
          cases hr : rightP p.2.2.1 with
          | true => rfl
          | false => exact absurd (.inr ⟨k5, .inl hr⟩) a2
      · rw [List.mem_singleton.1 hs]
        cases hr : rightP p.2.1 with
        | true => rfl
        | false => exact absurd (.inl hr) a2
theorem right_ne {s : Txt} (h : rightP s = true) : s ≠ zt := by
  rintro rfl
  have : rightP zt = false := by kernel_rfl
  rw [this] at h; cases h
theorem right_len {s : Txt} (h : rightP s = true) : (names s).length ≤ top := by
  have e1 : names s = splitL s slash := by unfold names; rw [if_pos h]
  rw [e1]
  unfold rightP at h
  simp only [Bool.and_eq_true, decide_eq_true_eq] at h
  have := h.2.1
  simp only [top]; omega
theorem near_touch {p : Prm} (h : chk p = 0) {a b : Txt} (ha : a ∈ touchesL p) (hb : rightP b = true) : nearB p a b = (decide (a = b) || aboveB p b) := by
  obtain ⟨h1, h2⟩ := chk_right h
  unfold nearB aboveB
  congr 1
  by_cases hk : p.1 ≤ 2
  · have hp : a = p.2.1 := by
      unfold touchesL at ha
      rw [if_neg (by simp [h]), if_neg (by omega)] at ha
      exact List.mem_singleton.1 ha
    have hd : (decide (p.1 = 1) || decide (p.1 = 2)) = true := by
      simp only [Bool.or_eq_true, decide_eq_true_eq]; omega
    rw [decide_eq_true hk, hd, ← hp, within_names b a hb (h2 a ha) (right_ne (h2 a ha))]
  · have hd : (decide (p.1 = 1) || decide (p.1 = 2)) = false := by
      simp only [Bool.or_eq_false_iff, decide_eq_false_iff_not]; omega
    rw [decide_eq_false hk, hd]
    rfl
theorem apart_eq (p q : Prm) (hp : chk p = 0) (hq : chk q = 0) : apart8B p q = apartB p q := by
  obtain ⟨_, r1⟩ := chk_right hp
  obtain ⟨_, r2⟩ := chk_right hq
  have n1 : touchesL p ≠ [] := by
    unfold touchesL; rw [if_neg (by simp [hp])]; split <;> simp
  have n2 : touchesL q ≠ [] := by
    unfold touchesL; rw [if_neg (by simp [hq])]; split <;> simp
  unfold apart8B apartB
  rw [decide_eq_true n1, decide_eq_true n2, decide_eq_true (List.length_pos_iff.2 n1), decide_eq_true (List.length_pos_iff.2 n2)]
  simp only [Bool.and_true, Bool.true_and]
  rw [← Bool.not_or]
  congr 1
  rw [Bool.eq_iff_iff]
  unfold anyNear
  simp only [Bool.or_eq_true, List.any_eq_true, decide_eq_true_eq]
  constructor
  · rintro ⟨a, ha, b, hb, h | h⟩
    · rw [near_touch hp ha (r2 b hb)] at h
      simp only [Bool.or_eq_true, decide_eq_true_eq] at h
      rcases h with h | h
      · exact .inl ⟨a, ha, .inl ⟨b, hb, h⟩⟩
      · exact .inr ⟨b, hb, h⟩
    · rw [near_touch hq hb (r1 a ha)] at h
      simp only [Bool.or_eq_true, decide_eq_true_eq] at h
      rcases h with h | h
      · exact .inl ⟨a, ha, .inl ⟨b, hb, h.symm⟩⟩
      · exact .inl ⟨a, ha, .inr h⟩
  · rintro (⟨a, ha, ⟨b, hb, h⟩ | h⟩ | ⟨b, hb, h⟩)
    · exact ⟨a, ha, b, hb, .inl (by rw [near_touch hp ha (r2 b hb)]; simp [h])⟩
    · obtain ⟨b, hb⟩ := List.exists_mem_of_ne_nil _ n2
      exact ⟨a, ha, b, hb, .inr (by rw [near_touch hq hb (r1 a ha)]; simp [h])⟩
    · obtain ⟨a, ha⟩ := List.exists_mem_of_ne_nil _ n1
      exact ⟨a, ha, b, hb, .inl (by rw [near_touch hp ha (r2 b hb)]; simp [h])⟩

/-- ████ The reference's pair is the program's. ████ -/
theorem h8 : H8 := fun p q hp hq => pair8_of p q hp hq fun h1 h2 => by
  rw [← apart_eq p q h1 h2]
  exact apart8_ok p q hp hq (fun s hs => right_len ((chk_right h1).2 s hs)) (fun s hs => right_len ((chk_right h2).2 s hs))

end Go.Proofs.YtokecnkjgoghhaaDoor.Sp
end
section
/- SeqRows answers true, where awake does. Conditions: lengths as they stand in each statement. -/
set_option linter.unusedVariables false
set_option linter.unusedSimpArgs false
namespace Go.Proofs.YtokecnkjgoghhaaDoor.Sp
open Go Go.Proofs.YtokecnkjgoghhaaDoor.Ab Go.Proofs.YtokecnkjgoghhaaDoor.Tb Go.Proofs.YtokecnkjgoghhaaDoor.EText

theorem rowsG_md : ∀ (l x y : List Prm), (∀ q ∈ l, Md q) → (∀ q ∈ x, Md q) → (∀ q ∈ y, Md q) → (∀ q ∈ (rowsG l x y).1, Md q) ∧ (∀ q ∈ (rowsG l x y).2.1, Md q) ∧ (rowsG l x y).1.length ≤ x.length ∧ (rowsG l x y).2.1.length ≤ y.length + l.length
  | [], x, y, _, hx, hy => ⟨hx, hy, Nat.le_refl _, by simp [rowsG]⟩
  | p :: l, x, y, hl, hx, hy => by
    obtain ⟨m1, m2, m3⟩ := pastP_md p x (hl p (by simp)) hx
    unfold rowsG
    split
    · exact ⟨fun q h => (by cases h), fun q h => (by cases h), by simp, by simp⟩
    · obtain ⟨h1, h2, h3, h4⟩ := rowsG_md l (pastP p x).1 ((pastP p x).2.1 :: y) (fun q hq => hl q (List.mem_cons_of_mem _ hq)) m1 (fun q hq => by
        rcases List.mem_cons.1 hq with rfl | hq
        · exact m2
        · exact hy q hq)
      exact ⟨h1, h2, by omega, by simp at h4 ⊢; omega⟩
theorem frontR_md : ∀ (l : List Prm) (one : Prm) (rest : List Prm), (∀ q ∈ l, Md q) → Md one → (∀ q ∈ rest, Md q) → (∀ q ∈ (frontR l one rest).1, Md q) ∧ (frontR l one rest).1.length ≤ l.length + 1 + rest.length
  | [], one, rest, _, ho, hr => ⟨fun q hq => by
      rcases List.mem_cons.1 hq with rfl | hq
      · exact ho
      · exact hr q hq, by simp [frontR]; omega⟩
  | p :: l, one, rest, hl, ho, hr => by
    unfold frontR
    split
    · exact ⟨fun q h => (by cases h), by simp⟩
    · obtain ⟨h1, h2⟩ := frontR_md l (pairC p one).1 ((pairC p one).2.1 :: rest) (fun q hq => hl q (List.mem_cons_of_mem _ hq)) (pairC_md (hl p (by simp)) ho).1 (fun q hq => by
        rcases List.mem_cons.1 hq with rfl | hq
        · exact (pairC_md (hl p (by simp)) ho).2
        · exact hr q hq)
      exact ⟨h1, by simp at h2 ⊢; omega⟩
theorem frontP_md (l : List Prm) (i : Int) (hl : ∀ q ∈ l, Md q) : (∀ q ∈ (frontP l i).1, Md q) ∧ (frontP l i).1.length ≤ 2 * l.length + 1 := by
  unfold frontP
  split
  · exact ⟨fun q h => (by cases h), by simp⟩
  · split
    · rename_i one h
      obtain ⟨h1, h2⟩ := frontR_md (l.take i.toNat).reverse one (l.drop (i.toNat + 1)) (fun q hq => hl q (List.mem_of_mem_take (List.mem_reverse.1 hq))) (hl _ (List.mem_of_getElem? h)) (fun q hq => hl q (List.mem_of_mem_drop hq))
      refine ⟨h1, Nat.le_trans h2 ?_⟩
      simp only [List.length_reverse, List.length_take, List.length_drop]; omega
    · exact ⟨fun q h => (by cases h), by simp⟩

theorem seqRows_of (haw : cR 44 [RT.d .bool] [] = some true) (a b : List Prm) (i : Int) (hal : a.length ≤ top) (hap : ∀ p ∈ a, POk p) (hbl : b.length ≤ top) (hbp : ∀ p ∈ b, POk p) (hi : fits i) :
    callW W0 8 [inj (.sl ty24) a, inj (.sl ty24) b, inj (.int .i64) i] = some (injRs [RT.d .bool] true) := by
  refine callG_step ((e8 a b i).trans ?_)
  rw [light7_ok a hal hap, Option.bind_some, haw, Option.bind_some]
  cases ha : light7 a with
  | false => rw [ifs_neg (by simp)]
  | true =>
    rw [ifs_pos (by simp), light7_ok b hbl hbp, Option.bind_some]
    cases hb : light7 b with
    | false => rw [ifs_neg (by simp)]
    | true =>
      rw [ifs_pos (by simp)]
      by_cases h1 : (a.length : Int) > 12
      · rw [ifs_neg (by simpa using h1)]
      · rw [ifs_pos (by simpa using h1)]
        by_cases h2 : (b.length : Int) > 12
        · rw [ifs_pos (by simpa using h2)]
        · have ma : ∀ p ∈ a, Md p := fun p hp => light7_md ha hp
          have mb : ∀ p ∈ b, Md p := fun p hp => light7_md hb hp
          rw [ifs_neg (by simpa using h2), rows_ok a b (by omega) (by omega) ma mb, Option.bind_some, rows10_ok h8 a b (by omega) (by omega) ma mb, Option.bind_some, front_ok a i hi (by omega) ma, Option.bind_some, front10_ok h8 a i hi (by omega) ma, Option.bind_some, ifs_pos (by simp)]
          obtain ⟨r1, r2, r3, r4⟩ := rowsG_md a.reverse b [] (fun q hq => ma q (List.mem_reverse.1 hq)) mb (fun q h => by cases h)
          obtain ⟨f1, f2⟩ := frontP_md a i ma
          simp only [List.length_reverse, List.length_nil] at r4
          change ∀ q ∈ (rowsP a b).1, Md q at r1
          change ∀ q ∈ (rowsP a b).2.1, Md q at r2
          change (rowsP a b).1.length ≤ _ at r3
          change (rowsP a b).2.1.length ≤ _ at r4
          have s1 : cR 13 [RT.d .bool] [inj (.sl ty24) (rowsP a b).1, inj (.sl ty24) (rowsP a b).1] = some true := by
            rw [same7_ok _ _ (by simp only [top]; omega) (fun p hp => (r1 p hp).pok)]; simp
          have s2 : cR 13 [RT.d .bool] [inj (.sl ty24) (rowsP a b).2.1, inj (.sl ty24) (rowsP a b).2.1] = some true := by
            rw [same7_ok _ _ (by simp only [top]; omega) (fun p hp => (r2 p hp).pok)]; simp
          have s3 : cR 13 [RT.d .bool] [inj (.sl ty24) (frontP a i).1, inj (.sl ty24) (frontP a i).1] = some true := by
            rw [same7_ok _ _ (by simp only [top]; omega) (fun p hp => (f1 p hp).pok)]; simp
          simp only [List.take_length]
          rw [s1, Option.bind_some, ifs_pos (by simp), s2, Option.bind_some, ifs_pos (by simp), ifs_pos (by simp), s3, Option.bind_some, ifs_neg (by simp)]
          cases a with
          | nil => rw [ifs_pos (by simp)]
          | cons p a =>
            have mp : Md p := ma p (by simp)
            obtain ⟨q1, q2, q3⟩ := pastP_md p b mp mb
            have g0 : (p :: a)[Int.toNat 0]? = some p := rfl
            rw [ifs_neg (by simp; omega), g0, Option.bind_some, past_ok p b mp (by omega) mb, Option.bind_some, Option.bind_some, past10_ok h8 p b mp (by omega) mb, Option.bind_some, Option.bind_some, ifs_pos rfl, ifs_pos (by simp)]
            have s4 : cR 13 [RT.d .bool] [inj (.sl ty24) (pastP p b).1, inj (.sl ty24) (pastP p b).1] = some true := by
              rw [same7_ok _ _ (by simp only [top]; omega) (fun p hp => (q1 p hp).pok)]; simp
            have s5 : cR 13 [RT.d .bool] [inj (.sl ty24) [(pastP p b).2.1], inj (.sl ty24) [(pastP p b).2.1]] = some true := by
              rw [same7_ok _ _ (by simp [top]) (fun x hx => by rw [List.mem_singleton.1 hx]; exact q2.pok)]; simp
            rw [s4, Option.bind_some, ifs_pos rfl, s5]
            rfl

end Go.Proofs.YtokecnkjgoghhaaDoor.Sp
end
section
/- seq's awake comes to true. No condition. -/
set_option linter.unusedVariables false
set_option linter.unusedSimpArgs false
namespace Go.Proofs.YtokecnkjgoghhaaDoor.Sp
open Go Go.Proofs.YtokecnkjgoghhaaDoor.Ab Go.Proofs.YtokecnkjgoghhaaDoor.Tb Go.Proofs.YtokecnkjgoghhaaDoor.EText
def pF : Prm := (3, { data := #[(97 : UInt8)] }, { data := #[] }, 0, [], [])
def pD : Prm := (1, { data := #[(100 : UInt8)] }, { data := #[] }, 0, [], [])
def pH : Prm := (6, { data := #[(97 : UInt8)] }, { data := #[] }, 0, [], [{ data := #[(120 : UInt8)] }])
theorem aw1 : cR 51 [RT.d (.sl (.int .i64))] [inj (.sl ty24) [pF, pD, pH], inj (.int .i64) 2] = some [0] := callT_ofN 60 (by kernel_rfl)
theorem aw2 : ∃ r : Prm, ∃ l, cR 47 [RT.d (.sl ty24), RT.d (.int .i64)] [inj (.sl ty24) [pF, pD], inj (.int .i64) 1] = some (r :: l, 0) ∧ r.1 = 1 := ⟨pD, [pF], callT_ofN 60 (by kernel_rfl), rfl⟩
theorem aw3 : cR 47 [RT.d (.sl ty24), RT.d (.int .i64)] [inj (.sl ty24) [pF, pH], inj (.int .i64) 1] = some ([], 13) := callT_ofN 60 (by kernel_rfl)
theorem aw4 : cR 60 [RT.own 9 .str] [inj ty24 pF] = some [{ data := #[(97 : UInt8)] }] := callT_ofN 60 (by kernel_rfl)
theorem aw5 : cR 60 [RT.own 9 .str] [inj ty24 pH] = some [{ data := #[(97 : UInt8)] }] := callT_ofN 60 (by kernel_rfl)
theorem aw6 : cR 60 [RT.own 9 .str] [inj ty24 pD] = some [{ data := #[(100 : UInt8)] }] := callT_ofN 60 (by kernel_rfl)
theorem sort_aad : ESet.sortB [[97], [97], [100]] = [[97], [97], [100]] := by
  simp [ESet.sortB, List.mergeSort, List.MergeSort.Internal.splitInTwo, List.merge]
  try decide +kernel
theorem set_aad : ESet.setL [⟨#[97]⟩, ⟨#[97]⟩, ⟨#[100]⟩] = [⟨#[97]⟩, ⟨#[100]⟩] := by
  unfold ESet.setL ESet.setB
  rw [show ([⟨#[97]⟩, ⟨#[97]⟩, ⟨#[100]⟩] : List ByteArray).map ESet.bs = [[97], [97], [100]] from rfl, sort_aad]
  decide +kernel
theorem nset_ok (xs : List Txt) (h : xs.length * 16 ≤ 140737488355328) : cR 104 [RT.own 9 .str] [inj (.sl .str) xs] = some (ESet.setL xs) := by
  refine callT_of ?_
  show (if xs.length * 16 ≤ 140737488355328 then some [RV.own 9 .str (ESet.setL xs)] else none) = _
  rw [if_pos h]; rfl
theorem aw7 : cR 55 [RT.own 9 .str] [inj (.sl ty24) [pF, pH, pD]] = some [⟨#[97]⟩, ⟨#[100]⟩] := by
  have w1 : IntKind.i64.wrap (0 + 1) = 1 := wr _ (by omega)
  have w2 : IntKind.i64.wrap (1 + 1) = 2 := wr _ (by omega)
  have w3 : IntKind.i64.wrap (2 + 1) = 3 := wr _ (by omega)
  have g0 : ([pF, pH, pD] : List Prm)[Int.toNat 0]? = some pF := rfl
  have g1 : ([pF, pH, pD] : List Prm)[Int.toNat 1]? = some pH := rfl
  have g2 : ([pF, pH, pD] : List Prm)[Int.toNat 2]? = some pD := rfl
  refine callT_of ((e55 _).trans ?_)
  refine cutG_step ((q55_3 ..).trans ?_)
  rw [ifs_pos (by simp), ifs_pos (by omega), g0, Option.bind_some, aw4, Option.bind_some, ifs_pos (by simp), w1]
  refine cutG_step ((q55_3 ..).trans ?_)
  rw [ifs_pos (by simp), ifs_pos (by omega), g1, Option.bind_some, aw5, Option.bind_some, ifs_pos (by simp), w2]
  refine cutG_step ((q55_3 ..).trans ?_)
  rw [ifs_pos (by simp), ifs_pos (by omega), g2, Option.bind_some, aw6, Option.bind_some, ifs_pos (by simp), w3]
  refine cutG_step ((q55_3 ..).trans ?_)
  rw [ifs_neg (by simp)]
  have := nset_ok [⟨#[97]⟩, ⟨#[97]⟩, ⟨#[100]⟩] (by simp)
  rw [set_aad] at this
  exact (congrArg (fun o => Option.bind o _) this).trans rfl
theorem awake10_ok : cR 44 [RT.d .bool] [] = some true := by
  refine callT_of (e44.trans ?_)
  obtain ⟨r, l, h2, h3⟩ := aw2
  have a1 := aw1; have a3 := aw3; have a7 := aw7
  unfold pF pD pH at *
  rw [a1, Option.bind_some, h2, Option.bind_some, a3, Option.bind_some, ifs_pos (by simp)]
  show Option.bind (some (0 : Int)) _ = _
  rw [Option.bind_some, ifs_pos (by simp), ifs_pos (by simp)]
  show Option.bind (some r) _ = _
  rw [Option.bind_some, ifs_pos (by simp [h3]), ifs_pos (by simp), a7]
  rfl
end Go.Proofs.YtokecnkjgoghhaaDoor.Sp
end
section
/- A list of texts that rises strictly is told by what it has; the reference's set and the touched paths. Conditions: lengths as they stand in each statement. -/
namespace Go.Proofs.YtokecnkjgoghhaaDoor.ESort
open Go.Lib
open Go.Proofs.YtokecnkjgoghhaaDoor.ESet (bs unbs unbs_bs bs_unbs sortB setB setL)

def SS (l : List (List UInt8)) : Prop := l.Pairwise (· < ·)
theorem ss_ext : ∀ {a b : List (List UInt8)}, SS a → SS b → (∀ x, x ∈ a ↔ x ∈ b) → a = b := by
  intro a
  induction a with
  | nil =>
    intro b _ _ h
    cases b with
    | nil => rfl
    | cons y b => exact absurd ((h y).2 (List.mem_cons_self)) (by simp)
  | cons x a ih =>
    intro b ha hb h
    cases b with
    | nil => exact absurd ((h x).1 (List.mem_cons_self)) (by simp)
    | cons y b =>
      obtain ⟨ha1, ha2⟩ := List.pairwise_cons.1 ha
      obtain ⟨hb1, hb2⟩ := List.pairwise_cons.1 hb
      have hxy : x = y := by
        rcases List.mem_cons.1 ((h x).1 List.mem_cons_self) with e | e
        · exact e
        · rcases List.mem_cons.1 ((h y).2 List.mem_cons_self) with e2 | e2
          · exact e2.symm
          · exact absurd (List.lt_trans (hb1 x e) (ha1 y e2)) (List.lt_irrefl _)
      subst hxy
      refine congrArg _ (ih ha2 hb2 fun z => ⟨fun hz => ?_, fun hz => ?_⟩)
      · rcases List.mem_cons.1 ((h z).1 (List.mem_cons_of_mem _ hz)) with e | e
        · subst e; exact absurd (ha1 z hz) (List.lt_irrefl _)
        · exact e
      · rcases List.mem_cons.1 ((h z).2 (List.mem_cons_of_mem _ hz)) with e | e
        · subst e; exact absurd (hb1 z hz) (List.lt_irrefl _)
        · exact e

theorem sorted_get {d : Array (List UInt8)} (h : d.toList.Pairwise (· ≤ ·)) : ∀ (i j : Nat), i ≤ j → j < d.size → d[i]! ≤ d[j]! := by
  intro i j hij hj
  rcases Nat.lt_or_ge i j with hlt | hge
  · have h1 := List.pairwise_iff_getElem.1 h i j (by simp; omega) (by simpa using hj) hlt
    rw [getElem!_pos d i (by omega), getElem!_pos d j hj]
    simpa using h1
  · have : i = j := by omega
    subst this
    exact List.le_refl _

theorem compact_facts (d : Array (List UInt8)) (h : d.toList.Pairwise (· ≤ ·)) : ∀ m, m ≤ d.size →
    SS (compactUpTo d m) ∧ (∀ x, x ∈ compactUpTo d m ↔ ∃ j, j < m ∧ d[j]! = x) := by
  intro m
  induction m with
  | zero => exact fun _ => ⟨List.Pairwise.nil, fun x => ⟨fun hx => by simp [compactUpTo] at hx, fun ⟨j, hj, _⟩ => absurd hj (by omega)⟩⟩
  | succ m ih =>
    intro hm
    obtain ⟨h1, h2⟩ := ih (by omega)
    rw [compactUpTo_succ]
    by_cases hk : keeps d m = true
    · rw [if_pos hk]
      refine ⟨List.pairwise_append.2 ⟨h1, List.pairwise_singleton _ _, fun x hx y hy => ?_⟩, fun x => ?_⟩
      · obtain ⟨j, hj, rfl⟩ := (h2 x).1 hx
        have := List.mem_singleton.1 hy
        subst this
        have h0 : m ≠ 0 := by omega
        have hne : d[m]! ≠ d[m - 1]! := by simpa [keeps, h0] using hk
        have hl1 := sorted_get h j (m - 1) (by omega) (by omega)
        have hl2 := sorted_get h (m - 1) m (by omega) (by omega)
        refine List.lt_of_le_of_lt hl1 ?_
        rcases Classical.em (d[m - 1]! < d[m]!) with hlt | hlt
        · exact hlt
        · exact absurd (List.le_antisymm (List.not_lt.1 hlt) hl2) hne
      · rw [List.mem_append, h2, List.mem_singleton]
        constructor
        · rintro (⟨j, hj, rfl⟩ | rfl)
          · exact ⟨j, by omega, rfl⟩
          · exact ⟨m, by omega, rfl⟩
        · rintro ⟨j, hj, rfl⟩
          rcases Nat.lt_or_ge j m with hlt | hge
          · exact .inl ⟨j, hlt, rfl⟩
          · exact .inr (by rw [show j = m by omega])
    · rw [if_neg hk, List.append_nil]
      refine ⟨h1, fun x => (h2 x).trans ⟨fun ⟨j, hj, e⟩ => ⟨j, by omega, e⟩, fun ⟨j, hj, e⟩ => ?_⟩⟩
      rcases Nat.lt_or_ge j m with hlt | hge
      · exact ⟨j, hlt, e⟩
      · have hjm : j = m := by omega
        subst hjm
        have h0 : j ≠ 0 ∧ d[j]! = d[j - 1]! := by simpa [keeps] using hk
        exact ⟨j - 1, by omega, h0.2.symm.trans e⟩

theorem sortB_sorted (l : List (List UInt8)) : (sortB l).Pairwise (· ≤ ·) := by
  have h := List.pairwise_mergeSort (le := fun x y : List UInt8 => decide (x ≤ y)) (fun a b c h1 h2 => by simp at h1 h2 ⊢; exact List.le_trans h1 h2) (fun a b => by simp; exact List.le_total a b) l
  exact h.imp (fun h => by simpa using h)
theorem setB_facts (l : List ByteArray) : SS (setB l) ∧ ∀ x, x ∈ setB l ↔ x ∈ l.map bs := by
  have h := compact_facts (sortB (l.map bs)).toArray (by simpa using sortB_sorted (l.map bs)) (sortB (l.map bs)).length (by simp)
  refine ⟨h.1, fun x => ?_⟩
  show x ∈ compactUpTo (sortB (l.map bs)).toArray (sortB (l.map bs)).length ↔ _
  rw [h.2, ← (List.mergeSort_perm (l.map bs) (fun x y => decide (x ≤ y))).mem_iff]
  show _ ↔ x ∈ sortB (l.map bs)
  constructor
  · rintro ⟨j, hj, rfl⟩
    rw [getElem!_pos _ _ (by simpa using hj)]
    simp
  · intro hx
    obtain ⟨j, hj, e⟩ := List.getElem_of_mem hx
    exact ⟨j, hj, by rw [getElem!_pos _ _ (by simpa using hj)]; simpa using e⟩

/-- The same of texts. -/
def SL (l : List ByteArray) : Prop := SS (l.map bs)
theorem bs_inj {a b : ByteArray} (h : bs a = bs b) : a = b := by rw [← unbs_bs a, h, unbs_bs]
theorem sl_ext {a b : List ByteArray} (ha : SL a) (hb : SL b) (h : ∀ x, x ∈ a ↔ x ∈ b) : a = b := by
  have h2 := ss_ext ha hb (fun x => by
    simp only [List.mem_map]
    exact ⟨fun ⟨y, hy, e⟩ => ⟨y, (h y).1 hy, e⟩, fun ⟨y, hy, e⟩ => ⟨y, (h y).2 hy, e⟩⟩)
  have h3 := congrArg (List.map unbs) h2
  simpa [List.map_map, Function.comp_def, unbs_bs] using h3
theorem setL_sl (l : List ByteArray) : SL (setL l) := by
  show SS ((setL l).map bs)
  rw [show (setL l).map bs = setB l by simp [setL, List.map_map, Function.comp_def, bs_unbs]]
  exact (setB_facts l).1
theorem mem_setL (l : List ByteArray) (x : ByteArray) : x ∈ setL l ↔ x ∈ l := by
  constructor
  · intro h
    obtain ⟨y, hy, rfl⟩ := List.mem_map.1 h
    obtain ⟨z, hz, rfl⟩ := List.mem_map.1 (((setB_facts l).2 y).1 hy)
    rw [unbs_bs]
    exact hz
  · intro h
    exact List.mem_map.2 ⟨bs x, ((setB_facts l).2 _).2 (List.mem_map_of_mem h), unbs_bs x⟩
theorem filter_sl {l : List ByteArray} (h : SL l) (p : ByteArray → Bool) : SL (l.filter p) := by
  unfold SL SS at *
  rw [List.pairwise_map] at *
  exact h.filter p
theorem toList_data (s : ByteArray) : s.toList = s.data.toList := by
  obtain ⟨⟨l⟩⟩ := s
  simp
theorem toList_inj {a b : ByteArray} : a.toList = b.toList ↔ a = b := by
  rw [toList_data, toList_data]
  exact ⟨fun h => bs_inj h, fun h => by rw [h]⟩
theorem toList_bs (a : ByteArray) : a.toList = bs a := toList_data a
theorem setL_of {l r : List ByteArray} (hr : SL r) (h : ∀ x, x ∈ r ↔ x ∈ l) : r = setL l := sl_ext hr (setL_sl l) fun x => (h x).trans (mem_setL l x).symm
theorem setL_filter (l : List ByteArray) (p : ByteArray → Bool) : (setL l).filter p = setL (l.filter p) :=
  setL_of (filter_sl (setL_sl l) p) fun x => by simp only [List.mem_filter, mem_setL]
theorem take_drop_ins {out : List ByteArray} {v : ByteArray} {j : Nat} (hs : SL out) (hj : j ≤ out.length) (hlt : ∀ q (h : q < out.length), q < j → bs out[q] < bs v) (hge : ∀ h : j < out.length, bs v < bs out[j]) :
    SL (out.take j ++ [v] ++ out.drop j) := by
  unfold SL SS at *
  rw [List.pairwise_map] at *
  have h1 : (out.take j).Pairwise (fun a b => bs a < bs b) := hs.sublist (List.take_sublist _ _)
  have h2 : (out.drop j).Pairwise (fun a b => bs a < bs b) := hs.sublist (List.drop_sublist _ _)
  have h3 : ∀ x ∈ out.take j, bs x < bs v := by
    intro x hx
    obtain ⟨q, hq, rfl⟩ := List.getElem_of_mem hx
    rw [List.getElem_take]
    have : q < j := by simp at hq; omega
    exact hlt q (by omega) this
  have h4 : ∀ x ∈ out.drop j, bs v < bs x := by
    intro x hx
    rcases Nat.lt_or_ge j out.length with hjl | hjl
    · rw [List.drop_eq_getElem_cons hjl] at hx h2
      rcases List.mem_cons.1 hx with rfl | hx
      · exact hge hjl
      · exact List.lt_trans (hge hjl) ((List.pairwise_cons.1 h2).1 x hx)
    · rw [List.drop_of_length_le hjl] at hx
      cases hx
  refine List.pairwise_append.2 ⟨List.pairwise_append.2 ⟨h1, List.pairwise_singleton _ _, fun x hx y hy => ?_⟩, h2, fun x hx y hy => ?_⟩
  · rw [List.mem_singleton.1 hy]
    exact h3 x hx
  · rcases List.mem_append.1 hx with hx | hx
    · exact List.lt_trans (h3 x hx) (h4 y hy)
    · rw [List.mem_singleton.1 hx]
      exact h4 y hy

end Go.Proofs.YtokecnkjgoghhaaDoor.ESort

set_option linter.unusedVariables false
set_option linter.unusedSimpArgs false
namespace Go.Proofs.YtokecnkjgoghhaaDoor.Sp
open Go Go.Proofs.YtokecnkjgoghhaaDoor.Ab Go.Proofs.YtokecnkjgoghhaaDoor.Tb Go.Proofs.YtokecnkjgoghhaaDoor.EText Go.Proofs.YtokecnkjgoghhaaDoor.ESort
open Go.Proofs.YtokecnkjgoghhaaDoor.ESet (bs unbs setL)

theorem setL_len (l : List Txt) : (setL l).length ≤ l.length := by
  show (List.map _ _).length ≤ _
  rw [List.length_map]
  show (Go.Lib.compactUpTo _ _).length ≤ _
  unfold Go.Lib.compactUpTo
  rw [List.length_map]
  refine Nat.le_trans (List.length_filter_le _ _) ?_
  simp [ESet.sortB]

theorem set2_ins (l : List Txt) (hl : l.length ≤ 1000000) (i : Nat) (hi : i < l.length) (out : List Txt) (ho : out.length ≤ i) (hs : SL out) (Q : List Txt → List RV → Prop)
    (next : ∀ out' : List Txt, SL out' → out'.length ≤ i + 1 → (∀ x, x ∈ out' ↔ x ∈ out ∨ x = l[i]) → ∃ r, l56_3 l ((i + 1 : Nat) : Int) out' = some r ∧ Q out' r) :
    ∀ d j : Nat, out.length - j = d → j ≤ out.length → (∀ q (h : q < out.length), q < j → bs out[q] < bs l[i]) →
      ∃ out' r, l56_6 l (i : Int) (j : Int) out = some r ∧ (∀ x, x ∈ out' ↔ x ∈ out ∨ x = l[i]) ∧ Q out' r := by
  intro d
  induction d with
  | zero =>
    intro j hd hj hlt
    have hjl : j = out.length := by omega
    subst hjl
    have hs' := take_drop_ins (v := l[i]) hs hj hlt (fun h => absurd h (by omega))
    obtain ⟨r, hr, hq⟩ := next _ hs' (by simp; omega) (fun x => by simp [or_comm])
    refine ⟨_, r, cutG_step ((q56_6 ..).trans ?_), fun x => by simp, hq⟩
    rw [ifs_neg (by simp), ifs_neg (by simp), wrS hi (by simp only [top]; omega), ifs_pos (by omega), ifs_pos (by simp; omega), ifs_pos (by omega), Int.toNat_natCast, Int.toNat_natCast, List.getElem?_eq_getElem hi, Option.bind_some, ifs_pos (by simp; omega), ifs_pos (by omega), ifs_pos (by omega), ifs_pos (by simp; omega)]
    simp only [List.nil_append, List.take_length] at hr ⊢
    exact hr
  | succ d ih =>
    intro j hd hj hlt
    have h1 : j < out.length := by omega
    have wi := wrS hi (by simp only [top]; omega)
    have wj := wrS h1 (by simp only [top]; omega)
    by_cases hlt1 : bs out[j] < bs l[i]
    · obtain ⟨out', r, hr, hm, hq⟩ := ih (j + 1) (by omega) (by omega) (fun q h hq => by
        rcases Nat.lt_or_ge q j with h2 | h2
        · exact hlt q h h2
        · have : q = j := by omega
          subst this
          exact hlt1)
      refine ⟨out', r, cutG_step ((q56_6 ..).trans ?_), hm, hq⟩
      rw [ifs_pos (by simpa using h1), ifs_pos (by omega), Int.toNat_natCast, List.getElem?_eq_getElem h1, Option.bind_some, ifs_pos (by omega), Int.toNat_natCast, List.getElem?_eq_getElem hi, Option.bind_some, ifs_pos (by rw [bytesLess_eq, toList_bs, toList_bs]; exact decide_eq_true hlt1), wj]
      exact hr
    · by_cases he : out[j] = l[i]
      · obtain ⟨r, hr, hq⟩ := next out hs (by omega) (fun x => ⟨.inl, fun h => by rcases h with h | rfl; exact h; rw [← he]; exact List.getElem_mem _⟩)
        refine ⟨out, r, cutG_step ((q56_6 ..).trans ?_), fun x => ⟨.inl, fun h => by rcases h with h | rfl; exact h; rw [← he]; exact List.getElem_mem _⟩, hq⟩
        rw [ifs_pos (by simpa using h1), ifs_pos (by omega), Int.toNat_natCast, List.getElem?_eq_getElem h1, Option.bind_some, ifs_pos (by omega), Int.toNat_natCast, List.getElem?_eq_getElem hi, Option.bind_some, ifs_neg (by rw [bytesLess_eq, toList_bs, toList_bs]; simpa using hlt1), ifs_pos (by simpa using h1), ifs_pos (by omega), Option.bind_some, ifs_pos (by omega), Option.bind_some, ifs_pos (by rw [he]; simp), wi]
        exact hr
      · have hgt : bs l[i] < bs out[j] := by
          rcases Classical.em (bs l[i] < bs out[j]) with h | h
          · exact h
          · exact absurd (bs_inj (List.le_antisymm (List.not_lt.1 h) (List.not_lt.1 hlt1))) he
        have hs' := take_drop_ins (v := l[i]) hs hj hlt (fun _ => hgt)
        have hmem : ∀ x, x ∈ out.take j ++ [l[i]] ++ out.drop j ↔ x ∈ out ∨ x = l[i] := fun x => by
          have hm0 : x ∈ out ↔ x ∈ out.take j ∨ x ∈ out.drop j := by
            conv => lhs; rw [← List.take_append_drop j out]
            exact List.mem_append
          simp only [List.mem_append, List.mem_singleton, hm0]
          constructor
          · rintro ((h | h) | h)
            · exact .inl (.inl h)
            · exact .inr h
            · exact .inl (.inr h)
          · rintro ((h | h) | h)
            · exact .inl (.inl h)
            · exact .inr h
            · exact .inl (.inr h)
        obtain ⟨r, hr, hq⟩ := next _ hs' (by simp; omega) hmem
        refine ⟨_, r, cutG_step ((q56_6 ..).trans ?_), hmem, hq⟩
        rw [ifs_pos (by simpa using h1), ifs_pos (by omega), Int.toNat_natCast, List.getElem?_eq_getElem h1, Option.bind_some, ifs_pos (by omega), Int.toNat_natCast, List.getElem?_eq_getElem hi, Option.bind_some, ifs_neg (by rw [bytesLess_eq, toList_bs, toList_bs]; simpa using hlt1), ifs_pos (by simpa using h1), ifs_pos (by omega), Option.bind_some, ifs_pos (by omega), Option.bind_some, ifs_neg (by rw [beq_iff_eq, toList_inj]; exact he), wi, ifs_pos (by omega), ifs_pos (by simp; omega), ifs_pos (by omega), Option.bind_some, ifs_pos (by simp; omega), ifs_pos (by omega), ifs_pos (by omega), ifs_pos (by simp; omega)]
        simp only [List.nil_append, List.take_length, Int.toNat_natCast] at hr ⊢
        exact hr

theorem set2_loop (l : List Txt) (hl : l.length ≤ 1000000) : ∀ d i : Nat, l.length - i = d → i ≤ l.length → ∀ out : List Txt, SL out → out.length ≤ i → ∃ r, l56_3 l (i : Int) out = some (injRs [RT.own 9 .str] r) ∧ SL r ∧ ∀ x, x ∈ r ↔ x ∈ out ∨ x ∈ l.drop i := by
  intro d
  induction d with
  | zero =>
    intro i hd hi out hs ho
    refine ⟨out, cutG_step ((q56_3 ..).trans ?_), hs, fun x => by rw [List.drop_of_length_le (by omega)]; simp⟩
    rw [ifs_neg (by simp; omega), List.take_length]
  | succ d ih =>
    intro i hd hi out hs ho
    have h1 : i < l.length := by omega
    obtain ⟨out', r, hr, hm, r', rfl, hq1, hq2⟩ := set2_ins l hl i h1 out ho hs (fun out' r => ∃ r', r = injRs [RT.own 9 .str] r' ∧ SL r' ∧ ∀ x, x ∈ r' ↔ x ∈ out' ∨ x ∈ l.drop (i + 1)) (fun out' h1 h2 _ => by
      obtain ⟨r, hr, ha, hb⟩ := ih (i + 1) (by omega) (by omega) out' h1 h2
      exact ⟨_, hr, r, rfl, ha, hb⟩) _ 0 rfl (by omega) (fun q _ hq => absurd hq (by omega))
    refine ⟨r', cutG_step ((q56_3 ..).trans ?_), hq1, fun x => ?_⟩
    · rw [ifs_pos (by simpa using h1)]
      exact hr
    · rw [hq2, hm, List.drop_eq_getElem_cons h1, List.mem_cons]
      constructor
      · rintro ((h | h) | h)
        · exact .inl h
        · exact .inr (.inl h)
        · exact .inr (.inr h)
      · rintro (h | h | h)
        · exact .inl (.inl h)
        · exact .inl (.inr h)
        · exact .inr h
theorem set2_ok (l : List Txt) (hl : l.length ≤ 1000000) : cR 56 [RT.own 9 .str] [inj (.sl .str) l] = some (setL l) := by
  obtain ⟨r, hr, h1, h2⟩ := set2_loop l hl _ 0 rfl (by omega) [] List.Pairwise.nil (by simp)
  have e : r = setL l := setL_of h1 fun x => by simpa using h2 x
  subst e
  exact callT_of ((e56 l).trans hr)

/-- All paths that a row touches. -/
def pathsL (l : List Prm) : List Txt := l.flatMap touchesL
theorem pathsL_len : ∀ l : List Prm, (pathsL l).length ≤ 2 * l.length
  | [] => by simp [pathsL]
  | p :: l => by
    have := pathsL_len l
    have := touches_len p
    simp only [pathsL, List.flatMap_cons, List.length_append, List.length_cons] at *
    omega
theorem stouched_ok (l : List Prm) (hl : l.length ≤ 10000) (hm : ∀ q ∈ l, Md q) : cR 55 [RT.own 9 .str] [inj (.sl ty24) l] = some (setL (pathsL l)) := by
  have key : ∀ i : Nat, i ≤ l.length → ∀ acc : List Txt, acc.length ≤ 2 * i → l55_3 l l.length i acc = some (injRs [RT.own 9 .str] (setL (acc ++ pathsL (l.drop i)))) := by
    refine upTo (fun i hi ih => ?_) ?_
    · intro acc ha
      refine cutG_step ((q55_3 ..).trans ?_)
      have hq : Md l[i] := hm _ (List.getElem_mem hi)
      have := touches_len l[i]
      have hdr : pathsL (l.drop i) = touchesL l[i] ++ pathsL (l.drop (i + 1)) := by rw [List.drop_eq_getElem_cons hi]; rfl
      rw [ifs_pos (by simpa using hi), ifs_pos (by omega), Int.toNat_natCast, List.getElem?_eq_getElem hi, Option.bind_some, touches_ok l[i] hq, Option.bind_some, ifs_pos (by simp; omega), List.take_length, List.take_length, wrS hi (by simp only [top]; omega), ih _ (by simp; omega), hdr, List.append_assoc]
    · intro acc ha
      refine cutG_step ((q55_3 ..).trans ?_)
      rw [ifs_neg (by simp), List.take_length, nset_ok acc (by omega), Option.bind_some, List.take_length, List.drop_length]
      simp [pathsL]
  have := key 0 (Nat.zero_le _) [] (by simp)
  rw [List.drop_zero, List.nil_append] at this
  exact callT_of ((e55 l).trans this)
end Go.Proofs.YtokecnkjgoghhaaDoor.Sp
end
section
/- A step comes to the front just if it needs nothing; neighbours that can't be swapped for their place. Conditions: lengths as they stand in each statement. -/
set_option linter.unusedVariables false
set_option linter.unusedSimpArgs false
namespace Go.Proofs.YtokecnkjgoghhaaDoor.Sp
open Go Go.Proofs.YtokecnkjgoghhaaDoor.Ab Go.Proofs.YtokecnkjgoghhaaDoor.Tb Go.Proofs.YtokecnkjgoghhaaDoor.EText

theorem needsG_ne : ∀ (l : List Prm) (out : List Int) (g : List Prm), out ≠ [] → needsG l out g ≠ []
  | [], out, g, h => h
  | p :: l, out, g, h => by
    unfold needsG
    split
    · exact needsG_ne l _ _ (by simp)
    · exact needsG_ne l _ _ h
theorem past_one (p one : Prm) : pastP p [one] = if (pairC p one).2.2 ≠ 0 then ([], zp, (pairC p one).2.2) else ([(pairC p one).1], (pairC p one).2.1, 0) := rfl
theorem front_needs : ∀ (l : List Prm) (one : Prm) (rest : List Prm), ((frontR l one rest).2 = 0) ↔ (needsG l [] [one] = [])
  | [], one, rest => by simp [frontR, needsG]
  | p :: l, one, rest => by
    unfold frontR needsG
    rw [past_one]
    by_cases h : (pairC p one).2.2 = 0
    · rw [if_neg (by simp [h]), if_neg (by simp [h]), if_neg (by simp [h])]
      exact front_needs l _ _
    · rw [if_pos h, if_pos h, if_pos h]
      exact ⟨fun h2 => absurd h2 h, fun h2 => absurd h2 (needsG_ne l _ _ (by simp))⟩
theorem frontP_needs (l : List Prm) (i : Int) (h0 : 0 ≤ i) (h1 : i < l.length) : ((frontP l i).2 = 0) ↔ (needsP l i = []) := by
  unfold frontP needsP
  have hlt : i.toNat < l.length := by omega
  rw [if_neg (by omega), if_neg (by omega), List.getElem?_eq_getElem hlt]
  exact front_needs _ _ _

theorem needsG_len : ∀ (l : List Prm) (out : List Int) (g : List Prm), (needsG l out g).length ≤ out.length + l.length
  | [], out, g => by simp [needsG]
  | p :: l, out, g => by
    unfold needsG
    split
    · exact Nat.le_trans (needsG_len l _ _) (by simp; omega)
    · exact Nat.le_trans (needsG_len l _ _) (by simp)
theorem needsP_len (l : List Prm) (i : Int) : (needsP l i).length ≤ l.length := by
  unfold needsP
  split
  · simp
  · split
    · refine Nat.le_trans (needsG_len _ _ _) (by simp; omega)
    · simp

theorem swap_out (l : List Prm) (i : Int) (hi : fits i) (hl : l.length ≤ 1000) (h : i < 0 ∨ i ≥ (l.length : Int) - 1) :
    cR 54 [RT.own 24 ty24, RT.d (.int .i64)] [inj (.sl ty24) l, inj (.int .i64) i] = some (([], 3) : List Prm × Int) := by
  refine callT_of ((e54 _ _).trans ?_)
  have w2 : IntKind.i64.wrap ((l.length : Int) - 1) = (l.length : Int) - 1 := wr _ (by omega)
  by_cases h0 : i < 0
  · rw [ifs_neg (by simp [h0])]
  · rw [ifs_pos (by simp [h0]), w2, ifs_pos (by simp; omega)]

end Go.Proofs.YtokecnkjgoghhaaDoor.Sp
end
section
/- SeqNeeds answers true. Conditions: lengths as they stand in each statement. -/
set_option linter.unusedVariables false
set_option linter.unusedSimpArgs false
namespace Go.Proofs.YtokecnkjgoghhaaDoor.Sp
open Go Go.Proofs.YtokecnkjgoghhaaDoor.Ab Go.Proofs.YtokecnkjgoghhaaDoor.Tb Go.Proofs.YtokecnkjgoghhaaDoor.EText
open Go.Proofs.YtokecnkjgoghhaaDoor.ESet (setL)

theorem paths_same (l : List Prm) (hl : l.length ≤ 1000) : cR 42 [RT.d .bool] [inj (.sl .str) (setL (pathsL l)), inj (.sl .str) (setL (pathsL l))] = some true := by
  have h1 := pathsL_len l
  have h2 := setL_len (pathsL l)
  rw [same1_ok _ _ (by simp only [top]; omega)]; simp

/-- Two neighbours and what stands around them. -/
theorem around (l : List Prm) (i : Nat) (hi : i + 1 < l.length) : ∃ pre p q rest, l = pre ++ p :: q :: rest ∧ pre.length = i ∧ l[i]? = some p ∧ l[i + 1]? = some q := by
  refine ⟨l.take i, l[i], l[i + 1], l.drop (i + 2), ?_, by simp; omega, List.getElem?_eq_getElem (by omega), List.getElem?_eq_getElem hi⟩
  have h1 : l.drop i = l[i] :: l.drop (i + 1) := List.drop_eq_getElem_cons (by omega)
  have h2 : l.drop (i + 1) = l[i + 1] :: l.drop (i + 2) := List.drop_eq_getElem_cons hi
  rw [← h2, ← h1, List.take_append_drop]

theorem needs_tail (l : List Prm) (i : Int) (hi : fits i) (hl : l.length ≤ 15) (hm : ∀ q ∈ l, Md q) :
    ∀ k : Nat, k ≤ l.length → ∀ acc : List Txt, acc.length ≤ 2 * k → acc ++ pathsL (l.drop k) = pathsL l → l9_16 l i (k : Int) acc = some (injRs [RT.d .bool] true) := by
  refine upTo (fun k hk ih => ?_) ?_
  · intro acc ha he
    refine cutG_step ((q9_16 ..).trans ?_)
    have hq : Md l[k] := hm _ (List.getElem_mem hk)
    have := touches_len l[k]
    rw [ifs_pos (by simpa using hk), ifs_pos (by omega), Int.toNat_natCast, List.getElem?_eq_getElem hk, Option.bind_some, touches8_ok l[k] hq, Option.bind_some, ifs_pos (by simp; omega), List.take_length, List.take_length, wrS hk (by simp only [top]; omega)]
    have hdr : pathsL (l.drop k) = touchesL l[k] ++ pathsL (l.drop (k + 1)) := by rw [List.drop_eq_getElem_cons hk]; rfl
    refine ih _ (by simp; omega) ?_
    rw [← he, hdr, List.append_assoc]
  · intro acc ha he
    rw [List.drop_length] at he
    have he : acc = pathsL l := by rw [← he]; simp [pathsL]
    subst he
    refine cutG_step ((q9_16 ..).trans ?_)
    have hst := stouched_ok l (by omega) hm
    have hs2 := set2_ok (pathsL l) (by have := pathsL_len l; omega)
    have hps := paths_same l (by omega)
    have w2 : IntKind.i64.wrap ((l.length : Int) - 1) = (l.length : Int) - 1 := wr _ (by omega)
    have fin : (Option.bind (cR 55 [RT.own 9 Ty.str] [inj (Ty.sl ty24) l]) fun r => Option.bind (cR 56 [RT.own 9 Ty.str] [inj (Ty.sl Ty.str) (pathsL l)]) fun r_2 => Option.bind (cR 42 [RT.d Ty.bool] [inj (Ty.sl Ty.str) (List.take (List.length r) r), inj (Ty.sl Ty.str) (List.take (List.length r_2) r_2)]) fun r => some (injRs [RT.d Ty.bool] r)) = some (injRs [RT.d .bool] true) := by
      rw [hst, Option.bind_some, hs2, Option.bind_some, List.take_length, hps, Option.bind_some]
    rw [ifs_neg (by simp)]
    simp only [List.take_length (l := pathsL l), w2]
    by_cases h0 : i < 0
    · rw [swap_out l i hi (by omega) (.inl h0), Option.bind_some, ifs_neg (by simp [h0]), awake10_ok, Option.bind_some, ifs_pos rfl, ifs_pos (by rfl), ifs_pos (by rfl)]
      exact fin
    · by_cases h1 : i ≥ (l.length : Int) - 1
      · rw [swap_out l i hi (by omega) (.inr h1), Option.bind_some, ifs_pos (by simp [h0]), ifs_pos (by simpa using h1), awake10_ok, Option.bind_some, ifs_pos rfl, ifs_pos (by rfl), ifs_pos (by rfl)]
        exact fin
      · obtain ⟨n, rfl⟩ : ∃ n : Nat, i = (n : Int) := ⟨i.toNat, by omega⟩
        obtain ⟨pre, p, q, rest, he, hn, g0, g1⟩ := around l n (by omega)
        have mp : Md p := hm p (by rw [he]; simp)
        have mq : Md q := hm q (by rw [he]; simp)
        have w1 : IntKind.i64.wrap ((n : Int) + 1) = ((n + 1 : Nat) : Int) := by rw [wr _ (by omega)]; omega
        have hsw : cR 54 [RT.own 24 ty24, RT.d (.int .i64)] [inj (.sl ty24) l, inj (.int .i64) (n : Int)] = some (swapR pre p q rest) := by
          have := swap_in pre p q rest mp mq (by rw [← he]; omega)
          rw [← he, hn] at this
          exact this
        have hp8 : cR 57 [RT.d ty24, RT.d ty24, RT.d (.int .i64)] [inj ty24 p, inj ty24 q] = some (pairC p q) := h8 p q mp mq
        have g2 : (List.set l n (pairC p q).1)[n + 1]? = some q := by
          rw [List.getElem?_set]; rw [if_neg (by omega)]; exact g1
        have hset : List.set (List.set l n (pairC p q).1) (n + 1) (pairC p q).2.1 = pre ++ (pairC p q).1 :: (pairC p q).2.1 :: rest := by
          rw [he, ← hn, set_pre, set_pre1]
        rw [hsw, Option.bind_some, ifs_pos (by simp), ifs_neg (by simpa using h1), ifs_pos (by omega), Int.toNat_natCast, g0, Option.bind_some, w1, ifs_pos (by omega), Int.toNat_natCast, g1, Option.bind_some, hp8, Option.bind_some, ifs_pos (by omega)]
        simp only [List.nil_append]
        rw [ifs_pos (by omega), g0, Option.bind_some, ifs_pos (by omega), g2, Option.bind_some, awake10_ok, Option.bind_some, ifs_pos rfl, hset]
        unfold swapR
        by_cases hz : (pairC p q).2.2 = 0
        · rw [if_neg (by simp [hz]), ifs_pos (by simp [hz]), ifs_neg (by simp [hz]), ifs_pos (by simp [hz])]
          have hs7 : cR 13 [RT.d .bool] [inj (.sl ty24) (pre ++ (pairC p q).1 :: (pairC p q).2.1 :: rest), inj (.sl ty24) (pre ++ (pairC p q).1 :: (pairC p q).2.1 :: rest)] = some true := by
            have hl2 : l.length = (pre ++ p :: q :: rest).length := by rw [he]
            simp only [List.length_append, List.length_cons] at hl2
            rw [same7_ok _ _ (by simp only [List.length_append, List.length_cons, top]; omega) (fun x hx => ?_)]
            · simp
            · refine Md.pok ?_
              rcases List.mem_append.1 hx with hx | hx
              · exact hm x (by rw [he]; simp [hx])
              · rcases List.mem_cons.1 hx with rfl | hx
                · exact (pairC_md mp mq).1
                · rcases List.mem_cons.1 hx with rfl | hx
                  · exact (pairC_md mp mq).2
                  · exact hm x (by rw [he]; simp [hx])
          have hl3 : l.length = (pre ++ (pairC p q).1 :: (pairC p q).2.1 :: rest).length := by
            have : l.length = (pre ++ p :: q :: rest).length := by rw [he]
            simp only [List.length_append, List.length_cons] at this ⊢; omega
          simp only [List.take_length]
          rw [hl3, List.take_length, hs7, Option.bind_some, ifs_pos rfl]
          simp only [List.take_length] at fin
          exact fin
        · rw [if_pos hz, ifs_pos (by simp), ifs_pos (by simp [hz]), ifs_neg (by simp)]
          exact fin

theorem seqNeeds_of (l : List Prm) (i : Int) (hal : l.length ≤ top) (hap : ∀ p ∈ l, POk p) (hi : fits i) :
    callW W0 9 [inj (.sl ty24) l, inj (.int .i64) i] = some (injRs [RT.d .bool] true) := by
  refine callG_step ((e9 l i).trans ?_)
  rw [light7_ok l hal hap, Option.bind_some, awake10_ok]
  cases ha : light7 l with
  | false => rw [ifs_neg (by simp)]; rfl
  | true =>
    rw [ifs_pos (by simp)]
    by_cases h1 : (l.length : Int) > 15
    · rw [ifs_pos (by simpa using h1)]; rfl
    · have hm : ∀ p ∈ l, Md p := fun p hp => light7_md ha hp
      have hlen := needsP_len l i
      rw [ifs_neg (by simpa using h1), needs_ok l i hi (by omega) hm, Option.bind_some, needs10_ok h8 l i hi (by omega) hm, Option.bind_some]
      have key : ∀ k : Nat, k ≤ (needsP l i).length → l9_6 l i (needsP l i) (k : Int) (needsP l i) = some (injRs [RT.d .bool] true) := by
        refine upTo (fun k hk ih => ?_) ?_
        · refine cutG_step ((q9_6 ..).trans ?_)
          rw [ifs_pos (by simpa using hk), ifs_pos (by simp), ifs_pos (by omega), Int.toNat_natCast, List.getElem?_eq_getElem hk, Option.bind_some, ifs_pos (by omega), Option.bind_some, ifs_neg (by simp), wrS hk (by simp only [top]; omega)]
          exact ih
        · refine cutG_step ((q9_6 ..).trans ?_)
          have ht := needs_tail l i hi (by omega) hm 0 (Nat.zero_le _) [] (by simp) (by simp)
          rw [ifs_neg (by simp), front_ok l i hi (by omega) hm, Option.bind_some]
          by_cases h0 : i ≥ 0
          · rw [ifs_pos (by simpa using h0), ifs_pos (by simp)]
            by_cases h2 : i < l.length
            · have hf := frontP_needs l i h0 h2
              rw [ifs_pos (by simpa using h2), ifs_neg]
              · exact ht
              · by_cases hn : needsP l i = []
                · rw [hf.2 hn, hn]; simp
                · have h3 : (frontP l i).2 ≠ 0 := fun h => hn (hf.1 h)
                  have h4 : ¬ ((needsP l i).length : Int) = 0 := by
                    intro h; exact hn (List.eq_nil_of_length_eq_zero (by omega))
                  rw [show ((frontP l i).2 == 0) = false from by simpa using h3, show (((needsP l i).length : Int) == 0) = false from by simpa using hn]; simp
            · rw [ifs_neg (by simpa using h2)]
              exact ht
          · rw [ifs_neg (by simpa using h0), ifs_pos (by simp)]
            exact ht
      exact key 0 (Nat.zero_le _)

end Go.Proofs.YtokecnkjgoghhaaDoor.Sp
end
