/- What each function comes to on data: printed equations. No condition. slices.DeleteFunc and slices.Insert at api.File, as functions that take a slice of the caller's own. Conditions: lengths as they stand in each statement. slices.Insert of one file into a row of the caller's own: the row's head, the file, the rest. Conditions: lengths as they stand in each statement. The contracts of the library's functions and of the hand-walked ones, in the machine's words. No condition. The tables of this seat for the machine: its types, what its functions take and hand back, what is kept at their loops; a -/
import Derived.Test.YtokecnkjgoghhaaDoorM3
import Derived.Test.YtokecnkjgoghhaaDoorM2
import Derived.Test.YtokecnkjgoghhaaDoorM1
import Derived.WalkKit
import Derived.WalkSpells
import Derived.Lib.Hide
import Derived.Lib.SlKept
import Derived.Lib.SliceRun
import Derived.Laws.IdiomCopy
import Derived.Laws.CopyRow
import Derived.Deep.LoopGhost
import Derived.Deep.QuietTactic
import Derived.Shelf.Spec.SlicesInsert
import Derived.Lib.AppendZerosOnto
import Derived.Lib.Overlaps
import Derived.Test.YtokecnkjgoghhaaDoorProg
import Derived.ChangeArms
import Derived.ChangeSame
import Derived.ChangeMaps5
import Derived.Deep.Strs
import Derived.Test.YtokecnkjgoghhaaDoorRows
import Derived.Lib.LaidIn
import Derived.Lib.LaidU8
import Derived.Deep.DeepHandedRow
import Derived.ProofKit
import Derived.OpenShut
section
/- What each function comes to on data: printed equations. No condition. -/
set_option linter.unusedVariables false
set_option maxRecDepth 100000
namespace Go.Proofs.YtokecnkjgoghhaaDoor.TbF
open Go Go.Proofs.YtokecnkjgoghhaaDoor.Ab
noncomputable def td197_2 : List Item := (findT (code Tryd.f197) [] 2).getD []
noncomputable def l197_2 (x0 : List (ByteArray × Bool × List ByteArray)) (x1 : ByteArray) (x2 : Int) (x3 : Int) : Option (List RV) := cutW W0 n197 td197_2 { fr := [((0 : Nat), F.a (A.c (C.sl ty68 x0))), ((1 : Nat), F.a (A.c (C.cl (175 : Nat) [Pt.sh Ty.str x1 (0 : Nat)]))), ((7 : Nat), F.a (A.c (C.sc (Go.Value.int Go.IntKind.i64 x2)))), ((8 : Nat), F.a (A.c (C.sc (Go.Value.int Go.IntKind.i64 x3))))], mem := [], nx := (0 : Nat) }
theorem e197 (a0 : List (ByteArray × Bool × List ByteArray)) (k1_0 : ByteArray) : callG W0 (callW W0) (cutW W0) 197 [inj (Ty.sl ty68) a0, A.c (C.cl (175 : Nat) [Pt.sh Ty.str k1_0 (0 : Nat)])] = l197_2 a0 k1_0 (↑(List.length a0) : Int) (0 : Int) := by kernel_rfl
theorem q197_2 (x0 : List (ByteArray × Bool × List ByteArray)) (x1 : ByteArray) (x2 : Int) (x3 : Int) : cutG W0 (callW W0) (cutW W0) n197 td197_2 { fr := [((0 : Nat), F.a (A.c (C.sl ty68 x0))), ((1 : Nat), F.a (A.c (C.cl (175 : Nat) [Pt.sh Ty.str x1 (0 : Nat)]))), ((7 : Nat), F.a (A.c (C.sc (Go.Value.int Go.IntKind.i64 x2)))), ((8 : Nat), F.a (A.c (C.sc (Go.Value.int Go.IntKind.i64 x3))))], mem := [], nx := (0 : Nat) } = ifs (decide (x3 < x2) = true) (ifs ((0 : Int) ≤ x3) (Option.bind x0[Int.toNat x3]? fun r => Option.bind (cR (nat_lit 175) [RT.d Ty.bool] [inj ty68 r, A.c (C.pt (Pt.sh Ty.str x1 (0 : Nat)))]) fun r => ifs (r = true) (some (injRs [RT.d (Ty.int Go.IntKind.i64)] x3)) (l197_2 x0 x1 x2 (Go.IntKind.wrap Go.IntKind.i64 (x3 + (1 : Int))))) none) (some (injRs [RT.d (Ty.int Go.IntKind.i64)] (-1 : Int))) := by kernel_rfl
theorem e175 (a0 : ByteArray × Bool × List ByteArray) (a1 : ByteArray) : callG W0 (callW W0) (cutW W0) 175 [inj ty68 a0, A.c (C.pt (Pt.sh Ty.str a1 (0 : Nat)))] = some (injRs [RT.d Ty.bool] (ByteArray.toList a0.fst == ByteArray.toList a1)) := by kernel_rfl
end Go.Proofs.YtokecnkjgoghhaaDoor.TbF
end
section
/- slices.DeleteFunc and slices.Insert at api.File, as functions that take a slice of the caller's own. Conditions: lengths as they stand in each statement. -/
namespace Go.Proofs.YtokecnkjgoghhaaDoor.EFi
open Go Go.RowKit Go.Lib Go.Sort Go.Proofs.YtokecnkjgoghhaaDoor.Ab Go.Proofs.YtokecnkjgoghhaaDoorW.PrintWords
set_option linter.unusedVariables false
set_option linter.unusedSimpArgs false

abbrev tyP : Ty := .pair .str (.pair .bool (.sl .str))
abbrev Fl : Type := ByteArray × Bool × List ByteArray
theorem toList_beq (a b : ByteArray) : (a.toList == b.toList) = decide (a = b) := by
  have h : ∀ s : ByteArray, s.toList = s.data.toList := fun s => by obtain ⟨⟨l⟩⟩ := s; simp
  rw [Bool.eq_iff_iff, beq_iff_eq, h, h, decide_eq_true_eq]
  constructor
  · intro e; obtain ⟨⟨a⟩⟩ := a; obtain ⟨⟨b⟩⟩ := b; simpa using e
  · rintro rfl; rfl
theorem pred_eq (x : Fl) (s : ByteArray) : callT (envOf TbF.W0 (callW TbF.W0)) [RT.d .bool] 175 [inj tyP x, .c (.pt (.sh .str s 0))] = some (decide (x.1 = s)) :=
  callT_of ((TbF.e175 x s).trans (by rw [toList_beq]))
theorem pred_ok (x : Fl) (s : ByteArray) : CallOK Tryd.prog EGlob.G 175 [inj tyP x, .c (.pt (.sh .str s 0))] [.d (inj .bool (decide (x.1 = s)))] :=
  callW_ok TbF.w_ok (callG_step ((TbF.e175 x s).trans (by rw [toList_beq]; rfl))) (by kernel_rfl)
theorem idx_loop (xs : List Fl) (s : ByteArray) (hl : xs.length ≤ 9223372036854775806) : ∀ d i : Nat, xs.length - i = d → i ≤ xs.length → (∀ j, j < i → ∀ x, xs[j]? = some x → x.1 ≠ s) →
    ∃ r : Int, TbF.l197_2 xs s xs.length i = some (injRs [RT.d (.int .i64)] r) ∧ ((r = -1 ∧ ∀ x ∈ xs, x.1 ≠ s) ∨ ∃ (k : Nat) (x : Fl), r = (k : Int) ∧ xs[k]? = some x ∧ x.1 = s ∧ ∀ j, j < k → ∀ x, xs[j]? = some x → x.1 ≠ s) := by
  intro d
  induction d with
  | zero =>
    intro i hd hi hn
    refine ⟨-1, cutG_step ((TbF.q197_2 ..).trans ?_), .inl ⟨rfl, fun x hx => ?_⟩⟩
    · rw [ifs, if_neg (by simp; omega)]
    · obtain ⟨j, hj⟩ := List.getElem?_of_mem hx
      exact hn j (by have := (List.getElem?_eq_some_iff.1 hj).1; omega) x hj
  | succ d ih =>
    intro i hd hi hn
    have hlt : i < xs.length := by omega
    have hg : xs[i]? = some xs[i] := List.getElem?_eq_getElem hlt
    have hp : TbF.cR 175 [RT.d .bool] [inj tyP xs[i], .c (.pt (.sh .str s 0))] = some (decide (xs[i].1 = s)) := pred_eq _ _
    by_cases he : xs[i].1 = s
    · refine ⟨i, cutG_step ((TbF.q197_2 ..).trans ?_), .inr ⟨i, xs[i], rfl, hg, he, hn⟩⟩
      rw [ifs, if_pos (by simp; omega), ifs, if_pos (by omega), Int.toNat_natCast, hg, Option.bind_some, hp, Option.bind_some, ifs, if_pos (by simp [he])]
    · obtain ⟨r, hr, h2⟩ := ih (i + 1) (by omega) (by omega) (fun j hj x hx => by
        by_cases h : j = i
        · subst h; rw [hg] at hx; cases hx; exact he
        · exact hn j (by omega) x hx)
      refine ⟨r, cutG_step ((TbF.q197_2 ..).trans ?_), h2⟩
      have hw : IntKind.i64.wrap ((i : Int) + 1) = ((i + 1 : Nat) : Int) := by rw [IntKind.wrap_i64]; omega
      rw [ifs, if_pos (by simp; omega), ifs, if_pos (by omega), Int.toNat_natCast, hg, Option.bind_some, hp, Option.bind_some, ifs, if_neg (by simp [he]), hw]
      exact hr
theorem idx_ok (xs : List Fl) (s : ByteArray) (hl : xs.length ≤ 9223372036854775806) : ∃ r : Int, CallOK Tryd.prog EGlob.G 197 [.c (.sl tyP xs), .c (.cl 175 [.sh .str s 0])] [.d (inj (.int .i64) r)] ∧
    ((r = -1 ∧ ∀ x ∈ xs, x.1 ≠ s) ∨ ∃ (k : Nat) (x : Fl), r = (k : Int) ∧ xs[k]? = some x ∧ x.1 = s ∧ ∀ j, j < k → ∀ x, xs[j]? = some x → x.1 ≠ s) := by
  obtain ⟨r, h1, h2⟩ := idx_loop xs s hl _ 0 rfl (Nat.zero_le _) (fun j hj => absurd hj (by omega))
  exact ⟨r, callW_ok TbF.w_ok (callG_step ((TbF.e197 xs s).trans h1)) (by kernel_rfl), h2⟩

abbrev R3 : Type := ByteArray × Bool × Option Addr × Nat × Nat
instance : Inhabited R3 := ⟨(⟨#[]⟩, false, none, 0, 0)⟩
abbrev sv (x : Option Addr × Nat × Nat) : Value := .slice x.1 x.2.1 x.2.2
def Rows (cur : Array Value) (d : Array R3) : Prop := ∀ t, t < d.size → cur[t * 3]? = some (.string d[t]!.1) ∧ cur[t * 3 + 1]? = some (.bool d[t]!.2.1) ∧ cur[t * 3 + 2]? = some (sv d[t]!.2.2)
theorem Rows.cells {w : World} {blk : Nat} {cur : Array Value} {d : Array R3} (h : Rows cur d) (hh : w.heap[blk]? = some (.cells cur 68 (0, 0))) {t : Nat} (ht : t < d.size) :
    w.cell? ⟨blk, t * 3, none⟩ = some (.string d[t]!.1) ∧ w.cell? ⟨blk, t * 3 + 1, none⟩ = some (.bool d[t]!.2.1) ∧ w.cell? ⟨blk, t * 3 + 2, none⟩ = some (sv d[t]!.2.2) ∧ w.frozen? ⟨blk, t * 3, none⟩ = false ∧ w.frozen? ⟨blk, t * 3 + 1, none⟩ = false ∧ w.frozen? ⟨blk, t * 3 + 2, none⟩ = false := by
  obtain ⟨a, b, c⟩ := h t ht
  refine ⟨?_, ?_, ?_, by simp [World.frozen?, hh], by simp [World.frozen?, hh], by simp [World.frozen?, hh]⟩
  · rw [cell_of_row w blk _ cur 68 (0, 0) hh]; exact a
  · rw [cell_of_row w blk _ cur 68 (0, 0) hh]; exact b
  · rw [cell_of_row w blk _ cur 68 (0, 0) hh]; exact c
/-- Three cells written are the row with three elements set. -/
def set3 (cur : Array Value) (o : Nat) (r : R3) : Array Value := ((cur.setIfInBounds o (.string r.1)).setIfInBounds (o + 1) (.bool r.2.1)).setIfInBounds (o + 2) (sv r.2.2)
theorem store3 {W : World} {blk : Nat} {cur : Array Value} (hh : W.heap[blk]? = some (.cells cur 68 (0, 0))) (o : Nat) (r : R3) :
    (((W.setCell ⟨blk, o, none⟩ (.string r.1)).setCell ⟨blk, o + 1, none⟩ (.bool r.2.1)).setCell ⟨blk, o + 2, none⟩ (sv r.2.2)) = W.setRow blk (set3 cur o r) := by
  rw [setCell_eq_setRow W blk o cur 68 (0, 0) _ hh, setCell_eq_setRow _ blk (o + 1) _ 68 (0, 0) _ (setRow_heap W blk cur _ 68 (0, 0) hh), setRow_setRow, setCell_eq_setRow _ blk (o + 2) _ 68 (0, 0) _ (setRow_heap W blk cur _ 68 (0, 0) hh), setRow_setRow]
  rfl
theorem set3_size (cur : Array Value) (o : Nat) (r : R3) : (set3 cur o r).size = cur.size := by simp [set3]
theorem set3_rows {cur : Array Value} {d : Array R3} (h : Rows cur d) {i : Nat} (hi : i < d.size) (r : R3) : Rows (set3 cur (i * 3) r) (d.setIfInBounds i r) := by
  intro t ht
  have ht' : t < d.size := by simpa using ht
  obtain ⟨a, b, c⟩ := h t ht'
  have hc : t * 3 + 2 < cur.size := (Array.getElem?_eq_some_iff.1 c).1
  have hci : i * 3 + 2 < cur.size := (Array.getElem?_eq_some_iff.1 (h i hi).2.2).1
  by_cases e : t = i
  · subst e
    rw [getElem!_set_same d t r hi]
    refine ⟨?_, ?_, ?_⟩
    · unfold set3; rw [Array.getElem?_setIfInBounds_ne (by omega), Array.getElem?_setIfInBounds_ne (by omega), Array.getElem?_setIfInBounds_self_of_lt (by omega)]
    · unfold set3; rw [Array.getElem?_setIfInBounds_ne (by omega), Array.getElem?_setIfInBounds_self_of_lt (by simp; omega)]
    · unfold set3; rw [Array.getElem?_setIfInBounds_self_of_lt (by simp; omega)]
  · rw [getElem!_set_other d i t r e]
    unfold set3
    refine ⟨?_, ?_, ?_⟩
    · rw [Array.getElem?_setIfInBounds_ne (by omega), Array.getElem?_setIfInBounds_ne (by omega), Array.getElem?_setIfInBounds_ne (by omega)]; exact a
    · rw [Array.getElem?_setIfInBounds_ne (by omega), Array.getElem?_setIfInBounds_ne (by omega), Array.getElem?_setIfInBounds_ne (by omega)]; exact b
    · rw [Array.getElem?_setIfInBounds_ne (by omega), Array.getElem?_setIfInBounds_ne (by omega), Array.getElem?_setIfInBounds_ne (by omega)]; exact c
theorem wnat {i : Nat} (h : (i : Int) < 9223372036854775807) : wrap64 ((i : Int) + 1) = ((i + 1 : Nat) : Int) := by unfold wrap64; omega
def zl (n : Nat) : List Value := (Builtin.zeroCells #[.string (⟨#[]⟩ : ByteArray), .bool false, .slice none 0 0] n).toList
theorem zl_len (n : Nat) : (zl n).length = n * 3 := by simp [zl, Builtin.zeroCells]
theorem zl_one {n : Nat} {v : Value} (h : v ∈ zl n) : v.oneCell' = true := by
  simp only [zl, Builtin.zeroCells, Array.toList_map, List.mem_map] at h
  obtain ⟨i, _, rfl⟩ := h
  have h3 : i % 3 = 0 ∨ i % 3 = 1 ∨ i % 3 = 2 := by omega
  rcases h3 with e | e | e <;> simp [e] <;> rfl
theorem run_clear3 {w : World} {blk : Nat} {cur : Array Value} (hh : w.heap[blk]? = some (.cells cur 68 (0, 0))) (ty : TypeId) (i n c : Nat) (hn : 0 < n) (hf : i * 3 + n * 3 ≤ cur.size) :
    (Builtin.clear_ #[53] ty #[.slice (some ⟨blk, i * 3, none⟩) n c]).run Tryd.prog w = .ok (.tuple #[]) (w.setRow blk (cur.toList.take (i * 3) ++ zl n ++ cur.toList.drop (i * 3 + n * 3)).toArray) := by
  have hst := run_storeCells_at (P := Tryd.prog) blk (i * 3) 68 (zl n) 0 cur w hh (by rw [zl_len]; omega) (fun v hv => zl_one hv)
  simp only [Nat.add_zero, zl_len] at hst
  obtain ⟨m, rfl⟩ : ∃ m, n = m + 1 := ⟨n - 1, by omega⟩
  have hz : (Builtin.zeroCells (Value.agg #[.string (⟨#[]⟩ : ByteArray), .bool false, .slice none 0 0]).cells (m + 1)).toList = zl (m + 1) := rfl
  simp only [Value.cells] at hz
  simp [Builtin.clear_, run_underlying Tryd.underlying53, Tryd.zeroValue68, Value.cells, hz, hst]
theorem bel_below {B : Base} {w w1 w2 : World} {n : Nat} (h : Bel B w w1) (k : Below n w1 w2) (hn : B.n ≤ n) : Bel B w w2 := h.trans (Bel.of k hn)

set_option maxHeartbeats 8000000 in
set_option maxRecDepth 100000 in
theorem del_walk (w : World) (pc : Value) (blk cap : Nat) (cur : Array Value) (d : Array R3) (s : ByteArray) (r : Int) (hh : w.heap[blk]? = some (.cells cur 68 (0, 0))) (hs : cur.size = cap * 3) (hdc : d.size ≤ cap) (hR : Rows cur d)
    (hmx : cap ≤ maxLen)
    (hpred : ∀ W t, Bel ⟨w.heap.size, fun b => b = blk⟩ w W → t < d.size → Calls Tryd.prog 175 #[.agg #[.string d[t]!.1, .bool d[t]!.2.1, sv d[t]!.2.2], pc] W fun e W' => e = .returned (.bool (decide (d[t]!.1 = s))) ∧ Below W.heap.size W W')
    (hidx : Calls Tryd.prog 197 #[.slice (some ⟨blk, 0, none⟩) d.size cap, .func (.func 175) #[] #[pc]] w fun e w' => e = .returned (.int .i64 r) ∧ Below w.heap.size w w')
    (hr : (r = -1 ∧ ∀ t, t < d.size → d[t]!.1 ≠ s) ∨ ∃ k : Nat, r = k ∧ k < d.size ∧ d[k]!.1 = s ∧ ∀ j, j < k → d[j]!.1 ≠ s) :
    Calls Tryd.prog 174 #[.slice (some ⟨blk, 0, none⟩) d.size cap, .func (.func 175) #[] #[pc]] w fun e w' => ∃ (k : Nat) (cur' : Array Value), e = .returned (.slice (some ⟨blk, 0, none⟩) k cap) ∧ Bel ⟨w.heap.size, fun b => b = blk⟩ w w' ∧
      w'.heap[blk]? = some (.cells cur' 68 (0, 0)) ∧ cur'.size = cap * 3 ∧ Rows cur' (keptUpTo (fun t => !decide (d[t]!.1 = s)) d d.size).toArray ∧ k = (keptUpTo (fun t => !decide (d[t]!.1 = s)) d d.size).length := by
  rcases hr with ⟨rfl, hn⟩ | ⟨k0, rfl, hk0, he, hn⟩
  · go_enter Tryd.func174, Tryd.ntmps174
    go_wp2_with (go_at_call 197; refine hidx.mono ?_; rintro e w1 ⟨rfl, hb1⟩)
    go_ret
    have e3 : keptUpTo (fun t => !decide (d[t]!.1 = s)) d d.size = d.toList := by rw [keptUpTo_all _ d _ (fun j hj => by simpa using hn j hj), range_map_get]
    rw [e3]
    exact ⟨d.size, cur, rfl, Bel.of hb1 (Nat.le_refl _), (hb1.block blk (Array.getElem?_eq_some_iff.1 hh).1).trans hh, hs, by simpa using hR, by simp⟩
  · have HH := Lib.hid (And.intro hh (And.intro hR (And.intro hn he)))
    have HP := Lib.hid hpred
    clear hh hR hn he hpred
    go_enter Tryd.func174, Tryd.ntmps174
    go_wp2_with (go_at_call 197; refine hidx.mono ?_; rintro e w1 ⟨rfl, hb1⟩)
    go_loopg [5, 6, 7] d.size (fun gg s5 s6 _ wr => ∃ (i j : Nat) (dk : Array R3) (curk : Array Value), s5 = .int .i64 i ∧ s6 = .int .i64 j ∧ j ≤ d.size ∧ d.size - j ≤ gg ∧ Bel ⟨w.heap.size, fun b => b = blk⟩ w wr ∧ wr.heap[blk]? = some (.cells curk 68 (0, 0)) ∧ curk.size = cap * 3 ∧ Rows curk dk ∧ KeptInv (fun t => !decide (d[t]!.1 = s)) d j i dk)
    case atStart =>
      have hd63 : (d.size : Int) ≤ 9223372036854775807 := by have h := hmx; unfold Go.maxLen at h; omega
      refine ⟨k0, k0 + 1, d, cur, rfl, congrArg _ (wnat (by omega)), by omega, by omega, Bel.of hb1 (Nat.le_refl _), (hb1.block blk (Array.getElem?_eq_some_iff.1 HH.out.1).1).trans HH.out.1, hs, HH.out.2.1, KeptInv.start (fun j hj => ?_) ?_⟩
      · show (!decide (d[j]!.1 = s)) = true
        simpa using HH.out.2.2.1 j hj
      · show (!decide (d[k0]!.1 = s)) = false
        simpa using HH.out.2.2.2
    case round =>
      obtain ⟨i, j, dk, curk, rfl, rfl, hjd, hgg, hbel, hhk, hsk, hRk, hI⟩ := hrel
      by_cases hlt : j < d.size
      · have hltz : (j : Int) < (d.size : Int) := by omega
        have hd63 : (d.size : Int) ≤ 9223372036854775807 := by have h := hmx; unfold Go.maxLen at h; omega
        obtain ⟨c1, c2, c3, f1, f2, f3⟩ := hRk.cells hhk (t := j) (by rw [hI.size]; exact hlt)
        rw [hI.high j (by have := hI.lt; omega)] at c1 c2 c3
        have hcall := fun W hW => HP.out W j hW hlt
        have HC := Lib.hid hcall
        have HX := Lib.hid (And.intro hbel (And.intro hhk (And.intro hsk (And.intro hRk hI))))
        clear hcall hbel hhk hsk hRk hI
        have hblk : blk < wr.heap.size := (Array.getElem?_eq_some_iff.1 HX.out.2.1).1
        have hwn : w.heap.size ≤ wr.heap.size := HX.out.1.size
        have hiz : (i : Int) < (d.size : Int) := by have := HX.out.2.2.2.2.lt; omega
        have hilt : i < dk.size := by have := HX.out.2.2.2.2.size; have := HX.out.2.2.2.2.lt; omega
        generalize hu : d[j]! = u at c1 c2 c3
        have HU := Lib.hid hu
        cases hq : decide (u.1 = s) with
        | false =>
          have HQ := Lib.hid hq
          clear hu hq
          obtain ⟨p, q, v1, v2, v3⟩ := u
          simp only [sv] at c1 c2 c3
          have hcal : Calls Tryd.prog 175 #[.agg #[.string p, .bool q, .slice v1 v2 v3], pc] (wr.alloc (.cells #[.string p, .bool q, .slice v1 v2 v3] 68)) fun e W' => e = .returned (.bool false) ∧ Below (wr.heap.size + 1) (wr.alloc (.cells #[.string p, .bool q, .slice v1 v2 v3] 68)) W' := by
            have h := HC.out (wr.alloc (.cells #[.string p, .bool q, .slice v1 v2 v3] 68)) (HX.out.1.alloc hwn _)
            rw [HU.out, HQ.out] at h
            rw [World.size_alloc] at h
            exact h
          go_wp2_with (go_at_call 175; refine hcal.mono ?_; rintro e W2 ⟨rfl, hb2⟩; have hold : ∀ b, b < wr.heap.size → W2.heap[b]? = wr.heap[b]? := fun b hb => (hb2.block b (by omega)).trans (Below.heap_alloc wr _ b hb); have hnew : W2.heap[wr.heap.size]? = some (.cells #[.string p, .bool q, .slice v1 v2 v3] 68 (0, 0)) := (hb2.block _ (by omega)).trans (heap_alloc_new wr _); have n1 : W2.cell? ⟨wr.heap.size, 0, none⟩ = some (.string p) := (cell_of_row W2 _ 0 _ 68 (0, 0) hnew).trans rfl; have n2 : W2.cell? ⟨wr.heap.size, 1, none⟩ = some (.bool q) := (cell_of_row W2 _ 1 _ 68 (0, 0) hnew).trans rfl; have n3 : W2.cell? ⟨wr.heap.size, 2, none⟩ = some (.slice v1 v2 v3) := (cell_of_row W2 _ 2 _ 68 (0, 0) hnew).trans rfl; have hb0 := (hold blk hblk).trans HX.out.2.1; obtain ⟨e1, e2, e3, k1, k2, k3⟩ := HX.out.2.2.2.1.cells hb0 (t := i) hilt; generalize dk[i]! = ui at e1 e2 e3; have HB := Lib.hid (And.intro hb2 (And.intro hb0 (And.intro hold hnew))); clear hb2 hb0 hold hnew)
          go_roundg (d.size - (j + 1))
          case measure => omega
          case rel =>
            refine ⟨i + 1, j + 1, dk.setIfInBounds i (p, q, v1, v2, v3), set3 curk (i * 3) (p, q, v1, v2, v3), by go_num, by go_num, by omega, Nat.le_refl _, ?_, ?_, ?_, ?_, ?_⟩
            · have := store3 HB.out.2.1 (i * 3) (p, q, v1, v2, v3)
              simp only [sv] at this
              rw [this]
              exact (bel_below (HX.out.1.alloc hwn _) HB.out.1 (by show w.heap.size ≤ _; omega)).setRow (.inr rfl) _
            · have := store3 HB.out.2.1 (i * 3) (p, q, v1, v2, v3)
              simp only [sv] at this
              rw [this]
              exact setRow_heap _ blk _ _ 68 (0, 0) HB.out.2.1
            · rw [set3_size]; exact HX.out.2.2.1
            · exact set3_rows HX.out.2.2.2.1 hilt _
            · have := HX.out.2.2.2.2.keep hlt (by show (!decide (d[j]!.1 = s)) = true; rw [HU.out, HQ.out]; rfl)
              rwa [HU.out] at this
        | true =>
          have HQ := Lib.hid hq
          clear hu hq
          obtain ⟨p, q, v1, v2, v3⟩ := u
          simp only [sv] at c1 c2 c3
          have hcal : Calls Tryd.prog 175 #[.agg #[.string p, .bool q, .slice v1 v2 v3], pc] (wr.alloc (.cells #[.string p, .bool q, .slice v1 v2 v3] 68)) fun e W' => e = .returned (.bool true) ∧ Below (wr.heap.size + 1) (wr.alloc (.cells #[.string p, .bool q, .slice v1 v2 v3] 68)) W' := by
            have h := HC.out (wr.alloc (.cells #[.string p, .bool q, .slice v1 v2 v3] 68)) (HX.out.1.alloc hwn _)
            rw [HU.out, HQ.out] at h
            rw [World.size_alloc] at h
            exact h
          go_wp2_with (go_at_call 175; refine hcal.mono ?_; rintro e W2 ⟨rfl, hb2⟩; have hold : ∀ b, b < wr.heap.size → W2.heap[b]? = wr.heap[b]? := (fun b hb => (hb2.block b (by omega)).trans (Below.heap_alloc wr _ b hb)); have HB := Lib.hid (And.intro hb2 hold); clear hb2 hold)
          go_roundg (d.size - (j + 1))
          case measure => omega
          case rel =>
            exact ⟨i, j + 1, dk, curk, rfl, by go_num, by omega, Nat.le_refl _, bel_below (HX.out.1.alloc hwn _) HB.out.1 (by show w.heap.size ≤ _; omega), (HB.out.2 blk hblk).trans HX.out.2.1, HX.out.2.2.1, HX.out.2.2.2.1, HX.out.2.2.2.2.skip (by show (!decide (d[j]!.1 = s)) = false; rw [HU.out, HQ.out]; rfl)⟩
      · obtain rfl : j = d.size := by omega
        have hltz : ¬ (d.size : Int) < (d.size : Int) := by omega
        have hd63 : (d.size : Int) ≤ 9223372036854775807 := by have h := hmx; unfold Go.maxLen at h; omega
        have hil := hI.lt
        have hcl : ∀ ty, (Builtin.clear_ #[53] ty #[.slice (some ⟨blk, i * 3, none⟩) (d.size - i) (cap - i)]).run Tryd.prog wr = .ok (.tuple #[]) (wr.setRow blk (curk.toList.take (i * 3) ++ zl (d.size - i) ++ curk.toList.drop (i * 3 + (d.size - i) * 3)).toArray) :=
          fun ty => run_clear3 hhk ty i (d.size - i) (cap - i) (by omega) (by omega)
        have HX := Lib.hid (And.intro hbel (And.intro hhk (And.intro hsk (And.intro hRk hI))))
        have HP := Lib.hid HP
        clear hbel hhk hsk hRk hI
        have hiz : (i : Int) ≤ (d.size : Int) := by omega
        go_wp2
        go_ret
        obtain ⟨hbel, hhk, hsk, hRk, hI⟩ := HX.out
        rw [← List.append_assoc]
        refine ⟨i, rfl, hbel.setRow (.inr rfl) _, _, setRow_heap _ blk _ _ 68 (0, 0) hhk, ?_, ?_, hI.len.symm⟩
        · have := hsk
          simp only [List.size_toArray, List.length_append, List.length_take, List.length_drop, zl_len, Array.length_toList]; omega
        · intro t ht
          have ht' : t < i := by rw [← hI.len]; simpa using ht
          have hlow := hI.low t ht'
          have hg : (keptUpTo (fun t => !decide (d[t]!.1 = s)) d d.size).toArray[t]! = dk[t]! := by
            rw [getElem!_pos _ t ht]
            have := (List.getElem?_eq_some_iff.1 hlow).2
            simpa using this
          rw [hg]
          obtain ⟨a, b, c⟩ := hRk t (by rw [hI.size]; omega)
          have key : ∀ q, q < i * 3 → (curk.toList.take (i * 3) ++ zl (d.size - i) ++ curk.toList.drop (i * 3 + (d.size - i) * 3)).toArray[q]? = curk[q]? := fun q hq => by
            rw [List.getElem?_toArray, List.append_assoc, List.getElem?_append_left (by rw [List.length_take, Array.length_toList]; omega), List.getElem?_take, if_pos hq, Array.getElem?_toList]
          exact ⟨(key _ (by omega)).trans a, (key _ (by omega)).trans b, (key _ (by omega)).trans c⟩

/-- A row of files in cells. -/
theorem rows_of {w : World} {St : Stb} {cur : Array Value} {xs : List Fl} (h : RelL w St tyP cur.toList xs) : ∃ d : Array R3, d.size = xs.length ∧ Rows cur d ∧ ∀ (t : Nat) (x : Fl), xs[t]? = some x → d[t]!.1 = x.1 ∧ d[t]!.2.1 = x.2.1 ∧ RelT w St (.sl .str) [sv d[t]!.2.2] x.2.2 := by
  have key : ∀ t : Nat, ∃ r : R3, ∀ x : Fl, xs[t]? = some x → cur[t * 3]? = some (.string r.1) ∧ cur[t * 3 + 1]? = some (.bool r.2.1) ∧ cur[t * 3 + 2]? = some (sv r.2.2) ∧ r.1 = x.1 ∧ r.2.1 = x.2.1 ∧ RelT w St (.sl .str) [sv r.2.2] x.2.2 := by
    intro t
    cases hx : xs[t]? with
    | none => exact ⟨default, fun x h => by cases h⟩
    | some x =>
      obtain ⟨l1, l2, e1, h1, l3, l4, rfl, h2, h3⟩ := h t x hx
      have h1 : l1 = [.string x.1] := h1
      have h2 : l3 = [.bool x.2.1] := h2
      subst h1; subst h2
      obtain ⟨c, rfl, hc⟩ := h3
      have e1 : (cur.toList.drop (t * 3)).take 3 = [.string x.1, .bool x.2.1, c] := e1
      have hsl : ∃ v : Option Addr × Nat × Nat, c = sv v := by
        rcases hc with ⟨rfl, _⟩ | ⟨b, o, s, cap, rfl, _⟩
        · exact ⟨(none, 0, 0), rfl⟩
        · exact ⟨(some ⟨b, o, s⟩, _, cap), rfl⟩
      obtain ⟨v, rfl⟩ := hsl
      have g : ∀ q, q < 3 → cur[t * 3 + q]? = [Value.string x.1, .bool x.2.1, sv v][q]? := fun q hq => by
        rw [← e1, List.getElem?_take, if_pos hq, List.getElem?_drop, Array.getElem?_toList]
      exact ⟨(x.1, x.2.1, v), fun y hy => by cases hy; exact ⟨g 0 (by omega), g 1 (by omega), g 2 (by omega), rfl, rfl, ⟨_, rfl, hc⟩⟩⟩
  let R : Nat → R3 := fun t => Classical.choose (key t)
  have hR := fun t => Classical.choose_spec (key t)
  refine ⟨((List.range xs.length).map R).toArray, by simp, fun t ht => ?_, fun t x hx => ?_⟩
  · have ht' : t < xs.length := by simpa using ht
    have e : ((List.range xs.length).map R).toArray[t]! = R t := by rw [getElem!_pos _ t ht]; simp
    rw [e]
    obtain ⟨a, b, c, _⟩ := hR t xs[t] (List.getElem?_eq_getElem ht')
    exact ⟨a, b, c⟩
  · have ht' : t < xs.length := (List.getElem?_eq_some_iff.1 hx).1
    have e : ((List.range xs.length).map R).toArray[t]! = R t := by rw [getElem!_pos _ t (by simpa using ht')]; simp
    rw [e]
    obtain ⟨_, _, _, a, b, c⟩ := hR t x hx
    exact ⟨a, b, c⟩
/-- Back: rows that tell files. -/
theorem rel_rows {w : World} {St : Stb} {cur : Array Value} {d : Array R3} {ys : List Fl} (hR : Rows cur d) (hl : d.size = ys.length) (h : ∀ (t : Nat) (x : Fl), ys[t]? = some x → d[t]!.1 = x.1 ∧ d[t]!.2.1 = x.2.1 ∧ RelT w St (.sl .str) [sv d[t]!.2.2] x.2.2) : RelL w St tyP cur.toList ys := by
  intro t x hx
  have ht : t < ys.length := (List.getElem?_eq_some_iff.1 hx).1
  obtain ⟨a, b, c⟩ := hR t (by omega)
  obtain ⟨e1, e2, e3⟩ := h t x hx
  have e : (cur.toList.drop (t * 3)).take 3 = [.string x.1, .bool x.2.1, sv d[t]!.2.2] := by
    rw [← e1, ← e2]
    apply List.ext_getElem?
    intro q
    rw [List.getElem?_take]
    by_cases hq : q < 3
    · rw [if_pos hq, List.getElem?_drop, Array.getElem?_toList]
      have h3 : q = 0 ∨ q = 1 ∨ q = 2 := by omega
      rcases h3 with rfl | rfl | rfl
      · exact a
      · exact b
      · exact c
    · rw [if_neg hq, List.getElem?_eq_none (by simp; omega)]
  show RelT w St tyP ((cur.toList.drop (t * 3)).take 3) x
  rw [e]
  exact ⟨[_], [_, _], rfl, rfl, [_], [_], rfl, rfl, e3⟩

theorem kept_rel {α : Type} [Inhabited α] (p : α → Bool) (q : Fl → Bool) (d : Array α) (xs : List Fl) (hl : d.size = xs.length) (S : α → Fl → Prop) (h : ∀ (t : Nat) (x : Fl), xs[t]? = some x → S d[t]! x) (hp : ∀ a x, S a x → p a = q x) :
    (keptUpTo (fun t => p d[t]!) d d.size).length = (xs.filter q).length ∧ ∀ (t : Nat) (x : Fl), (xs.filter q)[t]? = some x → S (keptUpTo (fun t => p d[t]!) d d.size).toArray[t]! x := by
  rw [keptUpTo_filter p d]
  have key : ∀ (l : List α) (xs : List Fl), l.length = xs.length → (∀ (t : Nat) (x : Fl) (a : α), xs[t]? = some x → l[t]? = some a → S a x) → (l.filter p).length = (xs.filter q).length ∧ ∀ (t : Nat) (x : Fl) (a : α), (xs.filter q)[t]? = some x → (l.filter p)[t]? = some a → S a x := by
    intro l
    induction l with
    | nil => intro xs hl _; cases xs with
      | nil => exact ⟨rfl, fun t x a hx => by simp at hx⟩
      | cons => cases hl
    | cons a l ih => intro xs hl h; cases xs with
      | nil => cases hl
      | cons x xs =>
        have h0 := h 0 x a rfl rfl
        obtain ⟨h1, h2⟩ := ih xs (by simpa using hl) (fun t y b hy hb => h (t + 1) y b (by simpa using hy) (by simpa using hb))
        have e := hp a x h0
        rw [List.filter_cons, List.filter_cons, e]
        cases q x with
        | false => exact ⟨h1, h2⟩
        | true =>
          refine ⟨by simp [h1], fun t y b hy hb => ?_⟩
          cases t with
          | zero => simp at hy hb; subst hy; subst hb; exact h0
          | succ t => exact h2 t y b (by simpa using hy) (by simpa using hb)
  obtain ⟨h1, h2⟩ := key d.toList xs (by simpa using hl) (fun t x a hx ha => by
    have ht : t < d.size := by rw [hl]; exact (List.getElem?_eq_some_iff.1 hx).1
    have := h t x hx
    rw [getElem!_pos d t ht] at this
    rw [Array.getElem?_toList, Array.getElem?_eq_getElem ht] at ha
    cases ha
    exact this)
  refine ⟨h1, fun t x hx => ?_⟩
  have ht : t < (d.toList.filter p).length := by rw [h1]; exact (List.getElem?_eq_some_iff.1 hx).1
  rw [getElem!_pos _ t (by simpa using ht)]
  exact h2 t x _ hx (by rw [List.getElem?_eq_getElem ht]; simp)

theorem args1f {w : World} {St Q : Stb} {cs : List Value} {x : A} (h : All2 (RelA w St Q noBet) cs [x]) : ∃ c, cs = [c] ∧ RelA w St Q noBet c x := by
  match cs, h with
  | [c], h => exact ⟨c, rfl, h.1⟩

theorem ret_int {w w' : World} {St : Stb} {r : Int} {e : Ending} (h : ∃ (cs : List Value) (obs : List (Option Nat)) (St' : Stb), e = .returned (wrapV cs) ∧ Below w.heap.size w w' ∧ (∀ b o, St b o → St' b o) ∧ (∀ b o, St' b o → St b o ∨ w.heap.size ≤ b) ∧ StOK w' St' ∧
      RelRVs w' St' (base0 w.heap.size) cs [.d (inj (.int .i64) r)] obs ∧ (∀ (i j : Nat) (b : Nat), obs[i]? = some (some b) → obs[j]? = some (some b) → i = j)) : e = .returned (.int .i64 r) ∧ Below w.heap.size w w' := by
  obtain ⟨cs, obs, St', rfl, hb, _, _, _, hr, _⟩ := h
  cases cs with
  | nil => cases obs <;> exact hr.elim
  | cons c cs => cases obs with
    | nil => exact hr.elim
    | cons o obs => cases cs with
      | cons => cases obs <;> exact hr.2.elim
      | nil =>
        obtain ⟨_, h1, _⟩ := hr.1
        exact ⟨by rw [show c = _ from h1]; rfl, hb⟩
theorem ret_bool {w w' : World} {St : Stb} {r : Bool} {e : Ending} (h : ∃ (cs : List Value) (obs : List (Option Nat)) (St' : Stb), e = .returned (wrapV cs) ∧ Below w.heap.size w w' ∧ (∀ b o, St b o → St' b o) ∧ (∀ b o, St' b o → St b o ∨ w.heap.size ≤ b) ∧ StOK w' St' ∧
      RelRVs w' St' (base0 w.heap.size) cs [.d (inj .bool r)] obs ∧ (∀ (i j : Nat) (b : Nat), obs[i]? = some (some b) → obs[j]? = some (some b) → i = j)) : e = .returned (.bool r) ∧ Below w.heap.size w w' := by
  obtain ⟨cs, obs, St', rfl, hb, _, _, _, hr, _⟩ := h
  cases cs with
  | nil => cases obs <;> exact hr.elim
  | cons c cs => cases obs with
    | nil => exact hr.elim
    | cons o obs => cases cs with
      | cons => cases obs <;> exact hr.2.elim
      | nil =>
        obtain ⟨_, h1, _⟩ := hr.1
        exact ⟨by rw [show c = _ from h1]; rfl, hb⟩

set_option maxRecDepth 100000 in
theorem del_none (w : World) (f : Value) (hf : ∃ pc, f = .func (.func 175) #[] #[pc])
    (hidx : Calls Tryd.prog 197 #[.slice none 0 0, f] w fun e w' => e = .returned (.int .i64 (-1)) ∧ Below w.heap.size w w') :
    Calls Tryd.prog 174 #[.slice none 0 0, f] w fun e w' => e = .returned (.slice none 0 0) ∧ Below w.heap.size w w' := by
  obtain ⟨pc, rfl⟩ := hf
  go_enter Tryd.func174, Tryd.ntmps174
  go_wp2_with (go_at_call 197; refine hidx.mono ?_; rintro e w1 ⟨rfl, hb1⟩)
  go_ret
  exact ⟨rfl, hb1⟩

theorem del_ok (xs : List Fl) (s : ByteArray) (hl : xs.length ≤ 9223372036854775806) :
    CallEat Tryd.prog EGlob.G 174 [.c (.sl tyP xs), .c (.cl 175 [.sh .str s 0])] [.own 68 tyP (xs.filter fun x => !decide (x.1 = s))] := by
  intro e T xs1 ys rest hargs hrvs w St Q ob own c0 cargs hown hG hSt hQ h0 hfr hc
  cases hargs; cases hrvs
  obtain ⟨f, rfl, arr, rfl, hpc⟩ := args1f hc
  obtain ⟨la⟩ := arr
  obtain ⟨pc, rfl⟩ : ∃ pc, la = [pc] := by
    cases la with
    | nil => exact hpc.elim
    | cons pc la => cases la with
      | nil => exact ⟨pc, rfl⟩
      | cons => exact hpc.2.elim
  obtain ⟨⟨b, o, l, rfl, hs, hat⟩, _⟩ := hpc
  · skip
    have hs : l = [.string s] := hs
    subst hs
    obtain ⟨r, hidx, hr⟩ := idx_ok xs s hl
    have hGw := hG w (Bel.refl _ _)
    have hcell := hat 0 (.string s) rfl
    have hbQ : b < w.heap.size := hcell.1.elim (fun h => (hQ _ _ h).1) (fun h => hSt _ _ h)
    have hfun : ∀ (w' : World) (St' : Stb), w'.cell? ⟨b, o, none⟩ = w.cell? ⟨b, o, none⟩ → RelP w' St' (fun b' _ => b' = b) noBet (.pointer (some ⟨b, o + 0, none⟩)) (.sh .str s 0) := fun w' St' hw' =>
      ⟨b, o, [.string s], rfl, rfl, fun q c hq => by
        cases q with
        | zero => cases hq; exact ⟨.inl rfl, hw'.trans hcell.2⟩
        | succ q => simp at hq⟩
    cases ob with
    | none =>
      obtain ⟨rfl, rfl⟩ := h0
      have hr1 : r = -1 := by
        rcases hr with ⟨h, _⟩ | ⟨k, x, _, h, _⟩
        · exact h
        · simp at h
      subst hr1
      have h1 := hidx w St (fun b' _ => b' = b) #[.slice none 0 0, .func (.func 175) #[] #[.pointer (some ⟨b, o + 0, none⟩)]] hGw hSt (fun b' o' h => by subst h; exact hbQ) ⟨⟨_, rfl, .inl ⟨rfl, rfl⟩⟩, ⟨_, rfl, hfun w St rfl, trivial⟩, trivial⟩
      refine (del_none w _ ⟨_, rfl⟩ (h1.mono fun e w' h => ret_int h)).mono ?_
      rintro e w' ⟨rfl, hb⟩
      refine ⟨_, none, St, rfl, ⟨hb.os, hb.tape, hb.output, hb.size, fun k hk _ => hb.block k hk⟩, fun _ _ h => h, fun _ _ h => .inl h, fun b o h => Nat.lt_of_lt_of_le (hSt b o h) hb.size, rfl, rfl⟩
    | some blk =>
      obtain ⟨cap, cur, rfl, hmay, hh, hsz, hx, hmx, hrel, hno⟩ := h0
      have hblk : blk < w.heap.size := (Array.getElem?_eq_some_iff.1 hh).1
      have hbne : b ≠ blk := fun e => by
        subst e
        rcases hcell.1 with h | h
        · exact (hQ _ _ h).2 ((hown _).2 rfl)
        · exact hno _ h
      obtain ⟨d, hd, hR, hdx⟩ := rows_of hrel
      have hsz : cur.size = cap * 3 := hsz
      -- the search
      let St2 : Stb := fun b' o' => St b' o' ∨ (b' = blk ∧ o' < xs.length * 3)
      have hSt2 : StOK w St2 := fun b' o' h => h.elim (hSt b' o') (fun h => h.1 ▸ hblk)
      have hE : Ext w St w St2 := fun b' o' h => ⟨.inl h, rfl⟩
      have hat0 : ∀ (i : Nat) (x : Fl), xs[i]? = some x → Ab.At w St2 blk (0 + i * tyP.w) ((cur.toList.drop (i * tyP.w)).take tyP.w) := fun i x hi j c hj => by
        have hi' : i < xs.length := (List.getElem?_eq_some_iff.1 hi).1
        rw [List.getElem?_take] at hj
        split at hj
        · rename_i hj3
          have hj3 : j < 3 := hj3
          rw [List.getElem?_drop, Array.getElem?_toList] at hj
          have hj : cur[i * 3 + j]? = some c := hj
          refine ⟨.inr ⟨rfl, by show 0 + i * 3 + j < _; omega⟩, ?_⟩
          show w.cell? ⟨blk, 0 + i * 3 + j, none⟩ = some c
          rw [Nat.zero_add, cell_of_row w blk _ cur 68 (0, 0) hh]
          exact hj
        · cases hj
      have h1 := hidx w St2 (fun b' _ => b' = b) #[.slice (some ⟨blk, 0, none⟩) xs.length cap, .func (.func 175) #[] #[.pointer (some ⟨b, o + 0, none⟩)]] hGw hSt2 (fun b' o' h => by subst h; exact hbQ)
        ⟨⟨_, rfl, .inr ⟨blk, 0, none, cap, rfl, hx, fun i x hi => ⟨rfl, _, RelT.mono hE tyP _ _ (hrel i x hi), hat0 i x hi⟩⟩⟩, ⟨_, rfl, hfun w St2 rfl, trivial⟩, trivial⟩
      have hkeep : ∀ W, Bel ⟨w.heap.size, fun b' => b' = blk⟩ w W → ∀ b' o', b' < w.heap.size → b' ≠ blk → W.cell? ⟨b', o', none⟩ = w.cell? ⟨b', o', none⟩ := fun W hW b' o' hb' hn => World.cell?_of_block (w := w) (hW.block b' hb' hn)
      have hExt : ∀ W, Bel ⟨w.heap.size, fun b' => b' = blk⟩ w W → Ext w St W St := fun W hW b' o' h => ⟨h, hkeep W hW b' o' (hSt _ _ h) (fun e => by subst e; exact hno _ h)⟩
      have hown' : ∀ W, Bel ⟨w.heap.size, fun b' => b' = blk⟩ w W → Bel ⟨w.heap.size, own⟩ w W := fun W hW => ⟨hW.os, hW.tape, hW.output, hW.size, fun k hk hn => hW.block k hk (fun e => hn ((hown k).2 (by rw [e])))⟩
      have hw := del_walk w (.pointer (some ⟨b, o + 0, none⟩)) blk cap cur d s r hh hsz (by rw [hd]; exact hx) hR hmx
        (fun W t hW ht => by
          have hx' : xs[t]? = some xs[t] := List.getElem?_eq_getElem (by omega)
          obtain ⟨e1, e2, e3⟩ := hdx t xs[t] hx'
          have h2 := pred_ok xs[t] s W St (fun b' _ => b' = b) #[.agg #[.string d[t]!.1, .bool d[t]!.2.1, sv d[t]!.2.2], .pointer (some ⟨b, o + 0, none⟩)] (hG W (hown' W hW)) (fun b' o' h => Nat.lt_of_lt_of_le (hSt b' o' h) hW.size) (fun b' o' h => by subst h; exact Nat.lt_of_lt_of_le hbQ hW.size)
            ⟨⟨_, rfl, by rw [e1]; exact ⟨rfl, rfl⟩, by rw [e2]; exact ⟨rfl, rfl⟩, RelT.mono (hExt W hW) (.sl .str) _ _ e3, trivial⟩, hfun W St (hkeep W hW b o hbQ hbne), trivial⟩
          rw [← e1] at h2
          exact h2.mono fun e w' h => ret_bool h)
        (by rw [hd]; exact h1.mono fun e w' h => ret_int h)
        (by
          rcases hr with ⟨h, hn⟩ | ⟨k, x, h, hk, hxs, hn⟩
          · refine .inl ⟨h, fun t ht => ?_⟩
            have hx' : xs[t]? = some xs[t] := List.getElem?_eq_getElem (by omega)
            rw [(hdx t _ hx').1]
            exact hn _ (List.getElem_mem _)
          · have hk' : k < xs.length := (List.getElem?_eq_some_iff.1 hk).1
            refine .inr ⟨k, h, by omega, by rw [(hdx k x hk).1]; exact hxs, fun j hj => ?_⟩
            have hx' : xs[j]? = some xs[j] := List.getElem?_eq_getElem (by omega)
            rw [(hdx j _ hx').1]
            exact hn j hj _ hx')
      rw [hd] at hw
      refine hw.mono ?_
      rintro e w' ⟨k, cur', rfl, hbel, hh', hs', hR', hk⟩
      obtain ⟨k1, k2⟩ := kept_rel (fun a : R3 => !decide (a.1 = s)) (fun x => !decide (x.1 = s)) d xs hd (fun a x => a.1 = x.1 ∧ a.2.1 = x.2.1 ∧ RelT w St (.sl .str) [sv a.2.2] x.2.2) hdx (fun a x h => by simp only [h.1])
      rw [hd] at k1 k2
      rw [k1] at hk
      subst hk
      refine ⟨_, some blk, St, rfl, hown' _ hbel, fun _ _ h => h, fun _ _ h => .inl h, fun b o h => Nat.lt_of_lt_of_le (hSt b o h) hbel.size, ?_⟩
      refine ⟨cap, cur', rfl, .inr ((hown blk).2 rfl), hh', hs', Nat.le_trans (List.length_filter_le _ _) hx, hmx, rel_rows hR' (by simpa using k1) (fun t x hx' => ?_), hno⟩
      obtain ⟨a, b', c⟩ := k2 t x hx'
      exact ⟨a, b', RelT.mono (hExt _ hbel) (.sl .str) _ _ c⟩

end Go.Proofs.YtokecnkjgoghhaaDoor.EFi
end
section
/- slices.Insert of one file into a row of the caller's own: the row's head, the file, the rest. Conditions: lengths as they stand in each statement. -/
namespace Go.Proofs.YtokecnkjgoghhaaDoor.EFi
open Go Go.RowKit Go.Lib Go.Sort Go.Proofs.YtokecnkjgoghhaaDoor.Ab Go.Proofs.YtokecnkjgoghhaaDoorW.PrintWords
set_option linter.unusedVariables false
set_option linter.unusedSimpArgs false
/-- 'copy' at records of k cells, into a row. -/
theorem run_copyK {P : Program} (w : World) (dT sT ty elem : TypeId) (k g o dLen dCap : Nat) (a : Addr) (sLen sCap n : Nat) (cur : Array Value) (t : TypeId) (cs : List Value)
    (hu : P.underlying dT = some (.slice elem)) (hs : (P.info? elem).map (·.size) = some k) (hg : w.heap[g]? = some (.cells cur t (0, 0))) (hn : n = Nat.min sLen dLen) (hcs : cs.length = n * k)
    (hsrc : ∀ j v, cs[j]? = some v → w.cell? (a.add j) = some v) (hfit : o + cs.length ≤ cur.size) (h1 : ∀ v ∈ cs, v.oneCell' = true) :
    (Builtin.copy_ #[dT, sT] ty #[.slice (some ⟨g, o, none⟩) dLen dCap, .slice (some a) sLen sCap]).run P w =
      .ok (goInt n) (w.setRow g (cur.toList.take o ++ cs ++ cur.toList.drop (o + cs.length)).toArray) := by
  have hl := run_loadCells_list (P := P) w a cs hsrc
  have hst := run_storeCells_at P g o t cs 0 cur w hg (by simpa using hfit) h1
  rw [hcs] at hl
  cases hq : P.info? elem with
  | none => simp [hq] at hs
  | some i =>
    have hi : i.size = k := by simpa [hq] using hs
    simp [Builtin.copy_, run_underlying hu, Builtin.lenOf, Builtin.firstCells, sizeOf, typeInfo, hq, hi, ← hn, hl, hst]
theorem sizeF : (Tryd.prog.info? 68).map (·.size) = some 3 := by kernel_rfl
theorem sizeOfF (w : World) : (Go.sizeOf 68).run Tryd.prog w = .ok 3 w := by
  cases h : Tryd.prog.info? 68 with
  | none => have := sizeF; rw [h] at this; cases this
  | some i => have := sizeF; rw [h] at this; simp only [Option.map_some, Option.some.injEq] at this; simp [Go.sizeOf, typeInfo, h, this]
/-- What stands in the row behind the inserting. -/
def Ins (cur2 cur : Array Value) (i n : Nat) (v : List Value) : Prop := ∀ q, q < (n + 1) * 3 → cur2[q]? = if q < i * 3 then cur[q]? else if q < i * 3 + 3 then v[q - i * 3]? else cur[q - 3]?
def cells3 (r : R3) : List Value := [.string r.1, .bool r.2.1, sv r.2.2]
theorem cells3_len (r : R3) : (cells3 r).length = 3 := rfl
theorem cells3_one (r : R3) : ∀ v ∈ cells3 r, v.oneCell' = true := by intro v hv; simp [cells3] at hv; rcases hv with rfl | rfl | rfl <;> rfl
set_option maxHeartbeats 8000000 in
set_option maxRecDepth 100000 in
theorem ins_room (w : World) (blk cap n i vb vo vcap : Nat) (cur vcur : Array Value) (ve : TypeId) (r : R3) (hi : i < n) (hroom : n + 1 ≤ cap) (hmx : cap ≤ 9223372036854775807) (hh : w.heap[blk]? = some (.cells cur 68 (0, 0))) (hs : cur.size = cap * 3)
    (hv : w.heap[vb]? = some (.cells vcur ve (0, 0))) (hvb : vb ≠ blk) (hvc : ∀ j v, (cells3 r)[j]? = some v → vcur[vo + j]? = some v) (h1c : ∀ v ∈ cur.toList.take (n * 3), v.oneCell' = true) :
    Calls Tryd.prog 173 #[.slice (some ⟨blk, 0, none⟩) n cap, .int .i64 i, .slice (some ⟨vb, vo, none⟩) 1 vcap] w fun e w' => ∃ cur2, e = .returned (.slice (some ⟨blk, 0, none⟩) (n + 1) cap) ∧ w' = w.drew.setRow blk cur2 ∧ cur2.size = cap * 3 ∧ Ins cur2 cur i n (cells3 r) := by
  have uF := run_underlying Tryd.underlying53
  have mixed : Tryd.prog.follows .mixedOrders = true := by kernel_rfl
  have hov : ∀ lb cb, (callFunc 195 #[.slice (some ⟨vb, vo, none⟩) 1 vcap, .slice (some ⟨blk, (i + 1) * 3, none⟩) lb cb]).run Tryd.prog w = .ok (.value (.bool false)) w := fun lb cb => by
    rw [run_callFunc_extern Tryd.func195 (by kernel_rfl) (by kernel_rfl) (by kernel_rfl) (e := Extern.SlicesOverlaps.overlaps #[53, 53] #[4]) (by kernel_rfl),
      Lib.run_overlaps_apart w 53 4 68 Tryd.underlying53 3 sizeOfF ⟨vb, vo, none⟩ ⟨blk, (i + 1) * 3, none⟩ 1 vcap lb cb hvb ve 68 vcur.size cur.size (by simp [World.shape?, hv]) (by simp [World.shape?, hh]) (by omega) (by simp [World.frozen?, hv]) (by simp [World.frozen?, hv])]
    rfl
  have hz1 : ¬ ((i : Int) = (n : Int)) := by omega
  have hw1 : IntKind.i64.wrap ((i : Int) + 1) = (i : Int) + 1 := by rw [IntKind.wrap_i64]; omega
  have hw2 : IntKind.i64.wrap ((n : Int) + 1) = (n : Int) + 1 := by rw [IntKind.wrap_i64]; omega
  have hb1 : (0 : Int) ≤ (i : Int) + 1 := by omega
  have hin : i ≤ n := by omega
  have htn : ((i : Int) + 1).toNat = i + 1 := by omega
  have htn2 : ((n : Int) + 1).toNat = n + 1 := by omega
  have hb2 : ¬ (cap = i + 1) := by omega
  have hb3 : (i : Int) ≤ (n : Int) + 1 := by omega
  have hb4 : ¬ (cap = i) := by omega
  have hb5 : ¬ ((n : Int) + 1 > (cap : Int)) := by omega
  obtain ⟨cs1, hcs1⟩ : ∃ cs1, cs1 = (cur.toList.drop (i * 3)).take ((n - i) * 3) := ⟨_, rfl⟩
  have hl1 : cs1.length = (n - i) * 3 := by rw [hcs1, List.length_take, List.length_drop, Array.length_toList]; omega
  have hg1 : ∀ j v, cs1[j]? = some v → cur[i * 3 + j]? = some v ∧ j < (n - i) * 3 := fun j v hj => by
    have hjl := (List.getElem?_eq_some_iff.1 hj).1
    rw [hcs1, List.getElem?_take, if_pos (by omega), List.getElem?_drop, Array.getElem?_toList] at hj
    exact ⟨hj, by omega⟩
  have ho1 : ∀ v ∈ cs1, v.oneCell' = true := fun v hv => by
    obtain ⟨j, hj⟩ := List.getElem?_of_mem hv
    obtain ⟨h1, h2⟩ := hg1 j v hj
    refine h1c v (List.mem_of_getElem? (i := i * 3 + j) ?_)
    rw [List.getElem?_take, if_pos (by omega), Array.getElem?_toList]; exact h1
  obtain ⟨cur1, hcur1⟩ : ∃ cur1 : Array Value, cur1 = (cur.toList.take ((i + 1) * 3) ++ cs1 ++ cur.toList.drop ((i + 1) * 3 + cs1.length)).toArray := ⟨_, rfl⟩
  have hs1 : cur1.size = cap * 3 := by rw [hcur1]; simp only [List.size_toArray, List.length_append, List.length_take, List.length_drop, Array.length_toList, hl1]; omega
  have hhd : w.drew.heap[blk]? = some (.cells cur 68 (0, 0)) := hh
  have hcp1 : ∀ ty dc sc, (Builtin.copy_ #[53, 53] ty #[.slice (some ⟨blk, (i + 1) * 3, none⟩) (n - i) dc, .slice (some ⟨blk, i * 3, none⟩) (n + 1 - i) sc]).run Tryd.prog w.drew = .ok (goInt ((n - i : Nat) : Int)) (w.drew.setRow blk cur1) := fun ty dc sc => by
    rw [hcur1]
    exact run_copyK w.drew 53 53 ty 68 3 blk ((i + 1) * 3) (n - i) dc ⟨blk, i * 3, none⟩ (n + 1 - i) sc (n - i) cur 68 cs1 Tryd.underlying53 sizeF hhd (by show _ = min _ _; omega) hl1
      (fun j v hj => by rw [Addr.add_lit, cell_of_row w.drew blk _ cur 68 (0, 0) hhd]; exact (hg1 j v hj).1) (by rw [hl1]; omega) ho1
  have hW1 : (w.drew.setRow blk cur1).heap[blk]? = some (.cells cur1 68 (0, 0)) := setRow_heap _ blk cur cur1 68 (0, 0) hhd
  have hV1 : (w.drew.setRow blk cur1).heap[vb]? = some (.cells vcur ve (0, 0)) := (setRow_other w.drew blk vb cur1 hvb).trans hv
  obtain ⟨cur2, hcur2⟩ : ∃ cur2 : Array Value, cur2 = (cur1.toList.take (i * 3) ++ cells3 r ++ cur1.toList.drop (i * 3 + (cells3 r).length)).toArray := ⟨_, rfl⟩
  have hs2 : cur2.size = cap * 3 := by rw [hcur2]; simp only [List.size_toArray, List.length_append, List.length_take, List.length_drop, Array.length_toList, cells3_len]; omega
  have hcp2 : ∀ ty dc, (Builtin.copy_ #[53, 53] ty #[.slice (some ⟨blk, i * 3, none⟩) (n + 1 - i) dc, .slice (some ⟨vb, vo, none⟩) 1 vcap]).run Tryd.prog (w.drew.setRow blk cur1) = .ok (goInt 1) ((w.drew.setRow blk cur1).setRow blk cur2) := fun ty dc => by
    rw [hcur2]
    exact run_copyK _ 53 53 ty 68 3 blk (i * 3) (n + 1 - i) dc ⟨vb, vo, none⟩ 1 vcap 1 cur1 68 (cells3 r) Tryd.underlying53 sizeF hW1 (by show _ = min _ _; omega) rfl
      (fun j v hj => by rw [Addr.add_lit, cell_of_row _ vb _ vcur ve (0, 0) hV1]; exact hvc j v hj) (by rw [cells3_len]; omega) (cells3_one r)
  have hins : Ins cur2 cur i n (cells3 r) := by
    intro q hq
    have e2 : cur2[q]? = if q < i * 3 then cur1[q]? else if q < i * 3 + 3 then (cells3 r)[q - i * 3]? else cur1[q]? := by
      rw [hcur2, List.getElem?_toArray, List.append_assoc]
      by_cases h1 : q < i * 3
      · rw [if_pos h1, List.getElem?_append_left (by rw [List.length_take, Array.length_toList]; omega), List.getElem?_take, if_pos h1, Array.getElem?_toList]
      · rw [if_neg h1, List.getElem?_append_right (by rw [List.length_take, Array.length_toList]; omega)]
        have e : (cur1.toList.take (i * 3)).length = i * 3 := by rw [List.length_take, Array.length_toList]; omega
        rw [e]
        by_cases h2 : q < i * 3 + 3
        · rw [if_pos h2, List.getElem?_append_left (by rw [cells3_len]; omega)]
        · rw [if_neg h2, List.getElem?_append_right (by rw [cells3_len]; omega), List.getElem?_drop, Array.getElem?_toList]
          congr 1
          rw [cells3_len]; omega
    have e1 : cur1[q]? = if q < (i + 1) * 3 then cur[q]? else cur[q - 3]? := by
      rw [hcur1, List.getElem?_toArray, List.append_assoc]
      by_cases h1 : q < (i + 1) * 3
      · rw [if_pos h1, List.getElem?_append_left (by rw [List.length_take, Array.length_toList]; omega), List.getElem?_take, if_pos h1, Array.getElem?_toList]
      · have e : (cur.toList.take ((i + 1) * 3)).length = (i + 1) * 3 := by rw [List.length_take, Array.length_toList]; omega
        rw [if_neg h1, List.getElem?_append_right (by omega), e, List.getElem?_append_left (by omega), hcs1, List.getElem?_take, if_pos (by omega), List.getElem?_drop, Array.getElem?_toList]
        congr 1
        omega
    rw [e2, e1]
    by_cases h1 : q < i * 3
    · rw [if_pos h1, if_pos h1, if_pos (by omega)]
    · rw [if_neg h1, if_neg h1]
      by_cases h2 : q < i * 3 + 3
      · rw [if_pos h2, if_pos h2]
      · rw [if_neg h2, if_neg h2, if_neg (by omega)]
  clear hcs1 hcur1 hcur2 hg1 ho1
  go_enter Tryd.func173, Tryd.ntmps173
  go_wp2_with (simp only [hov])
  go_region_law_o (refine step_copy_runI rfl _ _ 53 53 rfl _ _ (by simp [Act.eval, Act.put]) (by simp [Act.eval, Act.put]) (hcp1 _ _ _) ?_)
  go_wp2_with (at_builtin; refine wpList_copy_runI _ rfl _ _ 53 53 rfl _ _ rfl rfl (hcp2 _ _) ?_)
  go_ret
  exact ⟨cur2, rfl, setRow_setRow _ _ _ _, hs2, hins⟩
set_option maxHeartbeats 8000000 in
set_option maxRecDepth 100000 in
theorem ins_grow (w : World) (blk cap n i vb vo vcap : Nat) (cur vcur : Array Value) (ve : TypeId) (r : R3) (hi : i < n) (hnc : n ≤ cap) (hroom : cap < n + 1) (hbig : (n + 1) * 48 ≤ 140737488355328) (hh : w.heap[blk]? = some (.cells cur 68 (0, 0))) (hs : cur.size = cap * 3)
    (hv : w.heap[vb]? = some (.cells vcur ve (0, 0))) (hvc : ∀ j v, (cells3 r)[j]? = some v → vcur[vo + j]? = some v) (h1c : ∀ v ∈ cur.toList.take (n * 3), v.oneCell' = true) :
    Calls Tryd.prog 173 #[.slice (some ⟨blk, 0, none⟩) n cap, .int .i64 i, .slice (some ⟨vb, vo, none⟩) 1 vcap] w fun e w' => ∃ G cur2, e = .returned (.slice (some ⟨w.heap.size, 0, none⟩) (n + 1) G) ∧ Below w.heap.size w w' ∧ w'.heap[w.heap.size]? = some (.cells cur2 68 (0, 0)) ∧ cur2.size = G * 3 ∧ n + 1 ≤ G ∧ G ≤ maxLen ∧ Ins cur2 cur i n (cells3 r) := by
  have uF := run_underlying Tryd.underlying53
  have mixed : Tryd.prog.follows .mixedOrders = true := by kernel_rfl
  have hbw : blk < w.heap.size := (Array.getElem?_eq_some_iff.1 hh).1
  have hvw : vb < w.heap.size := (Array.getElem?_eq_some_iff.1 hv).1
  obtain ⟨i0, hi0⟩ : ∃ i0, Tryd.prog.info? 68 = some i0 := by
    cases h : Tryd.prog.info? 68 with
    | none => have := sizeF; rw [h] at this; cases this
    | some i => exact ⟨i, rfl⟩
  have hall : (Tryd.prog.info? 68).map (fun i => (i.size, i.bytes, i.zero)) = some (3, 48, some (.agg #[.string ⟨#[]⟩, .bool false, .slice none 0 0])) := by kernel_rfl
  rw [hi0] at hall
  simp only [Option.map_some, Option.some.injEq, Prod.mk.injEq] at hall
  obtain ⟨hzs, hzb, hz0⟩ := hall
  have hz1 : ¬ ((i : Int) = (n : Int)) := by omega
  have hw1 : IntKind.i64.wrap ((i : Int) + 1) = (i : Int) + 1 := by rw [IntKind.wrap_i64]; omega
  have hw2 : IntKind.i64.wrap ((n : Int) + 1) = (n : Int) + 1 := by rw [IntKind.wrap_i64]; omega
  have hw3 : IntKind.i64.wrap ((n : Int) + 1 - (i : Int)) = (n : Int) + 1 - (i : Int) := by rw [IntKind.wrap_i64]; omega
  have hb1 : (0 : Int) ≤ (i : Int) + 1 := by omega
  have hin : i ≤ n := by omega
  have htn : ((i : Int) + 1).toNat = i + 1 := by omega
  have hb3 : (i : Int) ≤ (n : Int) + 1 := by omega
  have hb5 : ((n : Int) + 1 > (cap : Int)) := by omega
  have hb6 : (cap : Int) < (n : Int) + 1 := by omega
  have hik : i + (n + 1 - i) = n + 1 := by omega
  have hkk : (n : Int) + 1 - (i : Int) = ((n + 1 - i : Nat) : Int) := by omega
  obtain ⟨G, hG⟩ : ∃ G, G = grownCap w (n + 1) cap 68 := ⟨_, rfl⟩
  have hGn : n + 1 ≤ G := by rw [hG]; exact grownCap_ge w _ _ _
  have hGm : G ≤ maxLen := by rw [hG]; exact grownCap_le_maxLen w (n + 1) cap 68 (by unfold maxLen; omega)
  have hG63 : G ≤ 9223372036854775807 := by unfold maxLen at hGm; omega
  have hold : (Builtin.firstCells i0.size i (.slice (some ⟨blk, 0, none⟩) i cap)).run Tryd.prog w.drew = .ok (cur.toList.take (i * 3)).toArray w.drew := by
    rw [hzs]
    exact run_firstCells_some w.drew 3 i ⟨blk, 0, none⟩ i cap (cur.toList.take (i * 3)) (by rw [List.length_take, Array.length_toList]; omega) (fun j v hj => by
      rw [Addr.add_lit, Nat.zero_add, cell_of_row w.drew blk _ cur 68 (0, 0) hh]
      rw [List.getElem?_take] at hj
      split at hj
      · rw [Array.getElem?_toList] at hj; exact hj
      · cases hj)
  obtain ⟨Z, hZ⟩ : ∃ Z : Nat → Array Value, Z = fun k => Builtin.zeroCells (Value.agg #[.string ⟨#[]⟩, .bool false, .slice none 0 0]).cells k := ⟨_, rfl⟩
  have hZs : ∀ k, (Z k).size = k * 3 := fun k => by rw [hZ]; simp [Builtin.zeroCells, Value.cells]
  obtain ⟨ROW, hROW⟩ : ∃ ROW : Array Value, ROW = (cur.toList.take (i * 3)).toArray ++ Z (n + 1 - i) ++ Z (G - (n + 1)) := ⟨_, rfl⟩
  have hRs : ROW.size = G * 3 := by
    rw [hROW]; simp only [Array.size_append, List.size_toArray, List.length_take, Array.length_toList, hZs]; omega
  have hrz : ∀ ty, (Builtin.append_ #[53, 3] ty #[.slice (some ⟨blk, 0, none⟩) i cap, .int .i64 ((n : Int) + 1 - (i : Int))]).run Tryd.prog w = .ok (.slice (some ⟨w.heap.size, 0, none⟩) (n + 1) G) ((w.alloc (.cells ROW 68)).drew) := fun ty => by
    have h := Lib.run_append_grow_zeros w 53 3 ty 68 i0 _ .i64 .i64 Tryd.underlying53 Tryd.underlying3 hi0 hz0 (some ⟨blk, 0, none⟩) i cap (cur.toList.take (i * 3)) hold (n + 1 - i) (by omega) (by omega) (by omega) (by omega) (by rw [hzb]; omega) (by rw [hzb, hik]; exact growslice_fits hroom hbig)
    rw [hik, ← hG] at h
    rw [hkk, hROW, hZ]
    exact h
  have hW1 : ((w.alloc (.cells ROW 68)).drew).heap[w.heap.size]? = some (.cells ROW 68 (0, 0)) := heap_alloc_new w.drew _
  have hV1 : ((w.alloc (.cells ROW 68)).drew).heap[vb]? = some (.cells vcur ve (0, 0)) := (Below.heap_alloc w.drew _ vb hvw).trans hv
  have hB1 : ((w.alloc (.cells ROW 68)).drew).heap[blk]? = some (.cells cur 68 (0, 0)) := (Below.heap_alloc w.drew _ blk hbw).trans hh
  obtain ⟨cur1, hcur1⟩ : ∃ cur1 : Array Value, cur1 = (ROW.toList.take (i * 3) ++ cells3 r ++ ROW.toList.drop (i * 3 + (cells3 r).length)).toArray := ⟨_, rfl⟩
  have hs1 : cur1.size = G * 3 := by rw [hcur1]; simp only [List.size_toArray, List.length_append, List.length_take, List.length_drop, Array.length_toList, cells3_len]; omega
  have hcp1 : ∀ ty dc, (Builtin.copy_ #[53, 53] ty #[.slice (some ⟨w.heap.size, i * 3, none⟩) (n + 1 - i) dc, .slice (some ⟨vb, vo, none⟩) 1 vcap]).run Tryd.prog ((w.alloc (.cells ROW 68)).drew) = .ok (goInt 1) (((w.alloc (.cells ROW 68)).drew).setRow w.heap.size cur1) := fun ty dc => by
    rw [hcur1]
    exact run_copyK _ 53 53 ty 68 3 w.heap.size (i * 3) (n + 1 - i) dc ⟨vb, vo, none⟩ 1 vcap 1 ROW 68 (cells3 r) Tryd.underlying53 sizeF hW1 (by show _ = min _ _; omega) rfl
      (fun j v hj => by rw [Addr.add_lit, cell_of_row _ vb _ vcur ve (0, 0) hV1]; exact hvc j v hj) (by rw [cells3_len]; omega) (cells3_one r)
  obtain ⟨cs1, hcs1⟩ : ∃ cs1, cs1 = (cur.toList.drop (i * 3)).take ((n - i) * 3) := ⟨_, rfl⟩
  have hl1 : cs1.length = (n - i) * 3 := by rw [hcs1, List.length_take, List.length_drop, Array.length_toList]; omega
  have hg1 : ∀ j v, cs1[j]? = some v → cur[i * 3 + j]? = some v ∧ j < (n - i) * 3 := fun j v hj => by
    have hjl := (List.getElem?_eq_some_iff.1 hj).1
    rw [hcs1, List.getElem?_take, if_pos (by omega), List.getElem?_drop, Array.getElem?_toList] at hj
    exact ⟨hj, by omega⟩
  have ho1 : ∀ v ∈ cs1, v.oneCell' = true := fun v hv => by
    obtain ⟨j, hj⟩ := List.getElem?_of_mem hv
    obtain ⟨h1, h2⟩ := hg1 j v hj
    refine h1c v (List.mem_of_getElem? (i := i * 3 + j) ?_)
    rw [List.getElem?_take, if_pos (by omega), Array.getElem?_toList]; exact h1
  have hne : blk ≠ w.heap.size := by omega
  have hW2 : ((((w.alloc (.cells ROW 68)).drew).setRow w.heap.size cur1).drew).heap[w.heap.size]? = some (.cells cur1 68 (0, 0)) := setRow_heap _ _ ROW cur1 68 (0, 0) hW1
  have hB2 : ((((w.alloc (.cells ROW 68)).drew).setRow w.heap.size cur1).drew).heap[blk]? = some (.cells cur 68 (0, 0)) := (setRow_other _ _ blk cur1 hne).trans hB1
  obtain ⟨cur2, hcur2⟩ : ∃ cur2 : Array Value, cur2 = (cur1.toList.take ((i + 1) * 3) ++ cs1 ++ cur1.toList.drop ((i + 1) * 3 + cs1.length)).toArray := ⟨_, rfl⟩
  have hs2 : cur2.size = G * 3 := by rw [hcur2]; simp only [List.size_toArray, List.length_append, List.length_take, List.length_drop, Array.length_toList, hl1]; omega
  have hcp2 : ∀ ty dc sc, (Builtin.copy_ #[53, 53] ty #[.slice (some ⟨w.heap.size, (i + 1) * 3, none⟩) (n - i) dc, .slice (some ⟨blk, i * 3, none⟩) (n - i) sc]).run Tryd.prog ((((w.alloc (.cells ROW 68)).drew).setRow w.heap.size cur1).drew) = .ok (goInt ((n - i : Nat) : Int)) (((((w.alloc (.cells ROW 68)).drew).setRow w.heap.size cur1).drew).setRow w.heap.size cur2) := fun ty dc sc => by
    rw [hcur2]
    exact run_copyK _ 53 53 ty 68 3 w.heap.size ((i + 1) * 3) (n - i) dc ⟨blk, i * 3, none⟩ (n - i) sc (n - i) cur1 68 cs1 Tryd.underlying53 sizeF hW2 (by show _ = min _ _; omega) hl1
      (fun j v hj => by rw [Addr.add_lit, cell_of_row _ blk _ cur 68 (0, 0) hB2]; exact (hg1 j v hj).1) (by rw [hl1]; omega) ho1
  have hins : Ins cur2 cur i n (cells3 r) := by
    intro q hq
    have e2 : cur2[q]? = if q < (i + 1) * 3 then cur1[q]? else cur[q - 3]? := by
      rw [hcur2, List.getElem?_toArray, List.append_assoc]
      by_cases h1 : q < (i + 1) * 3
      · rw [if_pos h1, List.getElem?_append_left (by rw [List.length_take, Array.length_toList]; omega), List.getElem?_take, if_pos h1, Array.getElem?_toList]
      · have e : (cur1.toList.take ((i + 1) * 3)).length = (i + 1) * 3 := by rw [List.length_take, Array.length_toList]; omega
        rw [if_neg h1, List.getElem?_append_right (by omega), e, List.getElem?_append_left (by omega), hcs1, List.getElem?_take, if_pos (by omega), List.getElem?_drop, Array.getElem?_toList]
        congr 1
        omega
    have e1 : q < (i + 1) * 3 → cur1[q]? = if q < i * 3 then cur[q]? else (cells3 r)[q - i * 3]? := fun hq1 => by
      rw [hcur1, List.getElem?_toArray, List.append_assoc]
      by_cases h1 : q < i * 3
      · rw [if_pos h1, List.getElem?_append_left (by rw [List.length_take, Array.length_toList]; omega), List.getElem?_take, if_pos h1, Array.getElem?_toList, hROW, Array.getElem?_append_left (by simp only [Array.size_append, List.size_toArray, List.length_take, Array.length_toList]; omega), Array.getElem?_append_left (by simp only [List.size_toArray, List.length_take, Array.length_toList]; omega), List.getElem?_toArray, List.getElem?_take, if_pos h1, Array.getElem?_toList]
      · have e : (ROW.toList.take (i * 3)).length = i * 3 := by rw [List.length_take, Array.length_toList]; omega
        rw [if_neg h1, List.getElem?_append_right (by omega), e, List.getElem?_append_left (by rw [cells3_len]; omega)]
    rw [e2]
    by_cases h1 : q < i * 3
    · rw [if_pos h1, if_pos (by omega), e1 (by omega), if_pos h1]
    · rw [if_neg h1]
      by_cases h2 : q < i * 3 + 3
      · rw [if_pos h2, if_pos (by omega), e1 (by omega), if_neg h1]
      · rw [if_neg h2, if_neg (by omega)]
  have hbl : Below w.heap.size w (((((w.alloc (.cells ROW 68)).drew).setRow w.heap.size cur1).drew).setRow w.heap.size cur2) := by
    have h := (((((Bel.refl (base0 w.heap.size) w).drew).alloc (Nat.le_refl _) (.cells ROW 68)).setRow (g := w.heap.size) (.inl (Nat.le_refl _)) cur1).drew).setRow (g := w.heap.size) (.inl (Nat.le_refl _)) cur2
    exact h.to
  have hci : ¬ (cap = i) := by omega
  have hGi : ¬ (G = i) := by omega
  have hGi1 : ¬ (G = i + 1) := by omega
  have hfin : (((((w.alloc (.cells ROW 68)).drew).setRow w.heap.size cur1).drew).setRow w.heap.size cur2).heap[w.heap.size]? = some (.cells cur2 68 (0, 0)) := setRow_heap _ _ cur1 cur2 68 (0, 0) hW2
  clear hcs1 hcur1 hcur2 hg1 ho1 hROW hZ hG hold hkk hZs
  go_enter Tryd.func173, Tryd.ntmps173
  go_wp2_with (first
    | (at_builtin; refine Lib.wpList_append_run _ rfl _ _ _ _ rfl _ _ rfl rfl _ _ (hrz _) ?_)
    | (at_builtin; refine wpList_copy_runI _ rfl _ _ 53 53 rfl _ _ rfl rfl (hcp1 _ _) ?_))
  go_region_law_o (refine step_copy_runI rfl _ _ 53 53 rfl _ _ (by simp [Act.eval, Act.put]) (by simp [Act.eval, Act.put]) (hcp2 _ _ _) ?_)
  go_wp2
  go_ret
  exact ⟨G, cur2, rfl, hbl, hfin, hs2, hGn, hGm, hins⟩
set_option maxHeartbeats 8000000 in
set_option maxRecDepth 100000 in
theorem ins_end (w : World) (c0 : Value) (n vb vo vcap : Nat) (h0 : (c0 = .slice none 0 0 ∧ n = 0) ∨ ∃ blk cap, c0 = .slice (some ⟨blk, 0, none⟩) n cap ∧ n ≤ cap) (h63 : n ≤ 9223372036854775806) {v' : Value} {w' : World}
    (hrun : (Builtin.append_ #[53, 53] 53 #[c0, .slice (some ⟨vb, vo, none⟩) 1 vcap]).run Tryd.prog w = .ok v' w') :
    Calls Tryd.prog 173 #[c0, .int .i64 n, .slice (some ⟨vb, vo, none⟩) 1 vcap] w fun e w2 => e = .returned v' ∧ w2 = w' := by
  have uF := run_underlying Tryd.underlying53
  have mixed : Tryd.prog.follows .mixedOrders = true := by kernel_rfl
  rcases h0 with ⟨rfl, rfl⟩ | ⟨blk, cap, rfl, hnc⟩
  · go_enter Tryd.func173, Tryd.ntmps173
    go_wp2_with (at_builtin; refine Lib.wpList_append_run _ rfl _ _ _ _ rfl _ _ rfl rfl _ _ hrun ?_)
    go_ret
    exact ⟨rfl, rfl⟩
  · have hnc' : (n : Int) ≤ (cap : Int) := by omega
    go_enter Tryd.func173, Tryd.ntmps173
    go_wp2_with (at_builtin; refine Lib.wpList_append_run _ rfl _ _ _ _ rfl _ _ rfl rfl _ _ hrun ?_)
    all_goals (go_ret; exact ⟨rfl, rfl⟩)

theorem ins_rel {w : World} {St : Stb} {cur cur2 : Array Value} {xs : List Fl} {f : Fl} {i : Nat} {r : R3} (h : Ins cur2 cur i xs.length (cells3 r)) (hi : i ≤ xs.length) (hrel : RelL w St tyP cur.toList xs) (hf : RelT w St tyP (cells3 r) f) : RelL w St tyP cur2.toList (xs.take i ++ [f] ++ xs.drop i) := by
  have seg : ∀ (a : Array Value) (l : List Value) (t : Nat), l.length = 3 → (∀ q, q < 3 → a[t * 3 + q]? = l[q]?) → (a.toList.drop (t * 3)).take 3 = l := fun a l t hl hq => by
    apply List.ext_getElem?
    intro q
    rw [List.getElem?_take]
    by_cases h3 : q < 3
    · rw [if_pos h3, List.getElem?_drop, Array.getElem?_toList]; exact hq q h3
    · rw [if_neg h3, List.getElem?_eq_none (by omega)]
  have len : ∀ (t : Nat) (x : Fl), xs[t]? = some x → ((cur.toList.drop (t * 3)).take 3).length = 3 := fun t x hx => (hrel t x hx).length
  have get : ∀ (t q : Nat), q < 3 → ((cur.toList.drop (t * 3)).take 3)[q]? = cur[t * 3 + q]? := fun t q hq => by
    rw [List.getElem?_take, if_pos hq, List.getElem?_drop, Array.getElem?_toList]
  intro t x hx
  show RelT w St tyP ((cur2.toList.drop (t * 3)).take 3) x
  have ht : t < xs.length + 1 := by
    have := (List.getElem?_eq_some_iff.1 hx).1
    simp only [List.length_append, List.length_take, List.length_drop, List.length_cons, List.length_nil] at this; omega
  have hl : (xs.take i).length = i := by rw [List.length_take]; omega
  by_cases h1 : t < i
  · rw [List.append_assoc, List.getElem?_append_left (by omega), List.getElem?_take, if_pos h1] at hx
    rw [seg cur2 _ t (len t x hx) (fun q hq => by rw [get t q hq, h _ (by omega), if_pos (by omega)])]
    exact hrel t x hx
  · by_cases h2 : t = i
    · subst h2
      rw [List.append_assoc, List.getElem?_append_right (by omega), hl, Nat.sub_self] at hx
      have hx : f = x := by simpa using hx
      subst hx
      rw [seg cur2 (cells3 r) t rfl (fun q hq => by rw [h _ (by omega), if_neg (by omega), if_pos (by omega)]; congr 1; omega)]
      exact hf
    · have hx' : xs[t - 1]? = some x := by
        rw [List.append_assoc, List.getElem?_append_right (by omega), hl, List.getElem?_append_right (by simp; omega), List.getElem?_drop] at hx
        rw [← hx]; congr 1; simp; omega
      rw [seg cur2 _ t (len (t - 1) x hx') (fun q hq => by rw [get (t - 1) q hq, h _ (by omega), if_neg (by omega), if_neg (by omega)]; congr 1; omega)]
      exact hrel (t - 1) x hx'

def tiF : TI := ⟨.struct [(0, 9), (1, 4), (2, 22)], 3, 48, .agg #[.string ⟨#[]⟩, .bool false, .slice none 0 0], some TbF.ty68⟩
theorem tiF_ok : TIok Tryd.prog 68 tiF := TbF.ti_ok 68 _ rfl

theorem args2f {w : World} {St Q : Stb} {cs : List Value} {x y : A} (h : All2 (RelA w St Q noBet) cs [x, y]) : ∃ c d, cs = [c, d] ∧ RelA w St Q noBet c x ∧ RelA w St Q noBet d y := by
  match cs, h with
  | [c, d], h => exact ⟨c, d, rfl, h.1, h.2.1⟩
theorem ins_ok (xs : List Fl) (i : Int) (f : Fl) (h0 : 0 ≤ i) (hi : i ≤ xs.length) (hbig : (xs.length + 1) * 48 ≤ 140737488355328) :
    CallEat Tryd.prog EGlob.G 173 [.c (.sl tyP xs), .c (.sc (.int .i64 i)), .c (.sl tyP [f])] [.own 68 tyP (xs.take i.toNat ++ [f] ++ xs.drop i.toNat)] := by
  intro e T xs1 ys rest hargs hrvs w St Q ob own c0 cargs hown hG hSt hQ hc0 hfr hc
  cases hargs; cases hrvs
  obtain ⟨ci, cv, rfl, hci, hcv⟩ := args2f hc
  obtain rfl : ci = .int .i64 i := hci.1
  obtain ⟨k, rfl⟩ : ∃ k : Nat, i = (k : Int) := ⟨i.toNat, by omega⟩
  rw [Int.toNat_natCast]
  obtain ⟨cv', hcv', hcvv⟩ := (show RelT w St (.sl tyP) [cv] [f] from hcv)
  cases hcv'
  rcases hcvv with ⟨_, h⟩ | ⟨vb, vo, vs, vcap, rfl, hvle, hvel⟩
  · cases h
  · obtain ⟨rfl, l', hl', hat⟩ := hvel 0 f rfl
    obtain ⟨vcur, ve, hv⟩ := hfr _ (by simp) vb vo none 1 vcap rfl
    have hsrc : Ab.Src w St tyP [f] (.slice (some ⟨vb, vo, none⟩) 1 vcap) := src_of_sl (show RelT w St (.sl tyP) [.slice (some ⟨vb, vo, none⟩) 1 vcap] [f] from hcv)
    obtain ⟨r, rfl⟩ : ∃ r : R3, l' = cells3 r := by
      obtain ⟨l1, l2, rfl, h1, l3, l4, rfl, h2, h3⟩ := hl'
      obtain ⟨c, rfl, h3⟩ := h3
      have h1 : l1 = [.string f.1] := h1
      have h2 : l3 = [.bool f.2.1] := h2
      subst h1; subst h2
      rcases h3 with ⟨rfl, _⟩ | ⟨b, o, s, cap, rfl, _⟩
      · exact ⟨(f.1, f.2.1, none, 0, 0), rfl⟩
      · exact ⟨(f.1, f.2.1, some ⟨b, o, s⟩, f.2.2.length, cap), rfl⟩
    have hStv : St vb (vo + 0 * tyP.w + 0) := (hat 0 _ rfl).1
    have hvc : ∀ j v, (cells3 r)[j]? = some v → vcur[vo + j]? = some v := fun j v hj => by
      have h := (hat j v hj).2
      rw [Nat.zero_mul, Nat.add_zero, cell_of_row w vb _ vcur ve (0, 0) hv] at h
      exact h
    have hpost : ∀ {w' : World} {c : Value} {ob' : Option Nat}, Bel ⟨w.heap.size, own⟩ w w' → (∀ St' : Stb, St' = St → RelRV w' St ⟨w.heap.size, own⟩ c (.own 68 tyP (xs.take k ++ [f] ++ xs.drop k)) ob') →
        ∃ (c2 : Value) (ob2 : Option Nat) (St' : Stb), Ending.returned c = .returned c2 ∧ Bel ⟨w.heap.size, own⟩ w w' ∧ (∀ b o, St b o → St' b o) ∧ (∀ b o, St' b o → St b o ∨ w.heap.size ≤ b) ∧ StOK w' St' ∧ RelRV w' St' ⟨w.heap.size, own⟩ c2 (.own 68 tyP (xs.take k ++ [f] ++ xs.drop k)) ob2 :=
      fun hb h => ⟨_, _, St, rfl, hb, fun _ _ h => h, fun _ _ h => .inl h, fun b o h => Nat.lt_of_lt_of_le (hSt b o h) hb.size, h St rfl⟩
    have hlen : (xs.take k ++ [f] ++ xs.drop k).length = xs.length + 1 := by simp only [List.length_append, List.length_take, List.length_drop, List.length_cons, List.length_nil]; omega
    have hextB : ∀ {w' : World}, Bel ⟨w.heap.size, own⟩ w w' → (∀ b o, St b o → ¬ own b) → Ext w St w' St := fun hb hn b o h => ⟨h, World.cell?_of_block (w := w) (hb.block b (hSt b o h) (hn b o h))⟩
    cases ob with
    | none =>
      obtain ⟨rfl, rfl⟩ := hc0
      obtain rfl : k = 0 := by simpa using hi
      obtain ⟨v', w', hrun, hends⟩ := append_ends (ty := 53) (ie := tiF) (T := tyP) rfl (by decide) (by decide) rfl tiF_ok Tryd.underlying53 hsrc (len := 0) (by show (0 + 1) * 48 ≤ _; omega) (v := .slice none 0 0) (l0 := []) (by simp) (.inl ⟨rfl, rfl⟩)
      refine (ins_end w (.slice none 0 0) 0 vb vo vcap (.inl ⟨rfl, rfl⟩) (by omega) hrun).mono ?_
      rintro e w2 ⟨rfl, rfl⟩
      have hno : ∀ b o, St b o → ¬ own b := fun b o _ ho => by have := (hown b).1 ho; cases this
      rcases hends with ⟨_, _, _, h⟩ | ⟨b, cap, cur, cur', hv', _⟩ | ⟨cap, cur', rfl, rfl, hs', hle, hcm, l1, hl1, hr1, htk⟩
      · cases h
      · cases hv'
      · have hb : Bel ⟨w.heap.size, own⟩ w (w.drew.alloc (.cells cur' 68)) := ((Bel.refl _ w).drew).alloc (Nat.le_refl _) _
        refine hpost (ob' := some w.heap.size) hb (fun St' _ => ⟨cap, cur', by simp, .inl (Nat.le_refl _), heap_alloc_new w.drew _, hs', by simpa using hle, hcm, ?_, fun o ho => by have := hSt _ _ ho; omega⟩)
        have h2 : RelL w St tyP cur'.toList [f] := RelL.of_take (l := l1) (by simpa using htk) hr1
        exact RelL.mono (hextB hb hno) h2
    | some blk =>
      obtain ⟨cap, cur, rfl, hmay, hh, hsz, hx, hmx, hrel, hno⟩ := hc0
      have hsz : cur.size = cap * 3 := hsz
      have hmx63 : cap ≤ 9223372036854775807 := by have h := hmx; unfold Go.maxLen at h; omega
      have hvb : vb ≠ blk := fun e => by subst e; exact hno _ hStv
      have hnoO : ∀ b o, St b o → ¬ own b := fun b o h ho => by
        have := (hown b).1 ho
        cases this
        exact hno _ h
      have h1c : ∀ v ∈ cur.toList.take (xs.length * 3), v.oneCell' = true := by
        refine RelL.one (T := tyP) (xs := xs) (hrel.prefix fun j hj => by rw [List.getElem?_take, if_pos (show j < xs.length * 3 from hj)]) ?_
        rw [List.length_take, Array.length_toList]; show min (xs.length * 3) cur.size = xs.length * 3; omega
      by_cases hkn : k = xs.length
      · subst hkn
        obtain ⟨v', w', hrun, hends⟩ := append_ends (ty := 53) (ie := tiF) (T := tyP) rfl (by decide) (by decide) rfl tiF_ok Tryd.underlying53 hsrc (len := xs.length) (by show (xs.length + 1) * 48 ≤ _; omega) (v := .slice (some ⟨blk, 0, none⟩) xs.length cap) (l0 := cur.toList.take (xs.length * 3)) (by rw [List.length_take, Array.length_toList]; show min (xs.length * 3) cur.size = xs.length * 3; omega) (.inr ⟨blk, cap, cur, rfl, hh, hsz, hx, hmx, rfl⟩)
        refine (ins_end w _ xs.length vb vo vcap (.inr ⟨blk, cap, rfl, hx⟩) (by omega) hrun).mono ?_
        rintro e w2 ⟨rfl, rfl⟩
        have ex : xs.take xs.length ++ [f] ++ xs.drop xs.length = xs ++ [f] := by simp
        rw [ex] at hpost hlen ⊢
        have hjoin : ∀ {w2 : World} (cur' : Array Value) (l1 : List Value), Bel ⟨w.heap.size, own⟩ w w2 → l1.length = [f].length * tyP.w → RelL w St tyP l1 [f] → cur'.toList.take ((xs.length + [f].length) * tyP.w) = cur.toList.take (xs.length * 3) ++ l1 → RelL w2 St tyP cur'.toList (xs ++ [f]) := fun cur' l1 hb hl1 hr1 htk => by
          refine RelL.mono (hextB hb hnoO) (RelL.of_take (l := cur.toList.take (xs.length * 3) ++ l1) (by rw [List.length_append]; exact htk) (RelL.append (by rw [List.length_take, Array.length_toList]; show min (xs.length * 3) cur.size = xs.length * 3; omega) (hrel.prefix fun j hj => by rw [List.getElem?_take, if_pos (show j < xs.length * 3 from hj)]) hr1))
        rcases hends with ⟨_, _, h, _⟩ | ⟨b, cap', cur0, cur', hv', hg', rfl, rfl, hs', hle, hcm, l1, hl1, hr1, htk⟩ | ⟨cap', cur', rfl, rfl, hs', hle, hcm, l1, hl1, hr1, htk⟩
        · cases h
        · cases hv'
          have hb : Bel ⟨w.heap.size, own⟩ w (w.setRow blk cur') := (Bel.refl _ w).setRow hmay _
          exact hpost (ob' := some blk) hb (fun St' _ => ⟨cap, cur', by rw [hlen]; rfl, hmay, setRow_heap w blk _ cur' 68 (0, 0) hg', hs', by rw [hlen]; exact hle, hcm, hjoin cur' l1 hb hl1 hr1 htk, hno⟩)
        · have hb : Bel ⟨w.heap.size, own⟩ w (w.drew.alloc (.cells cur' 68)) := ((Bel.refl _ w).drew).alloc (Nat.le_refl _) _
          exact hpost (ob' := some w.heap.size) hb (fun St' _ => ⟨cap', cur', by rw [hlen]; rfl, .inl (Nat.le_refl _), heap_alloc_new w.drew _, hs', by rw [hlen]; exact hle, hcm, hjoin cur' l1 hb hl1 hr1 htk, fun o ho => by have := hSt _ _ ho; omega⟩)
      · have hlt : k < xs.length := by omega
        have hl'0 : RelT w St tyP (cells3 r) f := hl'
        by_cases hroom : xs.length + 1 ≤ cap
        · refine (ins_room w blk cap xs.length k vb vo vcap cur vcur ve r hlt hroom hmx63 hh hsz hv hvb hvc h1c).mono ?_
          rintro e w2 ⟨cur2, rfl, rfl, hs2, hins⟩
          have hb : Bel ⟨w.heap.size, own⟩ w (w.drew.setRow blk cur2) := ((Bel.refl _ w).drew).setRow hmay _
          refine hpost (ob' := some blk) hb (fun St' _ => ⟨cap, cur2, by rw [hlen], hmay, setRow_heap w.drew blk cur cur2 68 (0, 0) hh, hs2, by rw [hlen]; exact hroom, hmx, ?_, hno⟩)
          exact RelL.mono (hextB hb hnoO) (ins_rel hins (by omega) hrel hl'0)
        · refine (ins_grow w blk cap xs.length k vb vo vcap cur vcur ve r hlt hx (by omega) hbig hh hsz hv hvc h1c).mono ?_
          rintro e w2 ⟨G, cur2, rfl, hbl, hg2, hs2, hGn, hGm, hins⟩
          have hb : Bel ⟨w.heap.size, own⟩ w w2 := ⟨hbl.os, hbl.tape, hbl.output, hbl.size, fun b hb _ => hbl.block b hb⟩
          refine hpost (ob' := some w.heap.size) hb (fun St' _ => ⟨G, cur2, by rw [hlen], .inl (Nat.le_refl _), hg2, hs2, by rw [hlen]; exact hGn, hGm, ?_, fun o ho => by have := hSt _ _ ho; omega⟩)
          exact RelL.mono (hextB hb hnoO) (ins_rel hins (by omega) hrel hl'0)
end Go.Proofs.YtokecnkjgoghhaaDoor.EFi
end
section
/- The contracts of the library's functions and of the hand-walked ones, in the machine's words. No condition. -/
namespace Go.Proofs.YtokecnkjgoghhaaDoor.Ex
open Go Go.RowKit Go.Proofs.YtokecnkjgoghhaaDoor.Ab Go.Proofs.YtokecnkjgoghhaaDoorW.PrintWords
set_option linter.unusedVariables false

/-- What a contract says behind the call. -/
def Post (w : World) (St : Stb) (rvs : List RV) (e : Ending) (w' : World) : Prop :=
  ∃ (cs : List Value) (obs : List (Option Nat)) (St' : Stb), e = .returned (wrapV cs) ∧ Below w.heap.size w w' ∧ (∀ b o, St b o → St' b o) ∧ (∀ b o, St' b o → St b o ∨ w.heap.size ≤ b) ∧ StOK w' St' ∧
      RelRVs w' St' (base0 w.heap.size) cs rvs obs ∧ (∀ (i j : Nat) (b : Nat), obs[i]? = some (some b) → obs[j]? = some (some b) → i = j)

theorem stok {w w' : World} {St : Stb} (h : StOK w St) (hb : Below w.heap.size w w') : StOK w' St := fun b o hs => Nat.lt_of_lt_of_le (h b o hs) hb.size

theorem post_one {w w' : World} {St : Stb} (hSt : StOK w St) {v : Value} {x : RV} {ob : Option Nat} (hb : Below w.heap.size w w') (h : RelRV w' St (base0 w.heap.size) v x ob) : Post w St [x] (.returned v) w' :=
  ⟨[v], [ob], St, rfl, hb, fun _ _ h => h, fun _ _ h => .inl h, stok hSt hb, ⟨h, trivial⟩, fun i j b hi hj => by
    cases i with
    | zero => cases j with
      | zero => rfl
      | succ j => simp at hj
    | succ i => simp at hi⟩

theorem post_two {w w' : World} {St : Stb} (hSt : StOK w St) {v u : Value} {x y : A} (hb : Below w.heap.size w w') (h : RelA w' St noQ noBet v x) (k : RelA w' St noQ noBet u y) : Post w St [.d x, .d y] (.returned (.tuple #[v, u])) w' :=
  ⟨[v, u], [none, none], St, rfl, hb, fun _ _ h => h, fun _ _ h => .inl h, stok hSt hb, ⟨⟨rfl, h⟩, ⟨rfl, k⟩, trivial⟩, fun i j b hi hj => by
    rcases i with _ | _ | i <;> simp at hi⟩

theorem rv_own {w w' : World} {St : Stb} (hSt : StOK w St) {v : Value} {e : TypeId} {xs : List ByteArray} (h : w'.ownsRow w.heap.size e 1 v xs.length (xs.map Value.string)) : ∃ ob, RelRV w' St (base0 w.heap.size) v (.own e .str xs) ob := by
  rcases h.2 with ⟨rfl, h0⟩ | ⟨g, cap, cur, rfl, hb, hh, hc, hc2, hs, ht⟩
  · exact ⟨none, rfl, List.length_eq_zero_iff.1 h0⟩
  · refine ⟨some g, cap, cur, rfl, .inl hb, hh, hs, hc, hc2, fun i x hi => ?_, fun o ho => absurd (hSt g o ho) (by omega)⟩
    rw [Nat.mul_one] at ht
    have h1 : cur.toList[i]? = some (.string x) := by
      have hl : i < xs.length := (List.getElem?_eq_some_iff.1 hi).1
      have : (cur.toList.take xs.length)[i]? = some (.string x) := by rw [ht, List.getElem?_map, hi]; rfl
      rw [List.getElem?_take_of_lt hl] at this
      exact this
    show ((cur.toList.drop (i * 1)).take 1) = [.string x]
    obtain ⟨hlt, hx⟩ := List.getElem?_eq_some_iff.1 h1
    rw [Nat.mul_one, List.drop_eq_getElem_cons hlt, hx]
    rfl

theorem arg_str {w : World} {St Q : Stb} {c : Value} {s : ByteArray} (h : RelA w St Q noBet c (.c (.sc (.string s)))) : c = .string s := h.1

theorem args1 {w : World} {St Q : Stb} {a : Array Value} {x : A} (h : All2 (RelA w St Q noBet) a.toList [x]) : ∃ c, a = #[c] ∧ RelA w St Q noBet c x := by
  obtain ⟨l⟩ := a
  match l, h with
  | [c], h => exact ⟨c, rfl, h.1⟩

theorem args2 {w : World} {St Q : Stb} {a : Array Value} {x y : A} (h : All2 (RelA w St Q noBet) a.toList [x, y]) : ∃ c d, a = #[c, d] ∧ RelA w St Q noBet c x ∧ RelA w St Q noBet d y := by
  obtain ⟨l⟩ := a
  match l, h with
  | [c, d], h => exact ⟨c, d, rfl, h.1, h.2.1⟩

theorem ok_bool {f : FuncId} {s : ByteArray} {b : Bool} (h : ∀ w, EGlob.G w → Calls Tryd.prog f #[.string s] w fun e w' => e = .returned (.bool b) ∧ Below w.heap.size w w') :
    CallOK Tryd.prog EGlob.G f [.c (.sc (.string s))] [.d (inj .bool b)] := by
  intro w St Q a hG hSt hQ ha
  obtain ⟨c, rfl, hc⟩ := args1 ha
  rw [arg_str hc]
  refine (h w hG).mono ?_
  rintro e w' ⟨rfl, hb⟩
  exact post_one hSt hb (ob := none) ⟨rfl, rfl, rfl⟩

theorem name_ok (s : ByteArray) (hs : s.size ≤ 9223372036854775807) : CallOK Tryd.prog EGlob.G 131 [.c (.sc (.string s))] [.d (inj .bool (EText.rightB s))] :=
  ok_bool fun w _ => EText.name_Right_calls s w hs

theorem line_ok (s : ByteArray) (hs : s.size ≤ 9223372036854775807) : CallOK Tryd.prog EGlob.G 157 [.c (.sc (.string s))] [.d (inj .bool (EText.lineB s))] :=
  ok_bool fun w hG => EText.lines_Right_calls s w hs hG

theorem split_ok (s t : ByteArray) (hs : s.size < 4294967281) (ht : 1 ≤ t.size) : CallOK Tryd.prog EGlob.G 129 [.c (.sc (.string s)), .c (.sc (.string t))] [.own 9 .str (EText.splitL s t)] := by
  intro w St Q a hG hSt hQ ha
  obtain ⟨c, d, rfl, hc, hd⟩ := args2 ha
  rw [arg_str hc, arg_str hd]
  obtain ⟨m, hm⟩ := hG.2
  refine (Tryd.strings_Split s t m w hs hm ht).mono ?_
  rintro e w' ⟨rfl, rfl⟩
  have hle := Lib.countB_le t ht s.size s (Nat.le_refl _)
  have hlen : (EText.splitL s t).length = Lib.countB s t + 1 := Lib.splitB_all t ht 0 _ s rfl
  have hb : Below w.heap.size w (w.alloc (.cells ((Lib.splitB t 0 (Lib.countB s t) s).map Value.string).toArray 9)) := (Below.refl _ w).alloc (Nat.le_refl _) _
  have ho : (w.alloc (.cells ((Lib.splitB t 0 (Lib.countB s t) s).map Value.string).toArray 9)).ownsRow w.heap.size 9 1 (.slice (some ⟨w.heap.size, 0, none⟩) (Lib.countB s t + 1) (Lib.countB s t + 1)) (EText.splitL s t).length ((EText.splitL s t).map Value.string) := by
    have hs2 : ((EText.splitL s t).map Value.string).toArray.size = (Lib.countB s t + 1) * 1 := by simp [hlen]
    refine ⟨by simp, .inr ⟨w.heap.size, Lib.countB s t + 1, _, by rw [hlen], Nat.le_refl _, Go.Proofs.YtokecnkjgoghhaaDoorW.PrintWords.blk_new _ _, by omega, by unfold maxLen; omega, hs2, ?_⟩⟩
    show List.take _ ((EText.splitL s t).map Value.string) = _
    rw [List.take_of_length_le (by simp)]
  obtain ⟨ob, h⟩ := rv_own hSt ho
  exact post_one hSt hb h

theorem clone_ok (xs : List ByteArray) (hx : xs.length * 16 ≤ 140737488355328) : CallOK Tryd.prog EGlob.G 113 [.c (.sl .str xs)] [.own 9 .str xs] := by
  intro w St Q a hG hSt hQ ha
  obtain ⟨c, rfl, hc⟩ := args1 ha
  obtain ⟨c', hcc, hc⟩ := hc
  cases hcc
  rcases hc with ⟨rfl, h0⟩ | ⟨b, o, s, cap, rfl, hle, hel⟩
  · have h0 : xs = [] := h0
    subst h0
    refine (Tryd.slices_Clone_string_nil 0 0 w).mono ?_
    rintro e w' ⟨rfl, rfl⟩
    exact post_one hSt (Below.refl _ _) (ob := none) ⟨rfl, rfl⟩
  · cases xs with
    | nil =>
      refine (Tryd.slices_Clone_string_zero ⟨b, o, s⟩ cap w).mono ?_
      rintro e w' ⟨v, rfl, ho, _, hb⟩
      obtain ⟨ob, h⟩ := rv_own (xs := []) hSt ho
      exact post_one hSt hb h
    | cons x0 xs0 =>
      obtain rfl := (hel 0 x0 rfl).1
      refine (Tryd.slices_Clone_string b o (x0 :: xs0).length cap (x0 :: xs0) w (Nat.le_refl _) hx (fun j hj => ?_)).mono ?_
      · obtain ⟨_, l', hl', hat⟩ := hel j (x0 :: xs0)[j] (List.getElem?_eq_some_iff.2 ⟨hj, rfl⟩)
        have hl' : l' = [.string (x0 :: xs0)[j]] := hl'
        subst hl'
        have := (hat 0 (.string (x0 :: xs0)[j]) rfl).2
        rw [show Ty.w Ty.str = 1 from rfl, Nat.mul_one, Nat.add_zero] at this
        rw [this, List.getD_eq_getElem?_getD, List.getElem?_eq_some_iff.2 ⟨hj, rfl⟩]
        rfl
      · rintro e w' ⟨v, rfl, ho, _, hb⟩
        rw [List.take_length] at ho
        obtain ⟨ob, h⟩ := rv_own hSt ho
        exact post_one hSt hb h

theorem set_ok (xs : List ByteArray) (hx : xs.length * 16 ≤ 140737488355328) : CallOK Tryd.prog EGlob.G 104 [.c (.sl .str xs)] [.own 9 .str (ESet.setL xs)] := by
  intro w St Q a hG hSt hQ ha
  obtain ⟨c, rfl, hc⟩ := args1 ha
  obtain ⟨c', hcc, hc⟩ := hc
  cases hcc
  have fin : ∀ (A0 : Option Addr) (c0 : Nat), Kd.C Kd.string w A0 xs.length xs → Calls Tryd.prog 104 #[.slice A0 xs.length c0] w fun e w' => Post w St [.own 9 .str (ESet.setL xs)] e w' := by
    intro A0 c0 h
    refine (ESet.set_calls A0 c0 xs w h hx).mono ?_
    rintro e w' ⟨v, rfl, hr, hb⟩
    obtain ⟨ob, h⟩ := rv_own hSt (Kd.own_of_R hr)
    exact post_one hSt hb h
  rcases hc with ⟨rfl, h0⟩ | ⟨b, o, s, cap, rfl, hle, hel⟩
  · have h0 : xs = [] := h0
    subst h0
    exact fin none 0 ⟨rfl, by simp, fun h => absurd h (by simp)⟩
  · refine fin _ cap ⟨rfl, by omega, fun hpos => ⟨_, rfl, fun j p hj => ?_⟩⟩
    obtain ⟨rfl, l', hl', hat⟩ := hel j p hj
    have hl' : l' = [.string p] := hl'
    subst hl'
    refine ⟨[.string p], rfl, rfl, fun i u hu => ?_⟩
    cases i with
    | succ i => simp at hu
    | zero =>
      simp only [List.getElem?_cons_zero, Option.some.injEq] at hu
      subst hu
      have := (hat 0 (.string p) rfl).2
      rw [show Ty.w Ty.str = 1 from rfl] at this
      rw [show Kd.string.sz = 1 from rfl]
      have this : w.cell? ⟨b, o + j, none⟩ = some (.string p) := by simpa using this
      simp only [Addr.add, Nat.mul_one, Nat.add_zero]
      split
      · rename_i h0; subst h0; exact this
      · exact this

theorem decode_ok (s : ByteArray) : CallOK Tryd.prog EGlob.G 177 [.c (.sc (.string s))] [.d (inj (.int .i32) (Lib.decodeGo s).1), .d (inj (.int .i64) (Lib.decodeGo s).2)] := by
  intro w St Q a hG hSt hQ ha
  obtain ⟨c, rfl, hc⟩ := args1 ha
  rw [arg_str hc]
  refine (Tryd.utf8_DecodeRuneInString s w hG.1).mono ?_
  rintro e w' ⟨rfl, hb⟩
  exact post_two hSt hb ⟨rfl, rfl⟩ ⟨rfl, rfl⟩

theorem grow_ok (n : Int) (h0 : 0 ≤ n) (hl : n.toNat * 16 < 140737488355328) : CallOK Tryd.prog EGlob.G 116 [.c .nl, .c (.sc (.int .i64 n))] [.own 9 .str []] := by
  intro w St Q a hG hSt hQ ha
  obtain ⟨c, d, rfl, hc, hd⟩ := args2 ha
  rw [show c = .slice none 0 0 from hc, show d = .int .i64 n from hd.1]
  refine (EGrow.grow_nil n w h0 hl).mono ?_
  rintro e w' ⟨v, rfl, hr, hb⟩
  obtain ⟨ob, h⟩ := rv_own (xs := []) hSt (Kd.own_of_R hr)
  exact post_one hSt hb h

theorem join_ok (xs : List ByteArray) (s : ByteArray) (hl : xs.length ≤ 140737488355328) (hj : (joinT xs s).size ≤ 140737488355328) : CallOK Tryd.prog EGlob.G 180 [.c (.sl .str xs), .c (.sc (.string s))] [.d (inj .str (joinT xs s))] := by
  intro w St Q a hG hSt hQ ha
  obtain ⟨c, d, rfl, hc, hd⟩ := args2 ha
  rw [arg_str hd]
  obtain ⟨c', hcc, hc⟩ := hc
  cases hcc
  rcases hc with ⟨rfl, h0⟩ | ⟨b, o, q, cap, rfl, hle, hel⟩
  · have h0 : xs = [] := h0
    subst h0
    refine (Tryd.strings_Join_none none 0 s w).mono ?_
    rintro e w' ⟨rfl, rfl⟩
    exact post_one hSt (Below.refl _ _) (ob := none) ⟨rfl, rfl, rfl⟩
  · cases xs with
    | nil =>
      refine (Tryd.strings_Join_none (some ⟨b, o, q⟩) cap s w).mono ?_
      rintro e w' ⟨rfl, rfl⟩
      exact post_one hSt (Below.refl _ _) (ob := none) ⟨rfl, rfl, rfl⟩
    | cons x0 xs0 =>
      obtain rfl := (hel 0 x0 rfl).1
      have hcell : ∀ (j : Nat) x, (x0 :: xs0)[j]? = some x → St b (o + j) ∧ w.cell? ⟨b, o + j, none⟩ = some (.string x) := fun j x hj => by
        obtain ⟨_, l', hl', hat⟩ := hel j x hj
        have hl' : l' = [.string x] := hl'
        subst hl'
        have := hat 0 (.string x) rfl
        rw [show Ty.w Ty.str = 1 from rfl, Nat.mul_one, Nat.add_zero] at this
        exact this
      refine (Tryd.strings_Join b o cap (x0 :: xs0) s w (fun j x hj => (hcell j x hj).2) (hSt _ _ (hcell 0 x0 rfl).1) hl hle hj).mono ?_
      rintro e w' ⟨rfl, hb⟩
      exact post_one hSt hb (ob := none) ⟨rfl, rfl, rfl⟩

theorem ext_ok : ∀ f g args rvs, ext f = some g → g args = some rvs → (match eat f with | true => CallEat Tryd.prog EGlob.G f args rvs | false => CallOK Tryd.prog EGlob.G f args rvs) ∧ Enterable Tryd.prog f := by
  intro f g args rvs hf hg
  unfold ext at hf
  split at hf
  · cases hf
    refine ⟨?_, _, Tryd.func131, rfl, by decide⟩
    unfold str1 at hg
    split at hg
    · simp only at hg
      split at hg
      · rename_i h; cases hg; exact name_ok _ h
      · cases hg
    · cases hg
  · cases hf
    refine ⟨?_, _, Tryd.func157, rfl, by decide⟩
    unfold str1 at hg
    split at hg
    · simp only at hg
      split at hg
      · rename_i h; cases hg; exact line_ok _ h
      · cases hg
    · cases hg
  · cases hf
    refine ⟨?_, _, Tryd.func129, rfl, by decide⟩
    unfold str2 at hg
    split at hg
    · simp only at hg
      split at hg
      · rename_i h; cases hg; exact split_ok _ _ h.1 h.2
      · cases hg
    · cases hg
  · cases hf
    refine ⟨?_, _, Tryd.func113, rfl, by decide⟩
    unfold strs1 at hg
    split at hg
    · simp only at hg
      split at hg
      · rename_i h; cases hg; exact clone_ok _ h
      · cases hg
    · cases hg
  · cases hf
    refine ⟨?_, _, Tryd.func177, rfl, by decide⟩
    unfold str1 at hg
    split at hg
    · cases hg; exact decode_ok _
    · cases hg
  · cases hf
    refine ⟨?_, _, Tryd.func116, rfl, by decide⟩
    unfold nilInt at hg
    split at hg
    · simp only at hg
      split at hg
      · rename_i h; cases hg; exact grow_ok _ h.1 h.2
      · cases hg
    · cases hg
  · cases hf
    refine ⟨?_, _, Tryd.func102, rfl, by decide⟩
    unfold prims1 at hg
    split at hg
    · split at hg
      · rename_i T xs hT
        subst hT
        simp only at hg
        split at hg
        · rename_i h; cases hg; exact Cl.clone_ok _ (fun _ _ h hb => EGlob.G_below h hb) _ h
        · cases hg
      · cases hg
    · cases hg
  · cases hf
    refine ⟨?_, _, Tryd.func104, rfl, by decide⟩
    unfold strs1 at hg
    split at hg
    · simp only at hg
      split at hg
      · rename_i h; cases hg; exact set_ok _ h
      · cases hg
    · cases hg
  · cases hf
    refine ⟨?_, _, Tryd.func172, rfl, by decide⟩
    unfold files1 at hg
    split at hg
    · split at hg
      · rename_i T xs hT
        subst hT
        simp only at hg
        split at hg
        · rename_i h; cases hg; exact ClF.clone_ok _ (fun _ _ h hb => EGlob.G_below h hb) _ h
        · cases hg
      · cases hg
    · cases hg
  · cases hf
    refine ⟨?_, _, Tryd.func180, rfl, by decide⟩
    unfold strsStr at hg
    split at hg
    · simp only at hg
      split at hg
      · rename_i h; cases hg; exact join_ok _ _ h.1 h.2
      · cases hg
    · cases hg
  · cases hf
    refine ⟨?_, _, Tryd.func173, rfl, by decide⟩
    unfold filesIns at hg
    split at hg
    · rename_i T xs i U ys
      split at hg
      · rename_i hT
        subst hT
        split at hg
        · rename_i hU
          subst hU
          simp only at hg
          split at hg
          · rename_i h
            cases hg
            obtain ⟨h1, h2, h3, h4⟩ := h
            have h1 : 0 ≤ i := h1
            have h2 : i ≤ xs.length := h2
            obtain ⟨f, rfl⟩ : ∃ f, ys = [f] := List.length_eq_one_iff.1 h3
            exact EFi.ins_ok xs i f h1 h2 (by have h4 : (xs.length + 1) * 48 ≤ 100000000000000 := h4; omega)
          · cases hg
        · cases hg
      · cases hg
    · cases hg
  · cases hf
    refine ⟨?_, _, Tryd.func174, rfl, by decide⟩
    unfold filesDel at hg
    split at hg
    · rename_i T xs f' s'
      split at hg
      · rename_i hT
        obtain ⟨hT, hf'⟩ := hT
        subst hT; subst hf'
        simp only at hg
        split at hg
        · rename_i h; cases hg; exact EFi.del_ok xs s' h
        · cases hg
      · cases hg
    · cases hg
  · cases hf

end Go.Proofs.YtokecnkjgoghhaaDoor.Ex
end
section
/- The tables of this seat for the machine: its types, what its functions take and hand back, what is kept at their loops; and that the tables tell the truth of the program. No condition. -/
namespace Go.Proofs.YtokecnkjgoghhaaDoor.Tb
open Go Go.Proofs.YtokecnkjgoghhaaDoor.Ab
/-- api.Prim -/
abbrev ty24 : Ty := .pair (.int .i64) (.pair .str (.pair .str (.pair (.int .i64) (.pair (.sl .str) (.sl .str)))))
/-- api.File -/
abbrev ty68 : Ty := .pair .str (.pair .bool (.sl .str))
/-- tree.Tree -/
abbrev ty55 : Ty := .pair (.sl ty68) .unit
/-- rafterref06.Call -/
abbrev ty57 : Ty := .pair (.int .i64) (.pair .str (.pair .str (.sl .str)))
def ti : TypeId → Option TI
  | 3 => some ⟨.int .i64, 1, 8, .int .i64 0, some (.int .i64)⟩
  | 4 => some ⟨.bool, 1, 1, .bool false, some .bool⟩
  | 5 => some ⟨.int .u8, 1, 1, .int .u8 0, some (.int .u8)⟩
  | 9 => some ⟨.string, 1, 16, .string ⟨#[]⟩, some .str⟩
  | 21 => some ⟨.int .i32, 1, 4, .int .i32 0, some (.int .i32)⟩
  | 22 => some ⟨.slice 9, 1, 24, .slice none 0 0, some (.sl .str)⟩
  | 24 => some ⟨.struct [(0, 3), (1, 9), (2, 9), (3, 3), (4, 22), (5, 22)], 6, 96, .agg #[.int .i64 0, .string ⟨#[]⟩, .string ⟨#[]⟩, .int .i64 0, .slice none 0 0, .slice none 0 0], some ty24⟩
  | 26 => some ⟨.slice 24, 1, 24, .slice none 0 0, some (.sl ty24)⟩
  | 28 => some ⟨.int .i64, 1, 8, .int .i64 0, some (.int .i64)⟩
  | 52 => some ⟨.slice 57, 1, 24, .slice none 0 0, some (.sl ty57)⟩
  | 53 => some ⟨.slice 68, 1, 24, .slice none 0 0, some (.sl ty68)⟩
  | 55 => some ⟨.struct [(0, 53)], 1, 24, .agg #[.slice none 0 0], some ty55⟩
  | 57 => some ⟨.struct [(0, 3), (1, 9), (2, 9), (3, 22)], 4, 64, .agg #[.int .i64 0, .string ⟨#[]⟩, .string ⟨#[]⟩, .slice none 0 0], some ty57⟩
  | 68 => some ⟨.struct [(0, 9), (1, 4), (2, 22)], 3, 48, .agg #[.string ⟨#[]⟩, .bool false, .slice none 0 0], some ty68⟩
  | 84 => some ⟨.slice 3, 1, 24, .slice none 0 0, some (.sl (.int .i64))⟩
  | 109 => some ⟨.other, 1, 8, .nilFunc, none⟩
  | 135 => some ⟨.slice 22, 1, 24, .slice none 0 0, some (.sl (.sl .str))⟩
  | 163 => some ⟨.other, 1, 8, .nilFunc, none⟩
  | 166 => some ⟨.other, 1, 8, .nilFunc, none⟩
  | 181 => some ⟨.int .u64, 1, 8, .int .u64 0, some (.int .u64)⟩
  | 187 => some ⟨.other, 1, 8, .nilFunc, none⟩
  | _ => none
def sg : FuncId → Option Sig
  | 4 => some ⟨[some ty24, some ty24], [.d .bool], [], false⟩
  | 5 => some ⟨[some (.sl ty24)], [.d .bool], [], false⟩
  | 7 => some ⟨[some (.sl ty57), some .str], [.d .bool], [], false⟩
  | 10 => some ⟨[some (.sl ty24)], [.d .bool], [], false⟩
  | 13 => some ⟨[some (.sl ty24), some (.sl ty24)], [.d .bool], [], false⟩
  | 14 => some ⟨[some (.sl ty24)], [.d .bool], [], false⟩
  | 15 => some ⟨[], [.d .bool], [], false⟩
  | 16 => some ⟨[some ty24, some ty24], [.own 24 ty24, .d .bool], [], false⟩
  | 17 => some ⟨[some ty24, some ty24], [.own 24 ty24, .d .bool], [], false⟩
  | 18 => some ⟨[some ty24, some ty24], [.d ty24, .d .bool], [], false⟩
  | 19 => some ⟨[some ty24, some ty24], [.d ty24, .d .bool], [], false⟩
  | 20 => some ⟨[some ty24, some ty24], [.d .bool], [], false⟩
  | 21 => some ⟨[some ty24, some ty24], [.d .bool], [], false⟩
  | 22 => some ⟨[some (.sl ty24)], [.own 24 ty24], [], false⟩
  | 32 => some ⟨[], [.d .bool], [], false⟩
  | 33 => some ⟨[some (.sl .str)], [.d .bool], [], false⟩
  | 34 => some ⟨[some ty55, some ty57], [.d ty55, .d (.int .i64)], [], false⟩
  | 35 => some ⟨[some (.sl ty68), some ty57], [.d (.sl ty68), .d (.int .i64)], [], false⟩
  | 36 => some ⟨[some ty55], [.own 68 ty68], [], false⟩
  | 37 => some ⟨[some ty55], [.d (.int .i64), .d (.int .i64)], [], false⟩
  | 38 => some ⟨[some (.sl ty68), some (.sl ty68)], [.d .bool], [], false⟩
  | 39 => some ⟨[some ty55, some .str], [.d ty68, .d .bool], [], false⟩
  | 40 => some ⟨[some (.sl ty68), some .str], [.d (.int .i64)], [], false⟩
  | 41 => some ⟨[some .str], [.d .str], [], false⟩
  | 42 => some ⟨[some (.sl .str), some (.sl .str)], [.d .bool], [], false⟩
  | 43 => some ⟨[some ty55, some .str], [.own 9 .str], [], false⟩
  | 61 => some ⟨[some ty24], [.d (.int .i64)], [], false⟩
  | 64 => some ⟨[some ty24], [.d ty24], [], false⟩
  | 65 => some ⟨[some ty24, some ty24], [.d .bool], [], false⟩
  | 66 => some ⟨[some (.sl .str), some (.sl .str)], [.d .bool], [], false⟩
  | 67 => some ⟨[some ty24], [.d (.int .i64)], [], false⟩
  | 68 => some ⟨[some ty24], [.d ty24], [], false⟩
  | 69 => some ⟨[some (.int .i64), some (.int .i64), none], [.d (.sl .str)], [], false⟩
  | 70 => some ⟨[some (.sl (.sl .str))], [.own 9 .str], [], false⟩
  | 71 => some ⟨[some (.int .i64), some (.int .i64)], [.d (.int .i64)], [], false⟩
  | 72 => some ⟨[some (.int .i64), some (.int .i64)], [.d (.int .i64)], [], false⟩
  | 79 => some ⟨[some .str], [.d .bool], [], false⟩
  | 82 => some ⟨[some .str], [.d .bool], [], false⟩
  | 87 => some ⟨[some ty55, some .str], [.d ty55, .d (.int .i64)], [], false⟩
  | 88 => some ⟨[some ty55, some .str, some (.sl .str)], [.d ty55, .d (.int .i64)], [], false⟩
  | 89 => some ⟨[some ty55, some .str, some .str], [.d ty55, .d (.int .i64)], [], false⟩
  | 90 => some ⟨[some ty55, some ty55], [.d .bool], [], false⟩
  | 91 => some ⟨[some ty55, some .str], [.d ty55, .d (.int .i64)], [], false⟩
  | 92 => some ⟨[some (.sl ty68), some .str], [.d .bool], [], false⟩
  | 93 => some ⟨[some (.sl ty68), some ty68], [.own 68 ty68], [], false⟩
  | 94 => some ⟨[some (.sl .str)], [.d (.int .i64)], [], false⟩
  | 95 => some ⟨[some (.sl ty68), some .str], [.own 68 ty68], [], false⟩
  | 96 => some ⟨[some ty68], [.d ty68], [], false⟩
  | 97 => some ⟨[some ty55, some .str], [.d (.int .i64), .d .bool], [], false⟩
  | 98 => some ⟨[some .str], [.own 9 .str], [], false⟩
  | 99 => some ⟨[some (.sl .str)], [.d .str], [], false⟩
  | 100 => some ⟨[some .str, none], [.d .bool], [], false⟩
  | 101 => some ⟨[some .str], [.d .str], [], false⟩
  | 102 => some ⟨[some (.sl ty24)], [.own 24 ty24], [], false⟩
  | 104 => some ⟨[some (.sl .str)], [.own 9 .str], [], false⟩
  | 109 => some ⟨[some (.sl .str), none], [.d .bool], [], false⟩
  | 111 => some ⟨[some (.sl .str)], [.d (.int .i64)], [], false⟩
  | 112 => some ⟨[some (.int .i64)], [.d (.int .i64)], [], false⟩
  | 113 => some ⟨[some (.sl .str)], [.own 9 .str], [], false⟩
  | 114 => some ⟨[some ty24, some ty24], [.d .bool], [], false⟩
  | 115 => some ⟨[some (.sl .str), some (.sl .str)], [.d .bool], [], false⟩
  | 116 => some ⟨[none, some (.int .i64)], [.own 9 .str], [], false⟩
  | 129 => some ⟨[some .str, some .str], [.own 9 .str], [], false⟩
  | 130 => some ⟨[some .str], [.d .bool], [], false⟩
  | 131 => some ⟨[some .str], [.d .bool], [], false⟩
  | 137 => some ⟨[some ty55, some .str], [.d (.int .i64)], [], false⟩
  | 138 => some ⟨[some ty55, some ty68], [.d ty55], [], false⟩
  | 139 => some ⟨[some ty55, some .str], [.d .bool], [], false⟩
  | 140 => some ⟨[some ty55, some .str], [.d ty55], [], false⟩
  | 141 => some ⟨[some (.sl ty68), some (.sl ty68), none], [.d .bool], [], false⟩
  | 142 => some ⟨[some ty68, some ty68], [.d .bool], [], false⟩
  | 143 => some ⟨[some (.sl ty68)], [.own 68 ty68], [], false⟩
  | 144 => some ⟨[some .str], [.d .bool], [], false⟩
  | 145 => some ⟨[some (.sl ty68), some ty68, none], [.d (.int .i64), .d .bool], [], false⟩
  | 146 => some ⟨[some ty68, some ty68], [.d (.int .i64)], [], false⟩
  | 147 => some ⟨[some .str], [.d .bool], [], false⟩
  | 148 => some ⟨[some .str], [.own 9 .str], [], false⟩
  | 149 => some ⟨[some (.sl .str)], [.d .str], [], false⟩
  | 155 => some ⟨[some (.sl .str), none], [.d (.int .i64)], [], false⟩
  | 156 => some ⟨[some .str], [.d .bool], [], false⟩
  | 157 => some ⟨[some .str], [.d .bool], [], false⟩
  | 158 => some ⟨[some (.int .i64), some (.int .i64), none], [.d (.int .i64)], [], false⟩
  | 172 => some ⟨[some (.sl ty68)], [.own 68 ty68], [], false⟩
  | 173 => some ⟨[some (.sl ty68), some (.int .i64), some (.sl ty68)], [.own 68 ty68], [], true⟩
  | 174 => some ⟨[some (.sl ty68), none], [.own 68 ty68], [], true⟩
  | 175 => some ⟨[some ty68, none], [.d .bool], [], false⟩
  | 176 => some ⟨[some .str, some .str], [.d .bool], [], false⟩
  | 177 => some ⟨[some .str], [.d (.int .i32), .d (.int .i64)], [], false⟩
  | 178 => some ⟨[some .str, some .str], [.d .bool], [], false⟩
  | 179 => some ⟨[some (.int .u8)], [.d .bool], [], false⟩
  | 180 => some ⟨[some (.sl .str), some .str], [.d .str], [], false⟩
  | 199 => some ⟨[some (.sl .str), some (.sl .str)], [.d (.int .i64)], [], false⟩
  | 220 => some ⟨[some .str, some .str], [.d (.int .i64)], [], false⟩
  | 228 => some ⟨[some .str], [.d .bool], [], false⟩
  | _ => none
noncomputable def code (f : Func) : Code := match f.body with | some c => c | none => .skip
/-- rafter/rafterref01.Same -/
def n42 : Note := ⟨26, [.tmp 4], [.d .bool], [(4, [(0, .any), (1, .any), (5, .any)])], [], [], 0⟩
/-- rafter/rafterref07.Same -/
def n13 : Note := ⟨95, [.tmp 4], [.d .bool], [(4, [(0, .any), (1, .any), (5, .any)])], [], [], 0⟩
/-- rafter/rafterlaw03.Light -/
def n33 : Note := ⟨19, [.tmp 2], [.d .bool], [(2, [(0, .any), (3, .any)])], [], [], 0⟩
/-- rafter/rafterlaw07.Light -/
def n10 : Note := ⟨47, [.tmp 2], [.d .bool], [(2, [(0, .any), (3, .any)])], [], [], 0⟩
/-- rafter/rafterlaw09.light -/
def n14 : Note := ⟨18, [.tmp 2], [.d .bool], [(2, [(0, .any), (3, .any)])], [], [], 0⟩
/-- slices.IndexFunc[[]string,string] -/
def n155 : Note := ⟨19, [.tmp 4], [.d (.int .i64)], [(2, [(0, .any), (1, .any), (7, .any), (8, .any)])], [], [], 0⟩
/-- slices.ContainsFunc[[]string,string] -/
def n109 : Note := ⟨9, [.tmp 4], [.d .bool], [], [], [], 0⟩
/-- rafter/path.Right$1 -/
def n130 : Note := ⟨6, [.tmp 2], [.d .bool], [], [], [], 0⟩
/-- rafter/path.Right -/
def n82 : Note := ⟨21, [.tmp 2], [.d .bool], [], [], [], 0⟩
/-- rafter/lines.Check$1 -/
def n156 : Note := ⟨6, [.tmp 2], [.d .bool], [], [], [], 0⟩
/-- rafter/lines.Check -/
def n111 : Note := ⟨8, [.tmp 2], [.d (.int .i64)], [], [], [], 0⟩
/-- rafter/prim.Check -/
def n61 : Note := ⟨99, [.tmp 2], [.d (.int .i64)], [], [], [], 0⟩
/-- rafter/fuse.Touch -/
def n20 : Note := ⟨53, [.tmp 4], [.d .bool], [], [], [], 0⟩
/-- slices.Equal[[]string,string] -/
def n115 : Note := ⟨26, [.tmp 4], [.d .bool], [(4, [(0, .any), (1, .any), (12, .any), (13, .any)])], [], [], 0⟩
/-- rafter/lines.Same -/
def n66 : Note := ⟨8, [.tmp 4], [.d .bool], [], [], [], 0⟩
/-- rafter/fuse.Hunks$1 -/
def n69 : Note := ⟨23, [.tmp 5], [.d (.sl .str)], [], [], [], 0⟩
/-- slices.Concat[[]string,string] -/
def n70 : Note := ⟨36, [.tmp 2], [.own 9 .str], [(3, [(0, .any), (3, .any), (9, .any), (10, .any), (11, .any)]), (11, [(6, .own 9 .str), (25, .any), (26, .any), (27, .any)])], [], [], 0⟩
/-- rafter/fuse.Hunks -/
def n18 : Note := ⟨103, [.cell 4 24, .tmp 5], [.d ty24, .d .bool], [], [], [], 0⟩
/-- rafter/prim.other$1 -/
def n158 : Note := ⟨11, [.tmp 5], [.d (.int .i64)], [], [], [], 0⟩
/-- rafter/prim.other -/
def n112 : Note := ⟨17, [.tmp 2], [.d (.int .i64)], [], [], [], 0⟩
/-- rafter/prim.Invert -/
def n64 : Note := ⟨30, [.cell 2 24], [.d ty24], [], [], [], 0⟩
/-- rafter/prim.Same -/
def n114 : Note := ⟨45, [.tmp 4], [.d .bool], [], [], [], 0⟩
/-- rafter/fuse.undoes -/
def n65 : Note := ⟨24, [.tmp 4], [.d .bool], [], [], [], 0⟩
/-- rafter/fuse.Pair -/
def n16 : Note := ⟨57, [.tmp 4, .tmp 5], [.own 24 ty24, .d .bool], [], [], [], 0⟩
/-- rafter/fuse.All -/
def n22 : Note := ⟨53, [.tmp 2], [.own 24 ty24], [(3, [(3, .own 24 ty24), (9, .any), (10, .any), (11, .any)]), (6, [(3, .own 24 ty24), (6, .any), (9, .any), (10, .any), (11, .any)])], [], [], 0⟩
/-- rafter/rafterlaw09.awake -/
def n15 : Note := ⟨50, [.tmp 0], [.d .bool], [], [(4, [(1, .sh), (2, .sh), (3, .sh), (4, .any)])], [], 0⟩
/-- rafter/rafterref02.letter -/
def n179 : Note := ⟨16, [.tmp 2], [.d .bool], [(3, [(0, .any), (3, .any), (4, .any)])], [], [], 0⟩
/-- rafter/rafterref02.Right -/
def n147 : Note := ⟨31, [.tmp 2], [.d .bool], [(2, [(0, .any), (3, .any)])], [], [], 0⟩
/-- rafter/rafterref05.Names -/
def n98 : Note := ⟨44, [.tmp 2], [.own 9 .str], [(6, [(0, .any), (3, .own 9 .str), (4, .any), (5, .any)])], [], [], 0⟩
/-- rafter/rafterref05.Right -/
def n79 : Note := ⟨7, [.tmp 2], [.d .bool], [], [], [], 0⟩
/-- rafter/rafterref03.Right -/
def n144 : Note := ⟨37, [.tmp 2], [.d .bool], [(4, [(0, .any), (3, .any)])], [], [], 0⟩
/-- rafter/rafterref03.Check -/
def n94 : Note := ⟨19, [.tmp 2], [.d (.int .i64)], [(4, [(0, .any), (3, .any)])], [], [], 0⟩
/-- rafter/rafterref07.Check -/
def n67 : Note := ⟨89, [.tmp 2], [.d (.int .i64)], [], [], [], 0⟩
/-- rafter/rafterref09.Touch -/
def n21 : Note := ⟨50, [.tmp 4], [.d .bool], [], [], [], 0⟩
/-- rafter/rafterref01.Low -/
def n71 : Note := ⟨10, [.tmp 4], [.d (.int .i64)], [], [], [], 0⟩
/-- rafter/rafterref01.High -/
def n72 : Note := ⟨10, [.tmp 4], [.d (.int .i64)], [], [], [], 0⟩
/-- rafter/rafterref09.Hunks -/
def n19 : Note := ⟨163, [.cell 4 24, .tmp 5], [.d ty24, .d .bool], [(8, [(2, .any), (3, .any), (4, .any), (6, .cells [(4, 9, .str), (5, 9, .str)]), (7, .any), (8, .any), (9, .any), (10, .any)])], [(13, [(2, .any), (3, .any), (4, .any), (6, .cells [(4, 9, .str), (5, 9, .str)]), (7, .any), (8, .any), (9, .any), (10, .any)]), (16, [(2, .any), (3, .any), (4, .any), (6, .cells [(4, 9, .str), (5, 9, .str)]), (7, .any), (8, .any), (9, .any), (10, .any)]), (17, [(2, .any), (3, .any), (4, .any), (6, .cells [(4, 9, .str), (5, 9, .str)]), (7, .any), (8, .any), (9, .any), (10, .any), (11, .any)]), (18, [(2, .any), (3, .any), (4, .any), (6, .cells [(4, 9, .str), (5, 9, .str)]), (7, .any), (8, .any), (9, .any), (10, .any), (11, .any), (12, .any)]), (20, [(2, .any), (3, .any), (4, .any), (6, .cells [(4, 9, .str), (5, 9, .str)]), (7, .any), (8, .any), (9, .any), (10, .any), (11, .any), (12, .any)]), (22, [(2, .any), (3, .any), (4, .any), (6, .cells [(4, 9, .str), (5, 9, .str)]), (7, .any), (8, .any), (9, .any), (10, .any), (11, .any), (12, .any)]), (9, [(2, .any), (3, .any), (4, .any), (6, .cells [(4, 9, .str), (5, 9, .str)]), (7, .any), (8, .any), (9, .any), (10, .any)])], [], 0⟩
/-- rafter/rafterref07.Invert -/
def n68 : Note := ⟨37, [.cell 2 24], [.d ty24], [], [], [], 0⟩
/-- rafter/rafterref09.Pair -/
def n17 : Note := ⟨73, [.tmp 4, .tmp 5], [.own 24 ty24, .d .bool], [], [], [], 0⟩
/-- rafter/rafterlaw09.FusePairs -/
def n4 : Note := ⟨75, [.tmp 4], [.d .bool], [], [], [], 0⟩
/-- rafter/rafterlaw09.FuseAll -/
def n5 : Note := ⟨64, [.tmp 2], [.d .bool], [(5, [(0, .any), (3, .own 24 ty24), (4, .any)]), (8, [(0, .any), (3, .own 24 ty24), (4, .any), (5, .any)])], [], [], 0⟩
/-- (rafter/tree.Tree).Size -/
def n37 : Note := ⟨24, [.tmp 2, .tmp 3], [.d (.int .i64), .d (.int .i64)], [(3, [(4, .any), (5, .any), (9, .any), (10, .any), (11, .any)])], [], [], 0⟩
/-- rafter/tree.own -/
def n96 : Note := ⟨8, [.cell 2 68], [.d ty68], [], [], [], 0⟩
/-- slices.BinarySearchFunc[[]rafter/api.File,rafter/api.File,rafter/api.File] -/
def n145 : Note := ⟨49, [.tmp 6, .tmp 7], [.d (.int .i64), .d .bool], [(3, [(0, .any), (2, .any), (4, .any), (8, .any), (9, .any), (10, .any)])], [], [], 0⟩
/-- rafter/path.Split -/
def n148 : Note := ⟨8, [.tmp 2], [.own 9 .str], [], [], [], 0⟩
/-- cmp.isNaN[string] -/
def n228 : Note := ⟨6, [.tmp 2], [.d .bool], [], [], [], 0⟩
/-- cmp.Compare[string] -/
def n220 : Note := ⟨20, [.tmp 4], [.d (.int .i64)], [], [], [], 0⟩
/-- slices.Compare[[]string,string] -/
def n199 : Note := ⟨36, [.tmp 4], [.d (.int .i64)], [(2, [(0, .any), (1, .any), (9, .any), (10, .any), (11, .any)])], [], [], 0⟩
/-- rafter/path.Less -/
def n178 : Note := ⟨26, [.tmp 4], [.d .bool], [], [], [], 0⟩
/-- rafter/tree.order -/
def n146 : Note := ⟨17, [.tmp 4], [.d (.int .i64)], [], [], [], 0⟩
/-- (rafter/tree.Tree).place -/
def n97 : Note := ⟨13, [.tmp 4, .tmp 5], [.d (.int .i64), .d .bool], [], [], [], 0⟩
/-- (rafter/tree.Tree).Get -/
def n39 : Note := ⟨23, [.cell 4 68, .tmp 5], [.d ty68, .d .bool], [], [], [], 0⟩
/-- rafter/path.Join -/
def n149 : Note := ⟨15, [.tmp 2], [.d .str], [], [], [], 0⟩
/-- rafter/path.Dir -/
def n101 : Note := ⟨13, [.tmp 2], [.d .str], [], [], [], 0⟩
/-- (rafter/tree.Tree).In$1 -/
def n100 : Note := ⟨8, [.tmp 3], [.d .bool], [], [], [], 0⟩
/-- (rafter/tree.Tree).In -/
def n43 : Note := ⟨28, [.tmp 4], [.own 9 .str], [(4, [(5, .own 9 .str), (6, .any), (11, .any), (12, .any), (13, .any)])], [], [], 0⟩
/-- (rafter/tree.Tree).dir -/
def n139 : Note := ⟨22, [.tmp 4], [.d .bool], [], [], [], 0⟩
/-- (rafter/tree.Tree).room -/
def n137 : Note := ⟨16, [.tmp 4], [.d (.int .i64)], [], [], [], 0⟩
/-- (rafter/tree.Tree).with -/
def n138 : Note := ⟨33, [.cell 4 55], [.d ty55], [], [], [], 0⟩
/-- (rafter/tree.Tree).Mkdir -/
def n87 : Note := ⟨32, [.cell 4 55, .tmp 5], [.d ty55, .d (.int .i64)], [], [], [], 0⟩
/-- (rafter/tree.Tree).Write -/
def n88 : Note := ⟨47, [.cell 6 55, .tmp 7], [.d ty55, .d (.int .i64)], [], [], [], 0⟩
/-- (rafter/tree.Tree).without$1 -/
def n175 : Note := ⟨8, [.tmp 3], [.d .bool], [], [], [], 0⟩
/-- (rafter/tree.Tree).without -/
def n140 : Note := ⟨11, [.cell 4 55], [.d ty55], [], [], [], 0⟩
/-- (rafter/tree.Tree).Move -/
def n89 : Note := ⟨58, [.cell 6 55, .tmp 7], [.d ty55, .d (.int .i64)], [], [], [], 0⟩
/-- slices.EqualFunc[[]rafter/api.File,[]rafter/api.File,rafter/api.File,rafter/api.File] -/
def n141 : Note := ⟨32, [.tmp 6], [.d .bool], [(4, [(1, .any), (2, .any), (15, .any), (16, .any), (17, .any)])], [], [], 0⟩
/-- rafter/tree.Same$1 -/
def n142 : Note := ⟨24, [.tmp 4], [.d .bool], [], [], [], 0⟩
/-- rafter/tree.Same -/
def n90 : Note := ⟨10, [.tmp 4], [.d .bool], [], [], [], 0⟩
/-- rafter/rafterlaw06.awake -/
def n32 : Note := ⟨74, [.tmp 0], [.d .bool], [], [], [], 0⟩
/-- (rafter/tree.Tree).Remove -/
def n91 : Note := ⟨36, [.cell 4 55, .tmp 5], [.d ty55, .d (.int .i64)], [], [], [], 0⟩
/-- rafter/rafterlaw06.Do -/
def n34 : Note := ⟨42, [.cell 4 55, .tmp 5], [.d ty55, .d (.int .i64)], [], [], [], 0⟩
/-- rafter/rafterref06.Find -/
def n40 : Note := ⟨20, [.tmp 4], [.d (.int .i64)], [(2, [(0, .any), (1, .any), (5, .any)])], [], [], 0⟩
/-- rafter/rafterref05.Join -/
def n99 : Note := ⟨22, [.tmp 2], [.d .str], [(3, [(0, .any), (3, .any), (4, .any)])], [], [], 0⟩
/-- rafter/rafterref06.Up -/
def n41 : Note := ⟨15, [.tmp 2], [.d .str], [], [], [], 0⟩
/-- rafter/rafterref06.Dir -/
def n92 : Note := ⟨22, [.tmp 4], [.d .bool], [], [], [], 0⟩
/-- rafter/rafterref06.Without -/
def n95 : Note := ⟨28, [.tmp 4], [.own 68 ty68], [(3, [(0, .any), (1, .any), (5, .own 68 ty68), (6, .any)])], [], [], 0⟩
/-- rafter/rafterref05.Less -/
def n176 : Note := ⟨58, [.tmp 4], [.d .bool], [(6, [(5, .own 9 .str), (6, .own 9 .str), (7, .any)])], [], [], 0⟩
/-- rafter/rafterref06.Sort -/
def n143 : Note := ⟨51, [.tmp 2], [.own 68 ty68], [(3, [(0, .any), (3, .own 68 ty68), (4, .any)]), (6, [(0, .any), (3, .own 68 ty68), (4, .any), (5, .any)])], [], [], 0⟩
/-- rafter/rafterref06.With -/
def n93 : Note := ⟨13, [.tmp 4], [.own 68 ty68], [], [], [], 0⟩
/-- rafter/rafterref06.Do -/
def n35 : Note := ⟨154, [.tmp 4, .tmp 5], [.d (.sl ty68), .d (.int .i64)], [(29, [(0, .any), (3, .any), (9, .any)])], [], [], 0⟩
/-- (rafter/tree.Tree).All -/
def n36 : Note := ⟨20, [.tmp 2], [.own 68 ty68], [(3, [(3, .own 68 ty68), (7, .any), (8, .any), (9, .any)])], [], [], 0⟩
/-- rafter/rafterref06.Same -/
def n38 : Note := ⟨55, [.tmp 4], [.d .bool], [(4, [(0, .any), (1, .any), (5, .any)])], [], [], 0⟩
/-- rafter/rafterlaw06.TreeDoes -/
def n7 : Note := ⟨161, [.tmp 4], [.d .bool], [(6, [(0, .any), (1, .any), (5, .any), (6, .any), (7, .any)]), (25, [(1, .any), (5, .any), (6, .any), (15, .any), (16, .any), (17, .any), (18, .own 9 .str), (19, .any)])], [], [], 0⟩
noncomputable def fns : FuncId → Option (Code × Note)
  | 42 => some (code Tryd.f42, n42)
  | 13 => some (code Tryd.f13, n13)
  | 33 => some (code Tryd.f33, n33)
  | 10 => some (code Tryd.f10, n10)
  | 14 => some (code Tryd.f14, n14)
  | 155 => some (code Tryd.f155, n155)
  | 109 => some (code Tryd.f109, n109)
  | 130 => some (code Tryd.f130, n130)
  | 82 => some (code Tryd.f82, n82)
  | 156 => some (code Tryd.f156, n156)
  | 111 => some (code Tryd.f111, n111)
  | 61 => some (code Tryd.f61, n61)
  | 20 => some (code Tryd.f20, n20)
  | 115 => some (code Tryd.f115, n115)
  | 66 => some (code Tryd.f66, n66)
  | 69 => some (code Tryd.f69, n69)
  | 70 => some (code Tryd.f70, n70)
  | 18 => some (code Tryd.f18, n18)
  | 158 => some (code Tryd.f158, n158)
  | 112 => some (code Tryd.f112, n112)
  | 64 => some (code Tryd.f64, n64)
  | 114 => some (code Tryd.f114, n114)
  | 65 => some (code Tryd.f65, n65)
  | 16 => some (code Tryd.f16, n16)
  | 22 => some (code Tryd.f22, n22)
  | 15 => some (code Tryd.f15, n15)
  | 179 => some (code Tryd.f179, n179)
  | 147 => some (code Tryd.f147, n147)
  | 98 => some (code Tryd.f98, n98)
  | 79 => some (code Tryd.f79, n79)
  | 144 => some (code Tryd.f144, n144)
  | 94 => some (code Tryd.f94, n94)
  | 67 => some (code Tryd.f67, n67)
  | 21 => some (code Tryd.f21, n21)
  | 71 => some (code Tryd.f71, n71)
  | 72 => some (code Tryd.f72, n72)
  | 19 => some (code Tryd.f19, n19)
  | 68 => some (code Tryd.f68, n68)
  | 17 => some (code Tryd.f17, n17)
  | 4 => some (code Tryd.f4, n4)
  | 5 => some (code Tryd.f5, n5)
  | 37 => some (code Tryd.f37, n37)
  | 96 => some (code Tryd.f96, n96)
  | 145 => some (code Tryd.f145, n145)
  | 148 => some (code Tryd.f148, n148)
  | 228 => some (code Tryd.f228, n228)
  | 220 => some (code Tryd.f220, n220)
  | 199 => some (code Tryd.f199, n199)
  | 178 => some (code Tryd.f178, n178)
  | 146 => some (code Tryd.f146, n146)
  | 97 => some (code Tryd.f97, n97)
  | 39 => some (code Tryd.f39, n39)
  | 149 => some (code Tryd.f149, n149)
  | 101 => some (code Tryd.f101, n101)
  | 100 => some (code Tryd.f100, n100)
  | 43 => some (code Tryd.f43, n43)
  | 139 => some (code Tryd.f139, n139)
  | 137 => some (code Tryd.f137, n137)
  | 138 => some (code Tryd.f138, n138)
  | 87 => some (code Tryd.f87, n87)
  | 88 => some (code Tryd.f88, n88)
  | 175 => some (code Tryd.f175, n175)
  | 140 => some (code Tryd.f140, n140)
  | 89 => some (code Tryd.f89, n89)
  | 141 => some (code Tryd.f141, n141)
  | 142 => some (code Tryd.f142, n142)
  | 90 => some (code Tryd.f90, n90)
  | 32 => some (code Tryd.f32, n32)
  | 91 => some (code Tryd.f91, n91)
  | 34 => some (code Tryd.f34, n34)
  | 40 => some (code Tryd.f40, n40)
  | 99 => some (code Tryd.f99, n99)
  | 41 => some (code Tryd.f41, n41)
  | 92 => some (code Tryd.f92, n92)
  | 95 => some (code Tryd.f95, n95)
  | 176 => some (code Tryd.f176, n176)
  | 143 => some (code Tryd.f143, n143)
  | 93 => some (code Tryd.f93, n93)
  | 35 => some (code Tryd.f35, n35)
  | 36 => some (code Tryd.f36, n36)
  | 38 => some (code Tryd.f38, n38)
  | 7 => some (code Tryd.f7, n7)
  | _ => none
noncomputable def ext : FuncId → Option (List A → Option (List RV)) := Ex.ext
noncomputable def W0 : Wd := ⟨Tryd.prog, ti, sg, fns, ext, Ex.eat⟩
/-- A call over the limit, its results as data. -/
noncomputable def cR (f : FuncId) (rts : List RT) (xs : List A) : Option (dens rts) := callT (envOf W0 (callW W0)) rts f xs
/-- The same for a call that writes variables of its caller: what then stands in them comes behind. -/
noncomputable def cR2 (f : FuncId) (rts : List RT) (os : List Ty) (xs : List A) : Option (dens rts × dens (os.map RT.d)) := callT2 (envOf W0 (callW W0)) rts os f xs
theorem ti_one {t : TypeId} {i : TI} (d : TypeDesc) (h1 : Tryd.prog.underlying t = some d) (h2 : (Tryd.prog.info? t).map (fun i => (i.size, i.bytes, i.zero)) = some (i.size, i.bytes, some i.zero)) (h3 : Dok d i.desc) : TIok Tryd.prog t i := by
  cases h : Tryd.prog.info? t with
  | none => rw [h] at h2; cases h2
  | some j =>
    rw [h] at h2
    simp only [Option.map_some, Option.some.injEq, Prod.mk.injEq] at h2
    exact ⟨d, j, h1, h, h2.1, h2.2.1, h2.2.2, h3⟩
theorem ti_ok : ∀ t i, ti t = some i → TIok Tryd.prog t i := by
  intro t i h
  unfold ti at h
  split at h
  · cases h; exact ti_one _ Tryd.underlying3 (by kernel_rfl) rfl
  · cases h; exact ti_one _ Tryd.underlying4 (by kernel_rfl) rfl
  · cases h; exact ti_one _ Tryd.underlying5 (by kernel_rfl) rfl
  · cases h; exact ti_one _ Tryd.underlying9 (by kernel_rfl) rfl
  · cases h; exact ti_one _ Tryd.underlying21 (by kernel_rfl) rfl
  · cases h; exact ti_one _ Tryd.underlying22 (by kernel_rfl) rfl
  · cases h; exact ti_one _ Tryd.underlying24 (by kernel_rfl) ⟨_, rfl, rfl⟩
  · cases h; exact ti_one _ Tryd.underlying26 (by kernel_rfl) rfl
  · cases h; exact ti_one _ Tryd.underlying28 (by kernel_rfl) rfl
  · cases h; exact ti_one _ Tryd.underlying52 (by kernel_rfl) rfl
  · cases h; exact ti_one _ Tryd.underlying53 (by kernel_rfl) rfl
  · cases h; exact ti_one _ Tryd.underlying55 (by kernel_rfl) ⟨_, rfl, rfl⟩
  · cases h; exact ti_one _ Tryd.underlying57 (by kernel_rfl) ⟨_, rfl, rfl⟩
  · cases h; exact ti_one _ Tryd.underlying68 (by kernel_rfl) ⟨_, rfl, rfl⟩
  · cases h; exact ti_one _ Tryd.underlying84 (by kernel_rfl) rfl
  · cases h; exact ti_one _ Tryd.underlying109 (by kernel_rfl) trivial
  · cases h; exact ti_one _ Tryd.underlying135 (by kernel_rfl) rfl
  · cases h; exact ti_one _ Tryd.underlying163 (by kernel_rfl) trivial
  · cases h; exact ti_one _ Tryd.underlying166 (by kernel_rfl) trivial
  · cases h; exact ti_one _ Tryd.underlying181 (by kernel_rfl) rfl
  · cases h; exact ti_one _ Tryd.underlying187 (by kernel_rfl) trivial
  · cases h
theorem fns_ok : ∀ f c N, fns f = some (c, N) → ∃ fn, Tryd.prog.funcs[f]? = some fn ∧ fn.body = some c ∧ N.nt ≤ fn.ntmps ∧ fn.results.toList = N.res ∧ (fn.name == "runtime.NumGoroutine") = false := by
  intro f c N h
  unfold fns at h
  split at h
  · cases h; exact ⟨_, Tryd.func42, rfl, Nat.le_refl _, rfl, by decide⟩
  · cases h; exact ⟨_, Tryd.func13, rfl, Nat.le_refl _, rfl, by decide⟩
  · cases h; exact ⟨_, Tryd.func33, rfl, Nat.le_refl _, rfl, by decide⟩
  · cases h; exact ⟨_, Tryd.func10, rfl, Nat.le_refl _, rfl, by decide⟩
  · cases h; exact ⟨_, Tryd.func14, rfl, Nat.le_refl _, rfl, by decide⟩
  · cases h; exact ⟨_, Tryd.func155, rfl, Nat.le_refl _, rfl, by decide⟩
  · cases h; exact ⟨_, Tryd.func109, rfl, Nat.le_refl _, rfl, by decide⟩
  · cases h; exact ⟨_, Tryd.func130, rfl, Nat.le_refl _, rfl, by decide⟩
  · cases h; exact ⟨_, Tryd.func82, rfl, Nat.le_refl _, rfl, by decide⟩
  · cases h; exact ⟨_, Tryd.func156, rfl, Nat.le_refl _, rfl, by decide⟩
  · cases h; exact ⟨_, Tryd.func111, rfl, Nat.le_refl _, rfl, by decide⟩
  · cases h; exact ⟨_, Tryd.func61, rfl, Nat.le_refl _, rfl, by decide⟩
  · cases h; exact ⟨_, Tryd.func20, rfl, Nat.le_refl _, rfl, by decide⟩
  · cases h; exact ⟨_, Tryd.func115, rfl, Nat.le_refl _, rfl, by decide⟩
  · cases h; exact ⟨_, Tryd.func66, rfl, Nat.le_refl _, rfl, by decide⟩
  · cases h; exact ⟨_, Tryd.func69, rfl, Nat.le_refl _, rfl, by decide⟩
  · cases h; exact ⟨_, Tryd.func70, rfl, Nat.le_refl _, rfl, by decide⟩
  · cases h; exact ⟨_, Tryd.func18, rfl, Nat.le_refl _, rfl, by decide⟩
  · cases h; exact ⟨_, Tryd.func158, rfl, Nat.le_refl _, rfl, by decide⟩
  · cases h; exact ⟨_, Tryd.func112, rfl, Nat.le_refl _, rfl, by decide⟩
  · cases h; exact ⟨_, Tryd.func64, rfl, Nat.le_refl _, rfl, by decide⟩
  · cases h; exact ⟨_, Tryd.func114, rfl, Nat.le_refl _, rfl, by decide⟩
  · cases h; exact ⟨_, Tryd.func65, rfl, Nat.le_refl _, rfl, by decide⟩
  · cases h; exact ⟨_, Tryd.func16, rfl, Nat.le_refl _, rfl, by decide⟩
  · cases h; exact ⟨_, Tryd.func22, rfl, Nat.le_refl _, rfl, by decide⟩
  · cases h; exact ⟨_, Tryd.func15, rfl, Nat.le_refl _, rfl, by decide⟩
  · cases h; exact ⟨_, Tryd.func179, rfl, Nat.le_refl _, rfl, by decide⟩
  · cases h; exact ⟨_, Tryd.func147, rfl, Nat.le_refl _, rfl, by decide⟩
  · cases h; exact ⟨_, Tryd.func98, rfl, Nat.le_refl _, rfl, by decide⟩
  · cases h; exact ⟨_, Tryd.func79, rfl, Nat.le_refl _, rfl, by decide⟩
  · cases h; exact ⟨_, Tryd.func144, rfl, Nat.le_refl _, rfl, by decide⟩
  · cases h; exact ⟨_, Tryd.func94, rfl, Nat.le_refl _, rfl, by decide⟩
  · cases h; exact ⟨_, Tryd.func67, rfl, Nat.le_refl _, rfl, by decide⟩
  · cases h; exact ⟨_, Tryd.func21, rfl, Nat.le_refl _, rfl, by decide⟩
  · cases h; exact ⟨_, Tryd.func71, rfl, Nat.le_refl _, rfl, by decide⟩
  · cases h; exact ⟨_, Tryd.func72, rfl, Nat.le_refl _, rfl, by decide⟩
  · cases h; exact ⟨_, Tryd.func19, rfl, Nat.le_refl _, rfl, by decide⟩
  · cases h; exact ⟨_, Tryd.func68, rfl, Nat.le_refl _, rfl, by decide⟩
  · cases h; exact ⟨_, Tryd.func17, rfl, Nat.le_refl _, rfl, by decide⟩
  · cases h; exact ⟨_, Tryd.func4, rfl, Nat.le_refl _, rfl, by decide⟩
  · cases h; exact ⟨_, Tryd.func5, rfl, Nat.le_refl _, rfl, by decide⟩
  · cases h; exact ⟨_, Tryd.func37, rfl, Nat.le_refl _, rfl, by decide⟩
  · cases h; exact ⟨_, Tryd.func96, rfl, Nat.le_refl _, rfl, by decide⟩
  · cases h; exact ⟨_, Tryd.func145, rfl, Nat.le_refl _, rfl, by decide⟩
  · cases h; exact ⟨_, Tryd.func148, rfl, Nat.le_refl _, rfl, by decide⟩
  · cases h; exact ⟨_, Tryd.func228, rfl, Nat.le_refl _, rfl, by decide⟩
  · cases h; exact ⟨_, Tryd.func220, rfl, Nat.le_refl _, rfl, by decide⟩
  · cases h; exact ⟨_, Tryd.func199, rfl, Nat.le_refl _, rfl, by decide⟩
  · cases h; exact ⟨_, Tryd.func178, rfl, Nat.le_refl _, rfl, by decide⟩
  · cases h; exact ⟨_, Tryd.func146, rfl, Nat.le_refl _, rfl, by decide⟩
  · cases h; exact ⟨_, Tryd.func97, rfl, Nat.le_refl _, rfl, by decide⟩
  · cases h; exact ⟨_, Tryd.func39, rfl, Nat.le_refl _, rfl, by decide⟩
  · cases h; exact ⟨_, Tryd.func149, rfl, Nat.le_refl _, rfl, by decide⟩
  · cases h; exact ⟨_, Tryd.func101, rfl, Nat.le_refl _, rfl, by decide⟩
  · cases h; exact ⟨_, Tryd.func100, rfl, Nat.le_refl _, rfl, by decide⟩
  · cases h; exact ⟨_, Tryd.func43, rfl, Nat.le_refl _, rfl, by decide⟩
  · cases h; exact ⟨_, Tryd.func139, rfl, Nat.le_refl _, rfl, by decide⟩
  · cases h; exact ⟨_, Tryd.func137, rfl, Nat.le_refl _, rfl, by decide⟩
  · cases h; exact ⟨_, Tryd.func138, rfl, Nat.le_refl _, rfl, by decide⟩
  · cases h; exact ⟨_, Tryd.func87, rfl, Nat.le_refl _, rfl, by decide⟩
  · cases h; exact ⟨_, Tryd.func88, rfl, Nat.le_refl _, rfl, by decide⟩
  · cases h; exact ⟨_, Tryd.func175, rfl, Nat.le_refl _, rfl, by decide⟩
  · cases h; exact ⟨_, Tryd.func140, rfl, Nat.le_refl _, rfl, by decide⟩
  · cases h; exact ⟨_, Tryd.func89, rfl, Nat.le_refl _, rfl, by decide⟩
  · cases h; exact ⟨_, Tryd.func141, rfl, Nat.le_refl _, rfl, by decide⟩
  · cases h; exact ⟨_, Tryd.func142, rfl, Nat.le_refl _, rfl, by decide⟩
  · cases h; exact ⟨_, Tryd.func90, rfl, Nat.le_refl _, rfl, by decide⟩
  · cases h; exact ⟨_, Tryd.func32, rfl, Nat.le_refl _, rfl, by decide⟩
  · cases h; exact ⟨_, Tryd.func91, rfl, Nat.le_refl _, rfl, by decide⟩
  · cases h; exact ⟨_, Tryd.func34, rfl, Nat.le_refl _, rfl, by decide⟩
  · cases h; exact ⟨_, Tryd.func40, rfl, Nat.le_refl _, rfl, by decide⟩
  · cases h; exact ⟨_, Tryd.func99, rfl, Nat.le_refl _, rfl, by decide⟩
  · cases h; exact ⟨_, Tryd.func41, rfl, Nat.le_refl _, rfl, by decide⟩
  · cases h; exact ⟨_, Tryd.func92, rfl, Nat.le_refl _, rfl, by decide⟩
  · cases h; exact ⟨_, Tryd.func95, rfl, Nat.le_refl _, rfl, by decide⟩
  · cases h; exact ⟨_, Tryd.func176, rfl, Nat.le_refl _, rfl, by decide⟩
  · cases h; exact ⟨_, Tryd.func143, rfl, Nat.le_refl _, rfl, by decide⟩
  · cases h; exact ⟨_, Tryd.func93, rfl, Nat.le_refl _, rfl, by decide⟩
  · cases h; exact ⟨_, Tryd.func35, rfl, Nat.le_refl _, rfl, by decide⟩
  · cases h; exact ⟨_, Tryd.func36, rfl, Nat.le_refl _, rfl, by decide⟩
  · cases h; exact ⟨_, Tryd.func38, rfl, Nat.le_refl _, rfl, by decide⟩
  · cases h; exact ⟨_, Tryd.func7, rfl, Nat.le_refl _, rfl, by decide⟩
  · cases h
theorem sg_ok : ∀ f s, sg f = some s → SgOK W0 f s := by
  intro f s h
  unfold sg at h
  split at h
  · cases h; exact And.intro rfl (And.intro rfl (fun h => absurd rfl h))
  · cases h; exact And.intro rfl (And.intro rfl (fun h => absurd rfl h))
  · cases h; exact And.intro rfl (And.intro rfl (fun h => absurd rfl h))
  · cases h; exact And.intro rfl (And.intro rfl (fun h => absurd rfl h))
  · cases h; exact And.intro rfl (And.intro rfl (fun h => absurd rfl h))
  · cases h; exact And.intro rfl (And.intro rfl (fun h => absurd rfl h))
  · cases h; exact And.intro rfl (And.intro rfl (fun h => absurd rfl h))
  · cases h; exact And.intro rfl (And.intro rfl (fun h => absurd rfl h))
  · cases h; exact And.intro rfl (And.intro rfl (fun h => absurd rfl h))
  · cases h; exact And.intro rfl (And.intro rfl (fun h => absurd rfl h))
  · cases h; exact And.intro rfl (And.intro rfl (fun h => absurd rfl h))
  · cases h; exact And.intro rfl (And.intro rfl (fun h => absurd rfl h))
  · cases h; exact And.intro rfl (And.intro rfl (fun h => absurd rfl h))
  · cases h; exact And.intro rfl (And.intro rfl (fun h => absurd rfl h))
  · cases h; exact And.intro rfl (And.intro rfl (fun h => absurd rfl h))
  · cases h; exact And.intro rfl (And.intro rfl (fun h => absurd rfl h))
  · cases h; exact And.intro rfl (And.intro rfl (fun h => absurd rfl h))
  · cases h; exact And.intro rfl (And.intro rfl (fun h => absurd rfl h))
  · cases h; exact And.intro rfl (And.intro rfl (fun h => absurd rfl h))
  · cases h; exact And.intro rfl (And.intro rfl (fun h => absurd rfl h))
  · cases h; exact And.intro rfl (And.intro rfl (fun h => absurd rfl h))
  · cases h; exact And.intro rfl (And.intro rfl (fun h => absurd rfl h))
  · cases h; exact And.intro rfl (And.intro rfl (fun h => absurd rfl h))
  · cases h; exact And.intro rfl (And.intro rfl (fun h => absurd rfl h))
  · cases h; exact And.intro rfl (And.intro rfl (fun h => absurd rfl h))
  · cases h; exact And.intro rfl (And.intro rfl (fun h => absurd rfl h))
  · cases h; exact And.intro rfl (And.intro rfl (fun h => absurd rfl h))
  · cases h; exact And.intro rfl (And.intro rfl (fun h => absurd rfl h))
  · cases h; exact And.intro rfl (And.intro rfl (fun h => absurd rfl h))
  · cases h; exact And.intro rfl (And.intro rfl (fun h => absurd rfl h))
  · cases h; exact And.intro rfl (And.intro rfl (fun h => absurd rfl h))
  · cases h; exact And.intro rfl (And.intro rfl (fun h => absurd rfl h))
  · cases h; exact And.intro rfl (And.intro rfl (fun h => absurd rfl h))
  · cases h; exact And.intro rfl (And.intro rfl (fun h => absurd rfl h))
  · cases h; exact And.intro rfl (And.intro rfl (fun h => absurd rfl h))
  · cases h; exact And.intro rfl (And.intro rfl (fun h => absurd rfl h))
  · cases h; exact And.intro rfl (And.intro rfl (fun h => absurd rfl h))
  · cases h; exact And.intro rfl (And.intro rfl (fun h => absurd rfl h))
  · cases h; exact And.intro rfl (And.intro rfl (fun h => absurd rfl h))
  · cases h; exact And.intro rfl (And.intro rfl (fun h => absurd rfl h))
  · cases h; exact And.intro rfl (And.intro rfl (fun h => absurd rfl h))
  · cases h; exact And.intro rfl (And.intro rfl (fun h => absurd rfl h))
  · cases h; exact And.intro rfl (And.intro rfl (fun h => absurd rfl h))
  · cases h; exact And.intro rfl (And.intro rfl (fun h => absurd rfl h))
  · cases h; exact And.intro rfl (And.intro rfl (fun h => absurd rfl h))
  · cases h; exact And.intro rfl (And.intro rfl (fun h => absurd rfl h))
  · cases h; exact And.intro rfl (And.intro rfl (fun h => absurd rfl h))
  · cases h; exact And.intro rfl (And.intro rfl (fun h => absurd rfl h))
  · cases h; exact And.intro rfl (And.intro rfl (fun h => absurd rfl h))
  · cases h; exact And.intro rfl (And.intro rfl (fun h => absurd rfl h))
  · cases h; exact And.intro rfl (And.intro rfl (fun h => absurd rfl h))
  · cases h; exact And.intro rfl (And.intro rfl (fun h => absurd rfl h))
  · cases h; exact And.intro rfl (And.intro rfl (fun h => absurd rfl h))
  · cases h; exact And.intro rfl rfl
  · cases h; exact And.intro rfl rfl
  · cases h; exact And.intro rfl (And.intro rfl (fun h => absurd rfl h))
  · cases h; exact And.intro rfl (And.intro rfl (fun h => absurd rfl h))
  · cases h; exact And.intro rfl (And.intro rfl (fun h => absurd rfl h))
  · cases h; exact And.intro rfl rfl
  · cases h; exact And.intro rfl (And.intro rfl (fun h => absurd rfl h))
  · cases h; exact And.intro rfl (And.intro rfl (fun h => absurd rfl h))
  · cases h; exact And.intro rfl rfl
  · cases h; exact And.intro rfl rfl
  · cases h; exact And.intro rfl (And.intro rfl (fun h => absurd rfl h))
  · cases h; exact And.intro rfl rfl
  · cases h; exact And.intro rfl (And.intro rfl (fun h => absurd rfl h))
  · cases h; exact And.intro rfl (And.intro rfl (fun h => absurd rfl h))
  · cases h; exact And.intro rfl (And.intro rfl (fun h => absurd rfl h))
  · cases h; exact And.intro rfl (And.intro rfl (fun h => absurd rfl h))
  · cases h; exact And.intro rfl (And.intro rfl (fun h => absurd rfl h))
  · cases h; exact And.intro rfl (And.intro rfl (fun h => absurd rfl h))
  · cases h; exact And.intro rfl (And.intro rfl (fun h => absurd rfl h))
  · cases h; exact And.intro rfl (And.intro rfl (fun h => absurd rfl h))
  · cases h; exact And.intro rfl (And.intro rfl (fun h => absurd rfl h))
  · cases h; exact And.intro rfl (And.intro rfl (fun h => absurd rfl h))
  · cases h; exact And.intro rfl (And.intro rfl (fun h => absurd rfl h))
  · cases h; exact And.intro rfl (And.intro rfl (fun h => absurd rfl h))
  · cases h; exact And.intro rfl (And.intro rfl (fun h => absurd rfl h))
  · cases h; exact And.intro rfl (And.intro rfl (fun h => absurd rfl h))
  · cases h; exact And.intro rfl (And.intro rfl (fun h => absurd rfl h))
  · cases h; exact And.intro rfl rfl
  · cases h; exact And.intro rfl (And.intro rfl (fun h => absurd rfl h))
  · cases h; exact And.intro rfl rfl
  · cases h; exact And.intro rfl rfl
  · cases h; exact And.intro rfl rfl
  · cases h; exact And.intro rfl (And.intro rfl (fun h => absurd rfl h))
  · cases h; exact And.intro rfl (And.intro rfl (fun h => absurd rfl h))
  · cases h; exact And.intro rfl rfl
  · cases h; exact And.intro rfl (And.intro rfl (fun h => absurd rfl h))
  · cases h; exact And.intro rfl (And.intro rfl (fun h => absurd rfl h))
  · cases h; exact And.intro rfl rfl
  · cases h; exact And.intro rfl (And.intro rfl (fun h => absurd rfl h))
  · cases h; exact And.intro rfl (And.intro rfl (fun h => absurd rfl h))
  · cases h; exact And.intro rfl (And.intro rfl (fun h => absurd rfl h))
  · cases h
theorem w_ok : WdOK W0 EGlob.G := ⟨ti_ok, fns_ok, Ex.ext_ok, by kernel_rfl, fun _ _ h hb => EGlob.G_below h hb, sg_ok⟩
end Go.Proofs.YtokecnkjgoghhaaDoor.Tb
end
section
/- Proved: whatever reads as a datum of a type is a value of the print's kind for that type; for each make of type. No condition. -/
namespace Go.Proofs.YtokecnkjgoghhaaDoor.EOpen
open Go.ChangeShapes Go.Proofs.YtokecnkjgoghhaaDoorW.PrintWords

/-- What reads as a datum of type t is a value of kind d, and Q holds of it. -/
def Opens (P : Program) (t : TypeId) {α : Type} (d : Kd α) (Q : α → Prop) : Prop :=
  ∀ {H : Type} (enc : TypeId × Value → H) (w : World) (base : Nat) (sp : Nat → Bool) (held : Bool) (fuel : Nat) (cs : List Value) (x : DataW H × List MemPlace),
    DataW.trod enc P w base sp held fuel t cs = some x → ∃ a : α, d.K w a cs ∧ Q a

variable {P : Program} {t : TypeId}
theorem opens_int {k : IntKind} (ht : P.underlying t = some (.int k)) : Opens P t (Kd.int k) (fun n => (Lit.int k n).wf = true) := by
  intro H enc w base sp held fuel cs x h
  obtain ⟨n, rfl, _, hw⟩ := DataW.trod_int ht h
  exact ⟨n, rfl, hw⟩
theorem opens_bool (ht : P.underlying t = some .bool) : Opens P t Kd.bool (fun _ => True) := by
  intro H enc w base sp held fuel cs x h
  obtain ⟨b, rfl, _⟩ := DataW.trod_bool ht h
  exact ⟨b, rfl, trivial⟩
theorem opens_string (ht : P.underlying t = some .string) : Opens P t Kd.string (fun s => s.size ≤ maxLen) := by
  intro H enc w base sp held fuel cs x h
  obtain ⟨s, rfl, _, hs⟩ := DataW.trod_string ht h
  exact ⟨s, rfl, hs⟩

theorem mapM_get {β : Type} (f : Nat → Option β) : ∀ (n : Nat) (l : List β), (List.range n).mapM f = some l → l.length = n ∧ ∀ i, i < n → f i = l[i]? := by
  intro n
  induction n with
  | zero =>
    intro l h
    simp at h
    subst h
    exact ⟨rfl, fun i hi => absurd hi (by omega)⟩
  | succ n ih =>
    intro l h
    rw [List.range_succ, List.mapM_append] at h
    obtain ⟨l1, h1, h⟩ := Option.bind_eq_some_iff.1 h
    obtain ⟨l2, h2, h⟩ := Option.bind_eq_some_iff.1 h
    obtain ⟨hl, hg⟩ := ih l1 h1
    obtain ⟨y, hy, h2⟩ := Option.bind_eq_some_iff.1 (by simpa using h2)
    injection h with h
    subst h
    injection h2 with h2
    subst h2
    refine ⟨by simp [hl], fun i hi => ?_⟩
    by_cases hin : i < n
    · rw [hg i hin, List.getElem?_append_left (by omega)]
    · have : i = n := by omega
      subst this
      rw [hy, List.getElem?_append_right (by omega), hl]
      simp
theorem cells_get {w : World} {base : Nat} {a : Addr} {n : Nat} {cs : List Value} (h : w.cells? base a n = some cs) : cs.length = n ∧ ∀ i u, cs[i]? = some u → w.cell? (a.add i) = some u := by
  unfold World.cells? at h
  split at h
  · obtain ⟨hl, hg⟩ := mapM_get _ n cs h
    refine ⟨hl, fun i u hu => ?_⟩
    have hi : i < n := by have := (List.getElem?_eq_some_iff.1 hu).1; omega
    rw [hg i hi, hu]
  · cases h
theorem list_of {α : Type} (p : Nat → α → Prop) : ∀ n : Nat, (∀ i, i < n → ∃ a, p i a) → ∃ l : List α, l.length = n ∧ ∀ i a, l[i]? = some a → p i a := by
  intro n
  induction n with
  | zero => exact fun _ => ⟨[], rfl, fun i a h => by simp at h⟩
  | succ n ih =>
    intro h
    obtain ⟨l, hl, hg⟩ := ih (fun i hi => h i (by omega))
    obtain ⟨a, ha⟩ := h n (by omega)
    refine ⟨l ++ [a], by simp [hl], fun i b hb => ?_⟩
    by_cases hi : i < n
    · rw [List.getElem?_append_left (by omega)] at hb
      exact hg i b hb
    · have hlt := (List.getElem?_eq_some_iff.1 hb).1
      have : i = n := by simp at hlt; omega
      subst this
      rw [List.getElem?_append_right (by omega), hl] at hb
      simp at hb
      subst hb
      exact ha

theorem opens_slice {e : TypeId} {α : Type} {d : Kd α} {Q : α → Prop} (ht : P.underlying t = some (.slice e)) (hc : P.cellsOf e = d.sz) (h : Opens P e d Q) (e' : Nat) :
    Opens P t (Kd.slice e' d) (fun l => ∀ x ∈ l, Q x) := by
  intro H enc w base sp held fuel cs x hx
  rcases DataW.trod_slice ht hx with ⟨rfl, _⟩ | ⟨a, len, cap, elems, rest, n, _, rfl, _, hb, hl, hm, hlen, hel, _, _⟩
  · exact ⟨[], ⟨none, 0, rfl, Nat.le_refl _, Kd.C_nil _ _⟩, fun x hx => by cases hx⟩
  · obtain ⟨l, hll, hg⟩ := list_of (fun i a' => Q a' ∧ ∃ c, w.cells? base (a.add (i * P.cellsOf e)) (P.cellsOf e) = some c ∧ d.K w a' c) len (fun i hi => by
      have h1 := hel i hi
      rw [List.getElem?_eq_getElem (by omega)] at h1
      obtain ⟨c, hc1, hc2⟩ := Option.bind_eq_some_iff.1 h1
      obtain ⟨a', hk, hq⟩ := h enc w base sp held n c _ hc2
      exact ⟨a', hq, c, hc1, hk⟩)
    refine ⟨l, ⟨some a, cap, by rw [hll], by omega, rfl, ?_, fun _ => ⟨a, rfl, fun j p hj => ?_⟩⟩, fun y hy => ?_⟩
    · simp only [maxLen] at hm; omega
    · obtain ⟨_, c, hc1, hk⟩ := hg j p hj
      rw [hc] at hc1
      obtain ⟨hl1, hg1⟩ := cells_get hc1
      exact ⟨c, hl1, hk, fun i u hu => by rw [← add_add]; exact hg1 i u hu⟩
    · obtain ⟨i, hi⟩ := List.getElem?_of_mem hy
      exact (hg i y hi).1

/-- The same, with the bound on its length. -/
theorem opens_slice2 {e : TypeId} {α : Type} {d : Kd α} {Q : α → Prop} (ht : P.underlying t = some (.slice e)) (hc : P.cellsOf e = d.sz) (h : Opens P e d Q) (e' : Nat) :
    Opens P t (Kd.slice e' d) (fun l => l.length ≤ 9223372036854775807 ∧ ∀ x ∈ l, Q x) := by
  intro H enc w base sp held fuel cs x hx
  obtain ⟨l, ⟨A, c, e1, hle, hC⟩, hq⟩ := opens_slice ht hc h e' enc w base sp held fuel cs x hx
  exact ⟨l, ⟨A, c, e1, hle, hC⟩, hC.2.1, hq⟩
/-- A struct's fields, one at a time. -/
theorem struct_get {fs : Array Field} {H : Type} {enc : TypeId × Value → H} {w : World} {base : Nat} {sp : Nat → Bool} {held : Bool} {fuel : Nat} {cs : List Value} {x : DataW H × List MemPlace}
    (ht : P.underlying t = some (.struct fs)) (h : DataW.trod enc P w base sp held fuel t cs = some x) :
    cs.length = P.cellsOf t ∧ ∃ n, ∀ (i : Nat) (f : Field), fs[i]? = some f → ∃ y, DataW.trod enc P w base sp held n f.type ((cs.drop f.offset).take (P.cellsOf f.type)) = some y := by
  obtain ⟨xs, n, _, _, hl, hx, hg⟩ := DataW.trod_struct ht h
  refine ⟨hl, n, fun i f hf => ?_⟩
  have hi : i < xs.length := by have := (Array.getElem?_eq_some_iff.1 hf).1; omega
  rw [hg i f hf, List.getElem?_eq_getElem hi]
  exact ⟨_, rfl⟩
theorem pair_K {α β : Type} {a : Kd α} {b : Kd β} {w : World} {x : α} {y : β} {cs : List Value} (h0 : a.K w x (cs.take a.sz)) (h1 : b.K w y (cs.drop a.sz)) : (Kd.pair a b).K w (x, y) cs :=
  ⟨_, _, (List.take_append_drop _ _).symm, h0, h1⟩
end Go.Proofs.YtokecnkjgoghhaaDoor.EOpen
end
section
/- Proved: whatever reads as a datum of a type stands in memory as the machine's data of that kind; for each make of type. No condition. -/
set_option linter.unusedVariables false
namespace Go.Proofs.YtokecnkjgoghhaaDoor.AbO
open Go Go.ChangeShapes Go.WideShapes Go.Proofs.YtokecnkjgoghhaaDoor.Ab Go.Proofs.YtokecnkjgoghhaaDoor.EOpen Go.Proofs.YtokecnkjgoghhaaDoorW.PrintWords

/-- All that stands. -/
def old (w : World) : Stb := fun b _ => b < w.heap.size

/-- What reads as a datum of type t is data of kind T, and Q holds of it. -/
def Op (P : Program) (t : TypeId) (T : Ty) (Q : T.den → Prop) : Prop :=
  ∀ {H : Type} (enc : TypeId × Value → H) (w : World) (base : Nat) (sp : Nat → Bool) (held : Bool) (fuel : Nat) (cs : List Value) (x : DataW H × List MemPlace),
    DataW.trod enc P w base sp held fuel t cs = some x → ∃ d : T.den, RelT w (old w) T cs d ∧ Q d

variable {P : Program} {t : TypeId}
theorem op_int {k : IntKind} (ht : P.underlying t = some (.int k)) : Op P t (.int k) (fun n => (Lit.int k n).wf = true) := by
  intro H enc w base sp held fuel cs x h
  obtain ⟨n, rfl, _, hw⟩ := DataW.trod_int ht h
  exact ⟨n, rfl, hw⟩
theorem op_bool (ht : P.underlying t = some .bool) : Op P t .bool (fun _ => True) := by
  intro H enc w base sp held fuel cs x h
  obtain ⟨b, rfl, _⟩ := DataW.trod_bool ht h
  exact ⟨b, rfl, trivial⟩
theorem op_string (ht : P.underlying t = some .string) : Op P t .str (fun s => s.size ≤ maxLen) := by
  intro H enc w base sp held fuel cs x h
  obtain ⟨s, rfl, _, hs⟩ := DataW.trod_string ht h
  exact ⟨s, rfl, hs⟩
theorem op_slice {e : TypeId} {T : Ty} {Q : T.den → Prop} (ht : P.underlying t = some (.slice e)) (hc : P.cellsOf e = T.w) (hpos : 0 < T.w) (h : Op P e T Q) :
    Op P t (.sl T) (fun l : List T.den => l.length ≤ maxLen ∧ ∀ x ∈ l, Q x) := by
  intro H enc w base sp held fuel cs x hx
  rcases DataW.trod_slice ht hx with ⟨rfl, _⟩ | ⟨a, len, cap, elems, rest, n, _, rfl, _, hb, hl, hm, hlen, hel, _, _⟩
  · exact ⟨[], ⟨_, rfl, .inl ⟨rfl, rfl⟩⟩, Nat.zero_le _, fun x hx => by cases hx⟩
  · obtain ⟨l, hll, hg⟩ := list_of (α := T.den) (fun i a' => Q a' ∧ ∃ c, w.cells? base (a.add (i * P.cellsOf e)) (P.cellsOf e) = some c ∧ RelT w (old w) T c a') len (fun i hi => by
      have h1 := hel i hi
      rw [List.getElem?_eq_getElem (by omega)] at h1
      obtain ⟨c, hc1, hc2⟩ := Option.bind_eq_some_iff.1 h1
      obtain ⟨a', hk, hq⟩ := h enc w base sp held n c _ hc2
      exact ⟨a', hq, c, hc1, hk⟩)
    obtain ⟨b, o, s⟩ := a
    have hspot : 0 < len → s = none := fun hpl => by
      obtain ⟨_, c, hc1, hk⟩ := hg 0 _ (List.getElem?_eq_getElem (by omega))
      obtain ⟨hl1, hg1⟩ := cells_get hc1
      have := RelT.length T _ _ hk
      have h0 := hg1 0 _ (List.getElem?_eq_getElem (by omega))
      rw [Nat.zero_mul] at h0
      simp only [Addr.add, if_true] at h0
      unfold World.cell? at h0
      split at h0
      · split at h0
        · cases h0
        · rename_i hs; simpa using hs
      · cases h0
    refine ⟨l, ⟨_, rfl, .inr ⟨b, o, s, cap, by rw [hll], by omega, fun i x hi => ?_⟩⟩, by omega, fun y hy => ?_⟩
    · have hi' := (List.getElem?_eq_some_iff.1 hi).1
      obtain rfl := hspot (by omega)
      obtain ⟨_, c, hc1, hk⟩ := hg i x hi
      rw [hc] at hc1
      obtain ⟨hl1, hg1⟩ := cells_get hc1
      refine ⟨rfl, c, hk, fun j v hj => ?_⟩
      have := hg1 j v hj
      rw [add_add, Addr.add_lit, show o + (i * T.w + j) = o + i * T.w + j by omega] at this
      exact ⟨World.block_lt_of_cell? w _ this, this⟩
    · obtain ⟨i, hi⟩ := List.getElem?_of_mem hy
      exact (hg i y hi).1

/-- A struct's kind, from its fields': 'l' are the fields' types and cells in their order. -/
theorem pair_T {w : World} {a b : Ty} {x : a.den} {y : b.den} {cs : List Value} (h0 : RelT w (old w) a (cs.take a.w) x) (h1 : RelT w (old w) b (cs.drop a.w) y) : RelT w (old w) (.pair a b) cs (x, y) :=
  ⟨_, _, (List.take_append_drop _ _).symm, h0, h1⟩

/-- From a parameter's reading to the machine's argument. -/
theorem arg_rel {H : Type} {enc : TypeId × Value → H} {w : World} {base : Nat} {sp : Nat → Bool} {held : Bool} {v : Value} {d : DataW H} {p : List MemPlace} {T : Ty} {Q : T.den → Prop} (hO : Op P t T Q) (hv : if T.agg then v = .agg v.cells else v.cells.toList = [v])
    (h : DataW.Trod enc P w base sp held t v d p) : ∃ x : T.den, RelA w (old w) noQ noBet v (inj T x) ∧ Q x := by
  obtain ⟨fuel, hf⟩ := h
  obtain ⟨x, hx, hq⟩ := hO enc w base sp held fuel _ _ hf
  exact ⟨x, rel_injA hx (by
    cases hT : T.agg with
    | true => rw [hT] at hv; simpa using hv
    | false => rw [hT] at hv; simpa using hv), hq⟩
end Go.Proofs.YtokecnkjgoghhaaDoor.AbO
end
section
/- How the parameters of the laws stand in memory, and that the world in which a law is called holds the tables of unicode/utf8. No condition. -/
set_option linter.unusedVariables false
namespace Go.Proofs.YtokecnkjgoghhaaDoor.SpR
open Go Go.ChangeShapes Go.WideShapes Go.Proofs.YtokecnkjgoghhaaDoor.Ab Go.Proofs.YtokecnkjgoghhaaDoor.AbO Go.Proofs.YtokecnkjgoghhaaDoor.Tb

theorem own : ownKnob Tryd.prog.godebug = none := by kernel_rfl
theorem laidOut : laidOutB Tryd.prog = true := by kernel_rfl
theorem c_int : Tryd.prog.cellsOf 3 = 1 := by kernel_rfl
theorem c_str : Tryd.prog.cellsOf 9 = 1 := by kernel_rfl
theorem c_strs : Tryd.prog.cellsOf 22 = 1 := by kernel_rfl
theorem c_prim : Tryd.prog.cellsOf 24 = 6 := by kernel_rfl

def QT (s : ByteArray) : Prop := s.size ≤ maxLen
def QL (l : List ByteArray) : Prop := l.length ≤ maxLen ∧ ∀ s ∈ l, QT s
def QI (n : Int) : Prop := (Lit.int .i64 n).wf = true
abbrev Prm := Int × ByteArray × ByteArray × Int × List ByteArray × List ByteArray
def QP (p : Prm) : Prop := QI p.1 ∧ QT p.2.1 ∧ QT p.2.2.1 ∧ QI p.2.2.2.1 ∧ QL p.2.2.2.2.1 ∧ QL p.2.2.2.2.2
theorem op_i : AbO.Op Tryd.prog 3 (.int .i64) QI := op_int Tryd.underlying3
theorem op_s : AbO.Op Tryd.prog 9 .str QT := op_string Tryd.underlying9
theorem op_ss : AbO.Op Tryd.prog 22 (.sl .str) QL := op_slice (T := .str) Tryd.underlying22 c_str (by decide) op_s
theorem op_prim : AbO.Op Tryd.prog 24 ty24 QP := by
  intro H enc w base sp held fuel cs x h
  obtain ⟨hl, n, hf⟩ := EOpen.struct_get Tryd.underlying24 h
  rw [c_prim] at hl
  obtain ⟨y0, h0⟩ := hf 0 _ rfl
  obtain ⟨y1, h1⟩ := hf 1 _ rfl
  obtain ⟨y2, h2⟩ := hf 2 _ rfl
  obtain ⟨y3, h3⟩ := hf 3 _ rfl
  obtain ⟨y4, h4⟩ := hf 4 _ rfl
  obtain ⟨y5, h5⟩ := hf 5 _ rfl
  replace h0 : DataW.trod enc Tryd.prog w base sp held n 3 ((cs.drop 0).take (Tryd.prog.cellsOf 3)) = some y0 := h0
  rw [c_int] at h0
  replace h1 : DataW.trod enc Tryd.prog w base sp held n 9 ((cs.drop 1).take (Tryd.prog.cellsOf 9)) = some y1 := h1
  rw [c_str] at h1
  replace h2 : DataW.trod enc Tryd.prog w base sp held n 9 ((cs.drop 2).take (Tryd.prog.cellsOf 9)) = some y2 := h2
  rw [c_str] at h2
  replace h3 : DataW.trod enc Tryd.prog w base sp held n 3 ((cs.drop 3).take (Tryd.prog.cellsOf 3)) = some y3 := h3
  rw [c_int] at h3
  replace h4 : DataW.trod enc Tryd.prog w base sp held n 22 ((cs.drop 4).take (Tryd.prog.cellsOf 22)) = some y4 := h4
  rw [c_strs] at h4
  replace h5 : DataW.trod enc Tryd.prog w base sp held n 22 ((cs.drop 5).take (Tryd.prog.cellsOf 22)) = some y5 := h5
  rw [c_strs] at h5
  rw [List.drop_zero] at h0
  obtain ⟨d0, r0, q0⟩ := op_i enc w base sp held n _ _ h0
  obtain ⟨d1, r1, q1⟩ := op_s enc w base sp held n _ _ h1
  obtain ⟨d2, r2, q2⟩ := op_s enc w base sp held n _ _ h2
  obtain ⟨d3, r3, q3⟩ := op_i enc w base sp held n _ _ h3
  obtain ⟨d4, r4, q4⟩ := op_ss enc w base sp held n _ _ h4
  obtain ⟨d5, r5, q5⟩ := op_ss enc w base sp held n _ _ h5
  refine ⟨(d0, d1, d2, d3, d4, d5), pair_T r0 (pair_T r1 (pair_T ?_ (pair_T ?_ (pair_T ?_ ?_)))), q0, q1, q2, q3, q4, q5⟩
  · simp only [List.drop_drop]; exact r2
  · simp only [List.drop_drop]; exact r3
  · simp only [List.drop_drop]; exact r4
  · simp only [List.drop_drop]
    rw [List.take_of_length_le (by rw [List.length_drop]; omega)] at r5
    exact r5
theorem op_prims : AbO.Op Tryd.prog 26 (.sl ty24) (fun l => l.length ≤ maxLen ∧ ∀ p ∈ l, QP p) := op_slice (T := ty24) Tryd.underlying26 c_prim (by decide) op_prim

theorem x260 : U8Extra Tryd.prog Tryd.lays260_ren := ⟨by kernel_rfl, by kernel_rfl, by kernel_rfl, by kernel_rfl, by kernel_rfl, by kernel_rfl, by kernel_rfl⟩
/-- The world of the call: the tables as their initialisers lay them. -/
theorem G_of {W : World} (hL : laidMetH Tryd.prog [("unicode/utf8.acceptRanges", Rows.laid_unicode_utf8_acceptRanges), ("unicode/utf8.first", Rows.laid_unicode_utf8_first)] W) (hS : W.ShapedOpen Tryd.prog) : EGlob.G W := by
  have h1 : Lib.VarReads Tryd.prog W "unicode/utf8.first" Rows.laid_unicode_utf8_first := Lib.laidMet.reads hL (.tail _ (.head _))
  have h2 : Lib.VarReads Tryd.prog W "unicode/utf8.acceptRanges" Rows.laid_unicode_utf8_acceptRanges := Lib.laidMet.reads hL (.head _)
  have e1 : Rows.laid_unicode_utf8_first = Lib.firstData := by kernel_rfl
  have e2 : Rows.laid_unicode_utf8_acceptRanges (H := Unit) = Lib.acceptData := by kernel_rfl
  rw [e1] at h1
  rw [e2] at h2
  exact ⟨utf8Tabs_of_reads Tryd.lays260 x260 h1 h2, Tryd.laysM146.s1_3 W hS⟩

/-- The witness' world. -/
noncomputable def laidWorld (os : Os) : World :=
  let w0 := World.holding Tryd.prog os ⟨#[], #[], []⟩
  let put (h : Array Obj) (g : Nat) (cs : Array Value) : Array Obj := h.modify g fun
    | .cells _ t frozen => .cells cs t frozen
    | o => o
  let h1 := put w0.heap 0 (Lib.firstTab.map fun z => Value.int .u8 z).toArray
  let h2 := put h1 1 ((List.range 16).flatMap fun i => [Value.int .u8 (Lib.accLo i), Value.int .u8 (Lib.accHi i)]).toArray
  { w0 with heap := h2 }

/-- What a law that answers true gives: its call, whatever stands. -/
theorem call_true {f : FuncId} {xs : List A} {W : World} {args : Array Value} (h : callW W0 f xs = some (injRs [RT.d .bool] true)) (hG : EGlob.G W) (ha : All2 (RelA W (old W) noQ noBet) args.toList xs) (hio : iosOf W0 f = [] := by kernel_rfl) :
    Calls Tryd.prog f args W fun e W' => e = .returned (.bool true) ∧ RowKit.Below W.heap.size W W' := by
  refine (callW_ok w_ok h hio W (old W) noQ args hG (fun b o hb => hb) (fun b o hb => hb.elim) ha).mono ?_
  rintro e w' ⟨cs, obs, St', rfl, hb, _, _, _, hr, _⟩
  match cs, obs, hr with
  | [], [], hr => simp [injRs, RelRVs] at hr
  | [], _ :: _, hr => simp [injRs, RelRVs] at hr
  | _ :: _, [], hr => simp [injRs, RelRVs] at hr
  | [_], _ :: _ :: _, hr => simp [injRs, RelRVs] at hr
  | _ :: _ :: _, _ :: _, hr => simp [injRs, RelRVs] at hr
  | [c], [ob], hr =>
    obtain ⟨⟨_, hc⟩, _⟩ := hr
    have : c = .bool true := hc.1
    rw [this]
    exact ⟨rfl, hb⟩

end Go.Proofs.YtokecnkjgoghhaaDoor.SpR
end
