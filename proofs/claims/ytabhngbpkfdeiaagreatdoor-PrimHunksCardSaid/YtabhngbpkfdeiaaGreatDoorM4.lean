/- slices.Insert of one file into a row of the caller's own: the row's head, the file, the rest. Conditions: lengths as they stand in each statement. The contracts of the library's functions and of the hand-walked ones, in the machine's words. No condition. The tables of this seat for the machine: its types, what its functions take and hand back, what is kept at their loops; and that the tables tell the truth of the program. No condition. Proved: whatever reads as a datum of a type is a value of the print's kind for that type; for each make of type. No condition. Proved: whatever reads as a datum -/
import Derived.Test.YtabhngbpkfdeiaaGreatDoorM3
import Derived.Test.YtabhngbpkfdeiaaGreatDoorM2
import Derived.Test.YtabhngbpkfdeiaaGreatDoorM1
import Derived.Shelf.Spec.SlicesInsert
import Derived.Lib.AppendZerosOnto
import Derived.Lib.Overlaps
import Derived.Test.YtabhngbpkfdeiaaGreatDoorProg
import Derived.ChangeArms
import Derived.ChangeSame
import Derived.ChangeMaps5
import Derived.Deep.Strs
import Derived.Test.YtabhngbpkfdeiaaGreatDoorRows
import Derived.Lib.LaidIn
import Derived.Lib.LaidU8
import Derived.Deep.DeepHandedRow
import Derived.ProofKit
import Derived.OpenShut
import Derived.IntWalk
import Derived.Lib.ValidLaws
import Derived.Lib.RuneCountTail
import Derived.Laws.RangeAny
import Derived.Laws.RangeString
import Derived.Shelf.Strings.Split
import Derived.Shelf.Unicode.Decode
section
/- slices.Insert of one file into a row of the caller's own: the row's head, the file, the rest. Conditions: lengths as they stand in each statement. -/
namespace Go.Proofs.YtabhngbpkfdeiaaGreatDoor.EFi
open Go Go.RowKit Go.Lib Go.Sort Go.Proofs.YtabhngbpkfdeiaaGreatDoor.Ab Go.Proofs.YtabhngbpkfdeiaaGreatDoorW.PrintWords
set_option linter.unusedVariables false
set_option linter.unusedSimpArgs false
/-- 'copy' at records of k cells, into a row. -/
theorem run_copyK {P : Program} (w : World) (dT sT ty elem : TypeId) (k g o dLen dCap : Nat) (a : Addr) (sLen sCap n : Nat) (cur : Array Value) (t : TypeId) (cs : List Value)
    (hu : P.underlying dT = some (.slice elem)) (hs : (P.info? elem).map (·.size) = some k) (hg : w.heap[g]? = some (.cells cur t (0, 0))) (hn : n = Nat.min sLen dLen) (hcs : cs.length = n * k)
    (hsrc : ∀ j v, cs[j]? = some v → w.cell? (a.add j) = some v) (hfit : o + cs.length ≤ cur.size) (h1 : ∀ v ∈ cs, v.oneCell' = true) :
    (Builtin.copy_ #[dT, sT] ty #[.slice (some ⟨g, o, none⟩) dLen dCap, .slice (some a) sLen sCap]).run P w =
      .ok (goInt n) (w.setRow g (cur.toList.take o ++ cs ++ cur.toList.drop (o + cs.length)).toArray) := by
  have hl := run_loadCells_list (P := P) w a cs hsrc
  have hst := run_storeCells_at P g o t cs 0 cur w hg (by simpa using hfit) h1
  rw [hcs] at hl
  cases hq : P.info? elem with
  | none => simp [hq] at hs
  | some i =>
    have hi : i.size = k := by simpa [hq] using hs
    simp [Builtin.copy_, run_underlying hu, Builtin.lenOf, Builtin.firstCells, sizeOf, typeInfo, hq, hi, ← hn, hl, hst]
theorem sizeF : (Tryz.prog.info? 35).map (·.size) = some 3 := by kernel_rfl
theorem sizeOfF (w : World) : (Go.sizeOf 35).run Tryz.prog w = .ok 3 w := by
  cases h : Tryz.prog.info? 35 with
  | none => have := sizeF; rw [h] at this; cases this
  | some i => have := sizeF; rw [h] at this; simp only [Option.map_some, Option.some.injEq] at this; simp [Go.sizeOf, typeInfo, h, this]
/-- What stands in the row behind the inserting. -/
def Ins (cur2 cur : Array Value) (i n : Nat) (v : List Value) : Prop := ∀ q, q < (n + 1) * 3 → cur2[q]? = if q < i * 3 then cur[q]? else if q < i * 3 + 3 then v[q - i * 3]? else cur[q - 3]?
def cells3 (r : R3) : List Value := [.string r.1, .bool r.2.1, sv r.2.2]
theorem cells3_len (r : R3) : (cells3 r).length = 3 := rfl
theorem cells3_one (r : R3) : ∀ v ∈ cells3 r, v.oneCell' = true := by intro v hv; simp [cells3] at hv; rcases hv with rfl | rfl | rfl <;> rfl
set_option maxHeartbeats 8000000 in
set_option maxRecDepth 100000 in
theorem ins_room (w : World) (blk cap n i vb vo vcap : Nat) (cur vcur : Array Value) (ve : TypeId) (r : R3) (hi : i < n) (hroom : n + 1 ≤ cap) (hmx : cap ≤ 9223372036854775807) (hh : w.heap[blk]? = some (.cells cur 35 (0, 0))) (hs : cur.size = cap * 3)
    (hv : w.heap[vb]? = some (.cells vcur ve (0, 0))) (hvb : vb ≠ blk) (hvc : ∀ j v, (cells3 r)[j]? = some v → vcur[vo + j]? = some v) (h1c : ∀ v ∈ cur.toList.take (n * 3), v.oneCell' = true) :
    Calls Tryz.prog 127 #[.slice (some ⟨blk, 0, none⟩) n cap, .int .i64 i, .slice (some ⟨vb, vo, none⟩) 1 vcap] w fun e w' => ∃ cur2, e = .returned (.slice (some ⟨blk, 0, none⟩) (n + 1) cap) ∧ w' = w.drew.setRow blk cur2 ∧ cur2.size = cap * 3 ∧ Ins cur2 cur i n (cells3 r) := by
  have uF := run_underlying Tryz.underlying29
  have mixed : Tryz.prog.follows .mixedOrders = true := by kernel_rfl
  have hov : ∀ lb cb, (callFunc 147 #[.slice (some ⟨vb, vo, none⟩) 1 vcap, .slice (some ⟨blk, (i + 1) * 3, none⟩) lb cb]).run Tryz.prog w = .ok (.value (.bool false)) w := fun lb cb => by
    rw [run_callFunc_extern Tryz.func147 (by kernel_rfl) (by kernel_rfl) (by kernel_rfl) (e := Extern.SlicesOverlaps.overlaps #[29, 29] #[4]) (by kernel_rfl),
      Lib.run_overlaps_apart w 29 4 35 Tryz.underlying29 3 sizeOfF ⟨vb, vo, none⟩ ⟨blk, (i + 1) * 3, none⟩ 1 vcap lb cb hvb ve 35 vcur.size cur.size (by simp [World.shape?, hv]) (by simp [World.shape?, hh]) (by omega) (by simp [World.frozen?, hv]) (by simp [World.frozen?, hv])]
    rfl
  have hz1 : ¬ ((i : Int) = (n : Int)) := by omega
  have hw1 : IntKind.i64.wrap ((i : Int) + 1) = (i : Int) + 1 := by rw [IntKind.wrap_i64]; omega
  have hw2 : IntKind.i64.wrap ((n : Int) + 1) = (n : Int) + 1 := by rw [IntKind.wrap_i64]; omega
  have hb1 : (0 : Int) ≤ (i : Int) + 1 := by omega
  have hin : i ≤ n := by omega
  have htn : ((i : Int) + 1).toNat = i + 1 := by omega
  have htn2 : ((n : Int) + 1).toNat = n + 1 := by omega
  have hb2 : ¬ (cap = i + 1) := by omega
  have hb3 : (i : Int) ≤ (n : Int) + 1 := by omega
  have hb4 : ¬ (cap = i) := by omega
  have hb5 : ¬ ((n : Int) + 1 > (cap : Int)) := by omega
  obtain ⟨cs1, hcs1⟩ : ∃ cs1, cs1 = (cur.toList.drop (i * 3)).take ((n - i) * 3) := ⟨_, rfl⟩
  have hl1 : cs1.length = (n - i) * 3 := by rw [hcs1, List.length_take, List.length_drop, Array.length_toList]; omega
  have hg1 : ∀ j v, cs1[j]? = some v → cur[i * 3 + j]? = some v ∧ j < (n - i) * 3 := fun j v hj => by
    have hjl := (List.getElem?_eq_some_iff.1 hj).1
    rw [hcs1, List.getElem?_take, if_pos (by omega), List.getElem?_drop, Array.getElem?_toList] at hj
    exact ⟨hj, by omega⟩
  have ho1 : ∀ v ∈ cs1, v.oneCell' = true := fun v hv => by
    obtain ⟨j, hj⟩ := List.getElem?_of_mem hv
    obtain ⟨h1, h2⟩ := hg1 j v hj
    refine h1c v (List.mem_of_getElem? (i := i * 3 + j) ?_)
    rw [List.getElem?_take, if_pos (by omega), Array.getElem?_toList]; exact h1
  obtain ⟨cur1, hcur1⟩ : ∃ cur1 : Array Value, cur1 = (cur.toList.take ((i + 1) * 3) ++ cs1 ++ cur.toList.drop ((i + 1) * 3 + cs1.length)).toArray := ⟨_, rfl⟩
  have hs1 : cur1.size = cap * 3 := by rw [hcur1]; simp only [List.size_toArray, List.length_append, List.length_take, List.length_drop, Array.length_toList, hl1]; omega
  have hhd : w.drew.heap[blk]? = some (.cells cur 35 (0, 0)) := hh
  have hcp1 : ∀ ty dc sc, (Builtin.copy_ #[29, 29] ty #[.slice (some ⟨blk, (i + 1) * 3, none⟩) (n - i) dc, .slice (some ⟨blk, i * 3, none⟩) (n + 1 - i) sc]).run Tryz.prog w.drew = .ok (goInt ((n - i : Nat) : Int)) (w.drew.setRow blk cur1) := fun ty dc sc => by
    rw [hcur1]
    exact run_copyK w.drew 29 29 ty 35 3 blk ((i + 1) * 3) (n - i) dc ⟨blk, i * 3, none⟩ (n + 1 - i) sc (n - i) cur 35 cs1 Tryz.underlying29 sizeF hhd (by show _ = min _ _; omega) hl1
      (fun j v hj => by rw [Addr.add_lit, cell_of_row w.drew blk _ cur 35 (0, 0) hhd]; exact (hg1 j v hj).1) (by rw [hl1]; omega) ho1
  have hW1 : (w.drew.setRow blk cur1).heap[blk]? = some (.cells cur1 35 (0, 0)) := setRow_heap _ blk cur cur1 35 (0, 0) hhd
  have hV1 : (w.drew.setRow blk cur1).heap[vb]? = some (.cells vcur ve (0, 0)) := (setRow_other w.drew blk vb cur1 hvb).trans hv
  obtain ⟨cur2, hcur2⟩ : ∃ cur2 : Array Value, cur2 = (cur1.toList.take (i * 3) ++ cells3 r ++ cur1.toList.drop (i * 3 + (cells3 r).length)).toArray := ⟨_, rfl⟩
  have hs2 : cur2.size = cap * 3 := by rw [hcur2]; simp only [List.size_toArray, List.length_append, List.length_take, List.length_drop, Array.length_toList, cells3_len]; omega
  have hcp2 : ∀ ty dc, (Builtin.copy_ #[29, 29] ty #[.slice (some ⟨blk, i * 3, none⟩) (n + 1 - i) dc, .slice (some ⟨vb, vo, none⟩) 1 vcap]).run Tryz.prog (w.drew.setRow blk cur1) = .ok (goInt 1) ((w.drew.setRow blk cur1).setRow blk cur2) := fun ty dc => by
    rw [hcur2]
    exact run_copyK _ 29 29 ty 35 3 blk (i * 3) (n + 1 - i) dc ⟨vb, vo, none⟩ 1 vcap 1 cur1 35 (cells3 r) Tryz.underlying29 sizeF hW1 (by show _ = min _ _; omega) rfl
      (fun j v hj => by rw [Addr.add_lit, cell_of_row _ vb _ vcur ve (0, 0) hV1]; exact hvc j v hj) (by rw [cells3_len]; omega) (cells3_one r)
  have hins : Ins cur2 cur i n (cells3 r) := by
    intro q hq
    have e2 : cur2[q]? = if q < i * 3 then cur1[q]? else if q < i * 3 + 3 then (cells3 r)[q - i * 3]? else cur1[q]? := by
      rw [hcur2, List.getElem?_toArray, List.append_assoc]
      by_cases h1 : q < i * 3
      · rw [if_pos h1, List.getElem?_append_left (by rw [List.length_take, Array.length_toList]; omega), List.getElem?_take, if_pos h1, Array.getElem?_toList]
      · rw [if_neg h1, List.getElem?_append_right (by rw [List.length_take, Array.length_toList]; omega)]
        have e : (cur1.toList.take (i * 3)).length = i * 3 := by rw [List.length_take, Array.length_toList]; omega
        rw [e]
        by_cases h2 : q < i * 3 + 3
        · rw [if_pos h2, List.getElem?_append_left (by rw [cells3_len]; omega)]
        · rw [if_neg h2, List.getElem?_append_right (by rw [cells3_len]; omega), List.getElem?_drop, Array.getElem?_toList]
          congr 1
          rw [cells3_len]; omega
    have e1 : cur1[q]? = if q < (i + 1) * 3 then cur[q]? else cur[q - 3]? := by
      rw [hcur1, List.getElem?_toArray, List.append_assoc]
      by_cases h1 : q < (i + 1) * 3
      · rw [if_pos h1, List.getElem?_append_left (by rw [List.length_take, Array.length_toList]; omega), List.getElem?_take, if_pos h1, Array.getElem?_toList]
      · have e : (cur.toList.take ((i + 1) * 3)).length = (i + 1) * 3 := by rw [List.length_take, Array.length_toList]; omega
        rw [if_neg h1, List.getElem?_append_right (by omega), e, List.getElem?_append_left (by omega), hcs1, List.getElem?_take, if_pos (by omega), List.getElem?_drop, Array.getElem?_toList]
        congr 1
        omega
    rw [e2, e1]
    by_cases h1 : q < i * 3
    · rw [if_pos h1, if_pos h1, if_pos (by omega)]
    · rw [if_neg h1, if_neg h1]
      by_cases h2 : q < i * 3 + 3
      · rw [if_pos h2, if_pos h2]
      · rw [if_neg h2, if_neg h2, if_neg (by omega)]
  clear hcs1 hcur1 hcur2 hg1 ho1
  go_enter Tryz.func127, Tryz.ntmps127
  go_wp2_with (simp only [hov])
  go_region_law_o (refine step_copy_runI rfl _ _ 29 29 rfl _ _ (by simp [Act.eval, Act.put]) (by simp [Act.eval, Act.put]) (hcp1 _ _ _) ?_)
  go_wp2_with (at_builtin; refine wpList_copy_runI _ rfl _ _ 29 29 rfl _ _ rfl rfl (hcp2 _ _) ?_)
  go_ret
  exact ⟨cur2, rfl, setRow_setRow _ _ _ _, hs2, hins⟩
set_option maxHeartbeats 8000000 in
set_option maxRecDepth 100000 in
theorem ins_grow (w : World) (blk cap n i vb vo vcap : Nat) (cur vcur : Array Value) (ve : TypeId) (r : R3) (hi : i < n) (hnc : n ≤ cap) (hroom : cap < n + 1) (hbig : (n + 1) * 48 ≤ 140737488355328) (hh : w.heap[blk]? = some (.cells cur 35 (0, 0))) (hs : cur.size = cap * 3)
    (hv : w.heap[vb]? = some (.cells vcur ve (0, 0))) (hvc : ∀ j v, (cells3 r)[j]? = some v → vcur[vo + j]? = some v) (h1c : ∀ v ∈ cur.toList.take (n * 3), v.oneCell' = true) :
    Calls Tryz.prog 127 #[.slice (some ⟨blk, 0, none⟩) n cap, .int .i64 i, .slice (some ⟨vb, vo, none⟩) 1 vcap] w fun e w' => ∃ G cur2, e = .returned (.slice (some ⟨w.heap.size, 0, none⟩) (n + 1) G) ∧ Below w.heap.size w w' ∧ w'.heap[w.heap.size]? = some (.cells cur2 35 (0, 0)) ∧ cur2.size = G * 3 ∧ n + 1 ≤ G ∧ G ≤ maxLen ∧ Ins cur2 cur i n (cells3 r) := by
  have uF := run_underlying Tryz.underlying29
  have mixed : Tryz.prog.follows .mixedOrders = true := by kernel_rfl
  have hbw : blk < w.heap.size := (Array.getElem?_eq_some_iff.1 hh).1
  have hvw : vb < w.heap.size := (Array.getElem?_eq_some_iff.1 hv).1
  obtain ⟨i0, hi0⟩ : ∃ i0, Tryz.prog.info? 35 = some i0 := by
    cases h : Tryz.prog.info? 35 with
    | none => have := sizeF; rw [h] at this; cases this
    | some i => exact ⟨i, rfl⟩
  have hall : (Tryz.prog.info? 35).map (fun i => (i.size, i.bytes, i.zero)) = some (3, 48, some (.agg #[.string ⟨#[]⟩, .bool false, .slice none 0 0])) := by kernel_rfl
  rw [hi0] at hall
  simp only [Option.map_some, Option.some.injEq, Prod.mk.injEq] at hall
  obtain ⟨hzs, hzb, hz0⟩ := hall
  have hz1 : ¬ ((i : Int) = (n : Int)) := by omega
  have hw1 : IntKind.i64.wrap ((i : Int) + 1) = (i : Int) + 1 := by rw [IntKind.wrap_i64]; omega
  have hw2 : IntKind.i64.wrap ((n : Int) + 1) = (n : Int) + 1 := by rw [IntKind.wrap_i64]; omega
  have hw3 : IntKind.i64.wrap ((n : Int) + 1 - (i : Int)) = (n : Int) + 1 - (i : Int) := by rw [IntKind.wrap_i64]; omega
  have hb1 : (0 : Int) ≤ (i : Int) + 1 := by omega
  have hin : i ≤ n := by omega
  have htn : ((i : Int) + 1).toNat = i + 1 := by omega
  have hb3 : (i : Int) ≤ (n : Int) + 1 := by omega
  have hb5 : ((n : Int) + 1 > (cap : Int)) := by omega
  have hb6 : (cap : Int) < (n : Int) + 1 := by omega
  have hik : i + (n + 1 - i) = n + 1 := by omega
  have hkk : (n : Int) + 1 - (i : Int) = ((n + 1 - i : Nat) : Int) := by omega
  obtain ⟨G, hG⟩ : ∃ G, G = grownCap w (n + 1) cap 35 := ⟨_, rfl⟩
  have hGn : n + 1 ≤ G := by rw [hG]; exact grownCap_ge w _ _ _
  have hGm : G ≤ maxLen := by rw [hG]; exact grownCap_le_maxLen w (n + 1) cap 35 (by unfold maxLen; omega)
  have hG63 : G ≤ 9223372036854775807 := by unfold maxLen at hGm; omega
  have hold : (Builtin.firstCells i0.size i (.slice (some ⟨blk, 0, none⟩) i cap)).run Tryz.prog w.drew = .ok (cur.toList.take (i * 3)).toArray w.drew := by
    rw [hzs]
    exact run_firstCells_some w.drew 3 i ⟨blk, 0, none⟩ i cap (cur.toList.take (i * 3)) (by rw [List.length_take, Array.length_toList]; omega) (fun j v hj => by
      rw [Addr.add_lit, Nat.zero_add, cell_of_row w.drew blk _ cur 35 (0, 0) hh]
      rw [List.getElem?_take] at hj
      split at hj
      · rw [Array.getElem?_toList] at hj; exact hj
      · cases hj)
  obtain ⟨Z, hZ⟩ : ∃ Z : Nat → Array Value, Z = fun k => Builtin.zeroCells (Value.agg #[.string ⟨#[]⟩, .bool false, .slice none 0 0]).cells k := ⟨_, rfl⟩
  have hZs : ∀ k, (Z k).size = k * 3 := fun k => by rw [hZ]; simp [Builtin.zeroCells, Value.cells]
  obtain ⟨ROW, hROW⟩ : ∃ ROW : Array Value, ROW = (cur.toList.take (i * 3)).toArray ++ Z (n + 1 - i) ++ Z (G - (n + 1)) := ⟨_, rfl⟩
  have hRs : ROW.size = G * 3 := by
    rw [hROW]; simp only [Array.size_append, List.size_toArray, List.length_take, Array.length_toList, hZs]; omega
  have hrz : ∀ ty, (Builtin.append_ #[29, 3] ty #[.slice (some ⟨blk, 0, none⟩) i cap, .int .i64 ((n : Int) + 1 - (i : Int))]).run Tryz.prog w = .ok (.slice (some ⟨w.heap.size, 0, none⟩) (n + 1) G) ((w.alloc (.cells ROW 35)).drew) := fun ty => by
    have h := Lib.run_append_grow_zeros w 29 3 ty 35 i0 _ .i64 .i64 Tryz.underlying29 Tryz.underlying3 hi0 hz0 (some ⟨blk, 0, none⟩) i cap (cur.toList.take (i * 3)) hold (n + 1 - i) (by omega) (by omega) (by omega) (by omega) (by rw [hzb]; omega) (by rw [hzb, hik]; exact growslice_fits hroom hbig)
    rw [hik, ← hG] at h
    rw [hkk, hROW, hZ]
    exact h
  have hW1 : ((w.alloc (.cells ROW 35)).drew).heap[w.heap.size]? = some (.cells ROW 35 (0, 0)) := heap_alloc_new w.drew _
  have hV1 : ((w.alloc (.cells ROW 35)).drew).heap[vb]? = some (.cells vcur ve (0, 0)) := (Below.heap_alloc w.drew _ vb hvw).trans hv
  have hB1 : ((w.alloc (.cells ROW 35)).drew).heap[blk]? = some (.cells cur 35 (0, 0)) := (Below.heap_alloc w.drew _ blk hbw).trans hh
  obtain ⟨cur1, hcur1⟩ : ∃ cur1 : Array Value, cur1 = (ROW.toList.take (i * 3) ++ cells3 r ++ ROW.toList.drop (i * 3 + (cells3 r).length)).toArray := ⟨_, rfl⟩
  have hs1 : cur1.size = G * 3 := by rw [hcur1]; simp only [List.size_toArray, List.length_append, List.length_take, List.length_drop, Array.length_toList, cells3_len]; omega
  have hcp1 : ∀ ty dc, (Builtin.copy_ #[29, 29] ty #[.slice (some ⟨w.heap.size, i * 3, none⟩) (n + 1 - i) dc, .slice (some ⟨vb, vo, none⟩) 1 vcap]).run Tryz.prog ((w.alloc (.cells ROW 35)).drew) = .ok (goInt 1) (((w.alloc (.cells ROW 35)).drew).setRow w.heap.size cur1) := fun ty dc => by
    rw [hcur1]
    exact run_copyK _ 29 29 ty 35 3 w.heap.size (i * 3) (n + 1 - i) dc ⟨vb, vo, none⟩ 1 vcap 1 ROW 35 (cells3 r) Tryz.underlying29 sizeF hW1 (by show _ = min _ _; omega) rfl
      (fun j v hj => by rw [Addr.add_lit, cell_of_row _ vb _ vcur ve (0, 0) hV1]; exact hvc j v hj) (by rw [cells3_len]; omega) (cells3_one r)
  obtain ⟨cs1, hcs1⟩ : ∃ cs1, cs1 = (cur.toList.drop (i * 3)).take ((n - i) * 3) := ⟨_, rfl⟩
  have hl1 : cs1.length = (n - i) * 3 := by rw [hcs1, List.length_take, List.length_drop, Array.length_toList]; omega
  have hg1 : ∀ j v, cs1[j]? = some v → cur[i * 3 + j]? = some v ∧ j < (n - i) * 3 := fun j v hj => by
    have hjl := (List.getElem?_eq_some_iff.1 hj).1
    rw [hcs1, List.getElem?_take, if_pos (by omega), List.getElem?_drop, Array.getElem?_toList] at hj
    exact ⟨hj, by omega⟩
  have ho1 : ∀ v ∈ cs1, v.oneCell' = true := fun v hv => by
    obtain ⟨j, hj⟩ := List.getElem?_of_mem hv
    obtain ⟨h1, h2⟩ := hg1 j v hj
    refine h1c v (List.mem_of_getElem? (i := i * 3 + j) ?_)
    rw [List.getElem?_take, if_pos (by omega), Array.getElem?_toList]; exact h1
  have hne : blk ≠ w.heap.size := by omega
  have hW2 : ((((w.alloc (.cells ROW 35)).drew).setRow w.heap.size cur1).drew).heap[w.heap.size]? = some (.cells cur1 35 (0, 0)) := setRow_heap _ _ ROW cur1 35 (0, 0) hW1
  have hB2 : ((((w.alloc (.cells ROW 35)).drew).setRow w.heap.size cur1).drew).heap[blk]? = some (.cells cur 35 (0, 0)) := (setRow_other _ _ blk cur1 hne).trans hB1
  obtain ⟨cur2, hcur2⟩ : ∃ cur2 : Array Value, cur2 = (cur1.toList.take ((i + 1) * 3) ++ cs1 ++ cur1.toList.drop ((i + 1) * 3 + cs1.length)).toArray := ⟨_, rfl⟩
  have hs2 : cur2.size = G * 3 := by rw [hcur2]; simp only [List.size_toArray, List.length_append, List.length_take, List.length_drop, Array.length_toList, hl1]; omega
  have hcp2 : ∀ ty dc sc, (Builtin.copy_ #[29, 29] ty #[.slice (some ⟨w.heap.size, (i + 1) * 3, none⟩) (n - i) dc, .slice (some ⟨blk, i * 3, none⟩) (n - i) sc]).run Tryz.prog ((((w.alloc (.cells ROW 35)).drew).setRow w.heap.size cur1).drew) = .ok (goInt ((n - i : Nat) : Int)) (((((w.alloc (.cells ROW 35)).drew).setRow w.heap.size cur1).drew).setRow w.heap.size cur2) := fun ty dc sc => by
    rw [hcur2]
    exact run_copyK _ 29 29 ty 35 3 w.heap.size ((i + 1) * 3) (n - i) dc ⟨blk, i * 3, none⟩ (n - i) sc (n - i) cur1 35 cs1 Tryz.underlying29 sizeF hW2 (by show _ = min _ _; omega) hl1
      (fun j v hj => by rw [Addr.add_lit, cell_of_row _ blk _ cur 35 (0, 0) hB2]; exact (hg1 j v hj).1) (by rw [hl1]; omega) ho1
  have hins : Ins cur2 cur i n (cells3 r) := by
    intro q hq
    have e2 : cur2[q]? = if q < (i + 1) * 3 then cur1[q]? else cur[q - 3]? := by
      rw [hcur2, List.getElem?_toArray, List.append_assoc]
      by_cases h1 : q < (i + 1) * 3
      · rw [if_pos h1, List.getElem?_append_left (by rw [List.length_take, Array.length_toList]; omega), List.getElem?_take, if_pos h1, Array.getElem?_toList]
      · have e : (cur1.toList.take ((i + 1) * 3)).length = (i + 1) * 3 := by rw [List.length_take, Array.length_toList]; omega
        rw [if_neg h1, List.getElem?_append_right (by omega), e, List.getElem?_append_left (by omega), hcs1, List.getElem?_take, if_pos (by omega), List.getElem?_drop, Array.getElem?_toList]
        congr 1
        omega
    have e1 : q < (i + 1) * 3 → cur1[q]? = if q < i * 3 then cur[q]? else (cells3 r)[q - i * 3]? := fun hq1 => by
      rw [hcur1, List.getElem?_toArray, List.append_assoc]
      by_cases h1 : q < i * 3
      · rw [if_pos h1, List.getElem?_append_left (by rw [List.length_take, Array.length_toList]; omega), List.getElem?_take, if_pos h1, Array.getElem?_toList, hROW, Array.getElem?_append_left (by simp only [Array.size_append, List.size_toArray, List.length_take, Array.length_toList]; omega), Array.getElem?_append_left (by simp only [List.size_toArray, List.length_take, Array.length_toList]; omega), List.getElem?_toArray, List.getElem?_take, if_pos h1, Array.getElem?_toList]
      · have e : (ROW.toList.take (i * 3)).length = i * 3 := by rw [List.length_take, Array.length_toList]; omega
        rw [if_neg h1, List.getElem?_append_right (by omega), e, List.getElem?_append_left (by rw [cells3_len]; omega)]
    rw [e2]
    by_cases h1 : q < i * 3
    · rw [if_pos h1, if_pos (by omega), e1 (by omega), if_pos h1]
    · rw [if_neg h1]
      by_cases h2 : q < i * 3 + 3
      · rw [if_pos h2, if_pos (by omega), e1 (by omega), if_neg h1]
      · rw [if_neg h2, if_neg (by omega)]
  have hbl : Below w.heap.size w (((((w.alloc (.cells ROW 35)).drew).setRow w.heap.size cur1).drew).setRow w.heap.size cur2) := by
    have h := (((((Bel.refl (base0 w.heap.size) w).drew).alloc (Nat.le_refl _) (.cells ROW 35)).setRow (g := w.heap.size) (.inl (Nat.le_refl _)) cur1).drew).setRow (g := w.heap.size) (.inl (Nat.le_refl _)) cur2
    exact h.to
  have hci : ¬ (cap = i) := by omega
  have hGi : ¬ (G = i) := by omega
  have hGi1 : ¬ (G = i + 1) := by omega
  have hfin : (((((w.alloc (.cells ROW 35)).drew).setRow w.heap.size cur1).drew).setRow w.heap.size cur2).heap[w.heap.size]? = some (.cells cur2 35 (0, 0)) := setRow_heap _ _ cur1 cur2 35 (0, 0) hW2
  clear hcs1 hcur1 hcur2 hg1 ho1 hROW hZ hG hold hkk hZs
  go_enter Tryz.func127, Tryz.ntmps127
  go_wp2_with (first
    | (at_builtin; refine Lib.wpList_append_run _ rfl _ _ _ _ rfl _ _ rfl rfl _ _ (hrz _) ?_)
    | (at_builtin; refine wpList_copy_runI _ rfl _ _ 29 29 rfl _ _ rfl rfl (hcp1 _ _) ?_))
  go_region_law_o (refine step_copy_runI rfl _ _ 29 29 rfl _ _ (by simp [Act.eval, Act.put]) (by simp [Act.eval, Act.put]) (hcp2 _ _ _) ?_)
  go_wp2
  go_ret
  exact ⟨G, cur2, rfl, hbl, hfin, hs2, hGn, hGm, hins⟩
set_option maxHeartbeats 8000000 in
set_option maxRecDepth 100000 in
theorem ins_end (w : World) (c0 : Value) (n vb vo vcap : Nat) (h0 : (c0 = .slice none 0 0 ∧ n = 0) ∨ ∃ blk cap, c0 = .slice (some ⟨blk, 0, none⟩) n cap ∧ n ≤ cap) (h63 : n ≤ 9223372036854775806) {v' : Value} {w' : World}
    (hrun : (Builtin.append_ #[29, 29] 29 #[c0, .slice (some ⟨vb, vo, none⟩) 1 vcap]).run Tryz.prog w = .ok v' w') :
    Calls Tryz.prog 127 #[c0, .int .i64 n, .slice (some ⟨vb, vo, none⟩) 1 vcap] w fun e w2 => e = .returned v' ∧ w2 = w' := by
  have uF := run_underlying Tryz.underlying29
  have mixed : Tryz.prog.follows .mixedOrders = true := by kernel_rfl
  rcases h0 with ⟨rfl, rfl⟩ | ⟨blk, cap, rfl, hnc⟩
  · go_enter Tryz.func127, Tryz.ntmps127
    go_wp2_with (at_builtin; refine Lib.wpList_append_run _ rfl _ _ _ _ rfl _ _ rfl rfl _ _ hrun ?_)
    go_ret
    exact ⟨rfl, rfl⟩
  · have hnc' : (n : Int) ≤ (cap : Int) := by omega
    go_enter Tryz.func127, Tryz.ntmps127
    go_wp2_with (at_builtin; refine Lib.wpList_append_run _ rfl _ _ _ _ rfl _ _ rfl rfl _ _ hrun ?_)
    all_goals (go_ret; exact ⟨rfl, rfl⟩)

theorem ins_rel {w : World} {St : Stb} {cur cur2 : Array Value} {xs : List Fl} {f : Fl} {i : Nat} {r : R3} (h : Ins cur2 cur i xs.length (cells3 r)) (hi : i ≤ xs.length) (hrel : RelL w St tyP cur.toList xs) (hf : RelT w St tyP (cells3 r) f) : RelL w St tyP cur2.toList (xs.take i ++ [f] ++ xs.drop i) := by
  have seg : ∀ (a : Array Value) (l : List Value) (t : Nat), l.length = 3 → (∀ q, q < 3 → a[t * 3 + q]? = l[q]?) → (a.toList.drop (t * 3)).take 3 = l := fun a l t hl hq => by
    apply List.ext_getElem?
    intro q
    rw [List.getElem?_take]
    by_cases h3 : q < 3
    · rw [if_pos h3, List.getElem?_drop, Array.getElem?_toList]; exact hq q h3
    · rw [if_neg h3, List.getElem?_eq_none (by omega)]
  have len : ∀ (t : Nat) (x : Fl), xs[t]? = some x → ((cur.toList.drop (t * 3)).take 3).length = 3 := fun t x hx => (hrel t x hx).length
  have get : ∀ (t q : Nat), q < 3 → ((cur.toList.drop (t * 3)).take 3)[q]? = cur[t * 3 + q]? := fun t q hq => by
    rw [List.getElem?_take, if_pos hq, List.getElem?_drop, Array.getElem?_toList]
  intro t x hx
  show RelT w St tyP ((cur2.toList.drop (t * 3)).take 3) x
  have ht : t < xs.length + 1 := by
    have := (List.getElem?_eq_some_iff.1 hx).1
    simp only [List.length_append, List.length_take, List.length_drop, List.length_cons, List.length_nil] at this; omega
  have hl : (xs.take i).length = i := by rw [List.length_take]; omega
  by_cases h1 : t < i
  · rw [List.append_assoc, List.getElem?_append_left (by omega), List.getElem?_take, if_pos h1] at hx
    rw [seg cur2 _ t (len t x hx) (fun q hq => by rw [get t q hq, h _ (by omega), if_pos (by omega)])]
    exact hrel t x hx
  · by_cases h2 : t = i
    · subst h2
      rw [List.append_assoc, List.getElem?_append_right (by omega), hl, Nat.sub_self] at hx
      have hx : f = x := by simpa using hx
      subst hx
      rw [seg cur2 (cells3 r) t rfl (fun q hq => by rw [h _ (by omega), if_neg (by omega), if_pos (by omega)]; congr 1; omega)]
      exact hf
    · have hx' : xs[t - 1]? = some x := by
        rw [List.append_assoc, List.getElem?_append_right (by omega), hl, List.getElem?_append_right (by simp; omega), List.getElem?_drop] at hx
        rw [← hx]; congr 1; simp; omega
      rw [seg cur2 _ t (len (t - 1) x hx') (fun q hq => by rw [get (t - 1) q hq, h _ (by omega), if_neg (by omega), if_neg (by omega)]; congr 1; omega)]
      exact hrel (t - 1) x hx'

def tiF : TI := ⟨.struct [(0, 9), (1, 4), (2, 22)], 3, 48, .agg #[.string ⟨#[]⟩, .bool false, .slice none 0 0], some TbF.ty35⟩
theorem tiF_ok : TIok Tryz.prog 35 tiF := TbF.ti_ok 35 _ rfl

theorem args2f {w : World} {St Q : Stb} {cs : List Value} {x y : A} (h : All2 (RelA w St Q noBet) cs [x, y]) : ∃ c d, cs = [c, d] ∧ RelA w St Q noBet c x ∧ RelA w St Q noBet d y := by
  match cs, h with
  | [c, d], h => exact ⟨c, d, rfl, h.1, h.2.1⟩
theorem ins_ok (xs : List Fl) (i : Int) (f : Fl) (h0 : 0 ≤ i) (hi : i ≤ xs.length) (hbig : (xs.length + 1) * 48 ≤ 140737488355328) :
    CallEat Tryz.prog EGlob.G 127 [.c (.sl tyP xs), .c (.sc (.int .i64 i)), .c (.sl tyP [f])] [.own 35 tyP (xs.take i.toNat ++ [f] ++ xs.drop i.toNat)] := by
  intro e T xs1 ys rest hargs hrvs w St Q ob own c0 cargs hown hG hSt hQ hc0 hfr hc
  cases hargs; cases hrvs
  obtain ⟨ci, cv, rfl, hci, hcv⟩ := args2f hc
  obtain rfl : ci = .int .i64 i := hci.1
  obtain ⟨k, rfl⟩ : ∃ k : Nat, i = (k : Int) := ⟨i.toNat, by omega⟩
  rw [Int.toNat_natCast]
  obtain ⟨cv', hcv', hcvv⟩ := (show RelT w St (.sl tyP) [cv] [f] from hcv)
  cases hcv'
  rcases hcvv with ⟨_, h⟩ | ⟨vb, vo, vs, vcap, rfl, hvle, hvel⟩
  · cases h
  · obtain ⟨rfl, l', hl', hat⟩ := hvel 0 f rfl
    obtain ⟨vcur, ve, hv⟩ := hfr _ (by simp) vb vo none 1 vcap rfl
    have hsrc : Ab.Src w St tyP [f] (.slice (some ⟨vb, vo, none⟩) 1 vcap) := src_of_sl (show RelT w St (.sl tyP) [.slice (some ⟨vb, vo, none⟩) 1 vcap] [f] from hcv)
    obtain ⟨r, rfl⟩ : ∃ r : R3, l' = cells3 r := by
      obtain ⟨l1, l2, rfl, h1, l3, l4, rfl, h2, h3⟩ := hl'
      obtain ⟨c, rfl, h3⟩ := h3
      have h1 : l1 = [.string f.1] := h1
      have h2 : l3 = [.bool f.2.1] := h2
      subst h1; subst h2
      rcases h3 with ⟨rfl, _⟩ | ⟨b, o, s, cap, rfl, _⟩
      · exact ⟨(f.1, f.2.1, none, 0, 0), rfl⟩
      · exact ⟨(f.1, f.2.1, some ⟨b, o, s⟩, f.2.2.length, cap), rfl⟩
    have hStv : St vb (vo + 0 * tyP.w + 0) := (hat 0 _ rfl).1
    have hvc : ∀ j v, (cells3 r)[j]? = some v → vcur[vo + j]? = some v := fun j v hj => by
      have h := (hat j v hj).2
      rw [Nat.zero_mul, Nat.add_zero, cell_of_row w vb _ vcur ve (0, 0) hv] at h
      exact h
    have hpost : ∀ {w' : World} {c : Value} {ob' : Option Nat}, Bel ⟨w.heap.size, own⟩ w w' → (∀ St' : Stb, St' = St → RelRV w' St ⟨w.heap.size, own⟩ c (.own 35 tyP (xs.take k ++ [f] ++ xs.drop k)) ob') →
        ∃ (c2 : Value) (ob2 : Option Nat) (St' : Stb), Ending.returned c = .returned c2 ∧ Bel ⟨w.heap.size, own⟩ w w' ∧ (∀ b o, St b o → St' b o) ∧ (∀ b o, St' b o → St b o ∨ w.heap.size ≤ b) ∧ StOK w' St' ∧ RelRV w' St' ⟨w.heap.size, own⟩ c2 (.own 35 tyP (xs.take k ++ [f] ++ xs.drop k)) ob2 :=
      fun hb h => ⟨_, _, St, rfl, hb, fun _ _ h => h, fun _ _ h => .inl h, fun b o h => Nat.lt_of_lt_of_le (hSt b o h) hb.size, h St rfl⟩
    have hlen : (xs.take k ++ [f] ++ xs.drop k).length = xs.length + 1 := by simp only [List.length_append, List.length_take, List.length_drop, List.length_cons, List.length_nil]; omega
    have hextB : ∀ {w' : World}, Bel ⟨w.heap.size, own⟩ w w' → (∀ b o, St b o → ¬ own b) → Ext w St w' St := fun hb hn b o h => ⟨h, World.cell?_of_block (w := w) (hb.block b (hSt b o h) (hn b o h))⟩
    cases ob with
    | none =>
      obtain ⟨rfl, rfl⟩ := hc0
      obtain rfl : k = 0 := by simpa using hi
      obtain ⟨v', w', hrun, hends⟩ := append_ends (ty := 29) (ie := tiF) (T := tyP) rfl (by decide) (by decide) rfl tiF_ok Tryz.underlying29 hsrc (len := 0) (by show (0 + 1) * 48 ≤ _; omega) (v := .slice none 0 0) (l0 := []) (by simp) (.inl ⟨rfl, rfl⟩)
      refine (ins_end w (.slice none 0 0) 0 vb vo vcap (.inl ⟨rfl, rfl⟩) (by omega) hrun).mono ?_
      rintro e w2 ⟨rfl, rfl⟩
      have hno : ∀ b o, St b o → ¬ own b := fun b o _ ho => by have := (hown b).1 ho; cases this
      rcases hends with ⟨_, _, _, h⟩ | ⟨b, cap, cur, cur', hv', _⟩ | ⟨cap, cur', rfl, rfl, hs', hle, hcm, l1, hl1, hr1, htk⟩
      · cases h
      · cases hv'
      · have hb : Bel ⟨w.heap.size, own⟩ w (w.drew.alloc (.cells cur' 35)) := ((Bel.refl _ w).drew).alloc (Nat.le_refl _) _
        refine hpost (ob' := some w.heap.size) hb (fun St' _ => ⟨cap, cur', by simp, .inl (Nat.le_refl _), heap_alloc_new w.drew _, hs', by simpa using hle, hcm, ?_, fun o ho => by have := hSt _ _ ho; omega⟩)
        have h2 : RelL w St tyP cur'.toList [f] := RelL.of_take (l := l1) (by simpa using htk) hr1
        exact RelL.mono (hextB hb hno) h2
    | some blk =>
      obtain ⟨cap, cur, rfl, hmay, hh, hsz, hx, hmx, hrel, hno⟩ := hc0
      have hsz : cur.size = cap * 3 := hsz
      have hmx63 : cap ≤ 9223372036854775807 := by have h := hmx; unfold Go.maxLen at h; omega
      have hvb : vb ≠ blk := fun e => by subst e; exact hno _ hStv
      have hnoO : ∀ b o, St b o → ¬ own b := fun b o h ho => by
        have := (hown b).1 ho
        cases this
        exact hno _ h
      have h1c : ∀ v ∈ cur.toList.take (xs.length * 3), v.oneCell' = true := by
        refine RelL.one (T := tyP) (xs := xs) (hrel.prefix fun j hj => by rw [List.getElem?_take, if_pos (show j < xs.length * 3 from hj)]) ?_
        rw [List.length_take, Array.length_toList]; show min (xs.length * 3) cur.size = xs.length * 3; omega
      by_cases hkn : k = xs.length
      · subst hkn
        obtain ⟨v', w', hrun, hends⟩ := append_ends (ty := 29) (ie := tiF) (T := tyP) rfl (by decide) (by decide) rfl tiF_ok Tryz.underlying29 hsrc (len := xs.length) (by show (xs.length + 1) * 48 ≤ _; omega) (v := .slice (some ⟨blk, 0, none⟩) xs.length cap) (l0 := cur.toList.take (xs.length * 3)) (by rw [List.length_take, Array.length_toList]; show min (xs.length * 3) cur.size = xs.length * 3; omega) (.inr ⟨blk, cap, cur, rfl, hh, hsz, hx, hmx, rfl⟩)
        refine (ins_end w _ xs.length vb vo vcap (.inr ⟨blk, cap, rfl, hx⟩) (by omega) hrun).mono ?_
        rintro e w2 ⟨rfl, rfl⟩
        have ex : xs.take xs.length ++ [f] ++ xs.drop xs.length = xs ++ [f] := by simp
        rw [ex] at hpost hlen ⊢
        have hjoin : ∀ {w2 : World} (cur' : Array Value) (l1 : List Value), Bel ⟨w.heap.size, own⟩ w w2 → l1.length = [f].length * tyP.w → RelL w St tyP l1 [f] → cur'.toList.take ((xs.length + [f].length) * tyP.w) = cur.toList.take (xs.length * 3) ++ l1 → RelL w2 St tyP cur'.toList (xs ++ [f]) := fun cur' l1 hb hl1 hr1 htk => by
          refine RelL.mono (hextB hb hnoO) (RelL.of_take (l := cur.toList.take (xs.length * 3) ++ l1) (by rw [List.length_append]; exact htk) (RelL.append (by rw [List.length_take, Array.length_toList]; show min (xs.length * 3) cur.size = xs.length * 3; omega) (hrel.prefix fun j hj => by rw [List.getElem?_take, if_pos (show j < xs.length * 3 from hj)]) hr1))
        rcases hends with ⟨_, _, h, _⟩ | ⟨b, cap', cur0, cur', hv', hg', rfl, rfl, hs', hle, hcm, l1, hl1, hr1, htk⟩ | ⟨cap', cur', rfl, rfl, hs', hle, hcm, l1, hl1, hr1, htk⟩
        · cases h
        · cases hv'
          have hb : Bel ⟨w.heap.size, own⟩ w (w.setRow blk cur') := (Bel.refl _ w).setRow hmay _
          exact hpost (ob' := some blk) hb (fun St' _ => ⟨cap, cur', by rw [hlen]; rfl, hmay, setRow_heap w blk _ cur' 35 (0, 0) hg', hs', by rw [hlen]; exact hle, hcm, hjoin cur' l1 hb hl1 hr1 htk, hno⟩)
        · have hb : Bel ⟨w.heap.size, own⟩ w (w.drew.alloc (.cells cur' 35)) := ((Bel.refl _ w).drew).alloc (Nat.le_refl _) _
          exact hpost (ob' := some w.heap.size) hb (fun St' _ => ⟨cap', cur', by rw [hlen]; rfl, .inl (Nat.le_refl _), heap_alloc_new w.drew _, hs', by rw [hlen]; exact hle, hcm, hjoin cur' l1 hb hl1 hr1 htk, fun o ho => by have := hSt _ _ ho; omega⟩)
      · have hlt : k < xs.length := by omega
        have hl'0 : RelT w St tyP (cells3 r) f := hl'
        by_cases hroom : xs.length + 1 ≤ cap
        · refine (ins_room w blk cap xs.length k vb vo vcap cur vcur ve r hlt hroom hmx63 hh hsz hv hvb hvc h1c).mono ?_
          rintro e w2 ⟨cur2, rfl, rfl, hs2, hins⟩
          have hb : Bel ⟨w.heap.size, own⟩ w (w.drew.setRow blk cur2) := ((Bel.refl _ w).drew).setRow hmay _
          refine hpost (ob' := some blk) hb (fun St' _ => ⟨cap, cur2, by rw [hlen], hmay, setRow_heap w.drew blk cur cur2 35 (0, 0) hh, hs2, by rw [hlen]; exact hroom, hmx, ?_, hno⟩)
          exact RelL.mono (hextB hb hnoO) (ins_rel hins (by omega) hrel hl'0)
        · refine (ins_grow w blk cap xs.length k vb vo vcap cur vcur ve r hlt hx (by omega) hbig hh hsz hv hvc h1c).mono ?_
          rintro e w2 ⟨G, cur2, rfl, hbl, hg2, hs2, hGn, hGm, hins⟩
          have hb : Bel ⟨w.heap.size, own⟩ w w2 := ⟨hbl.os, hbl.tape, hbl.output, hbl.size, fun b hb _ => hbl.block b hb⟩
          refine hpost (ob' := some w.heap.size) hb (fun St' _ => ⟨G, cur2, by rw [hlen], .inl (Nat.le_refl _), hg2, hs2, by rw [hlen]; exact hGn, hGm, ?_, fun o ho => by have := hSt _ _ ho; omega⟩)
          exact RelL.mono (hextB hb hnoO) (ins_rel hins (by omega) hrel hl'0)
end Go.Proofs.YtabhngbpkfdeiaaGreatDoor.EFi
end
section
/- The contracts of the library's functions and of the hand-walked ones, in the machine's words. No condition. -/
namespace Go.Proofs.YtabhngbpkfdeiaaGreatDoor.Ex
open Go Go.RowKit Go.Proofs.YtabhngbpkfdeiaaGreatDoor.Ab Go.Proofs.YtabhngbpkfdeiaaGreatDoorW.PrintWords
set_option linter.unusedVariables false

/-- What a contract says behind the call. -/
def Post (w : World) (St : Stb) (rvs : List RV) (e : Ending) (w' : World) : Prop :=
  ∃ (cs : List Value) (obs : List (Option Nat)) (St' : Stb), e = .returned (wrapV cs) ∧ Below w.heap.size w w' ∧ (∀ b o, St b o → St' b o) ∧ (∀ b o, St' b o → St b o ∨ w.heap.size ≤ b) ∧ StOK w' St' ∧
      RelRVs w' St' (base0 w.heap.size) cs rvs obs ∧ (∀ (i j : Nat) (b : Nat), obs[i]? = some (some b) → obs[j]? = some (some b) → i = j)

theorem stok {w w' : World} {St : Stb} (h : StOK w St) (hb : Below w.heap.size w w') : StOK w' St := fun b o hs => Nat.lt_of_lt_of_le (h b o hs) hb.size

theorem post_one {w w' : World} {St : Stb} (hSt : StOK w St) {v : Value} {x : RV} {ob : Option Nat} (hb : Below w.heap.size w w') (h : RelRV w' St (base0 w.heap.size) v x ob) : Post w St [x] (.returned v) w' :=
  ⟨[v], [ob], St, rfl, hb, fun _ _ h => h, fun _ _ h => .inl h, stok hSt hb, ⟨h, trivial⟩, fun i j b hi hj => by
    cases i with
    | zero => cases j with
      | zero => rfl
      | succ j => simp at hj
    | succ i => simp at hi⟩

theorem post_two {w w' : World} {St : Stb} (hSt : StOK w St) {v u : Value} {x y : A} (hb : Below w.heap.size w w') (h : RelA w' St noQ noBet v x) (k : RelA w' St noQ noBet u y) : Post w St [.d x, .d y] (.returned (.tuple #[v, u])) w' :=
  ⟨[v, u], [none, none], St, rfl, hb, fun _ _ h => h, fun _ _ h => .inl h, stok hSt hb, ⟨⟨rfl, h⟩, ⟨rfl, k⟩, trivial⟩, fun i j b hi hj => by
    rcases i with _ | _ | i <;> simp at hi⟩

theorem rv_own {w w' : World} {St : Stb} (hSt : StOK w St) {v : Value} {e : TypeId} {xs : List ByteArray} (h : w'.ownsRow w.heap.size e 1 v xs.length (xs.map Value.string)) : ∃ ob, RelRV w' St (base0 w.heap.size) v (.own e .str xs) ob := by
  rcases h.2 with ⟨rfl, h0⟩ | ⟨g, cap, cur, rfl, hb, hh, hc, hc2, hs, ht⟩
  · exact ⟨none, rfl, List.length_eq_zero_iff.1 h0⟩
  · refine ⟨some g, cap, cur, rfl, .inl hb, hh, hs, hc, hc2, fun i x hi => ?_, fun o ho => absurd (hSt g o ho) (by omega)⟩
    rw [Nat.mul_one] at ht
    have h1 : cur.toList[i]? = some (.string x) := by
      have hl : i < xs.length := (List.getElem?_eq_some_iff.1 hi).1
      have : (cur.toList.take xs.length)[i]? = some (.string x) := by rw [ht, List.getElem?_map, hi]; rfl
      rw [List.getElem?_take_of_lt hl] at this
      exact this
    show ((cur.toList.drop (i * 1)).take 1) = [.string x]
    obtain ⟨hlt, hx⟩ := List.getElem?_eq_some_iff.1 h1
    rw [Nat.mul_one, List.drop_eq_getElem_cons hlt, hx]
    rfl

theorem arg_str {w : World} {St Q : Stb} {c : Value} {s : ByteArray} (h : RelA w St Q noBet c (.c (.sc (.string s)))) : c = .string s := h.1

theorem args1 {w : World} {St Q : Stb} {a : Array Value} {x : A} (h : All2 (RelA w St Q noBet) a.toList [x]) : ∃ c, a = #[c] ∧ RelA w St Q noBet c x := by
  obtain ⟨l⟩ := a
  match l, h with
  | [c], h => exact ⟨c, rfl, h.1⟩

theorem args2 {w : World} {St Q : Stb} {a : Array Value} {x y : A} (h : All2 (RelA w St Q noBet) a.toList [x, y]) : ∃ c d, a = #[c, d] ∧ RelA w St Q noBet c x ∧ RelA w St Q noBet d y := by
  obtain ⟨l⟩ := a
  match l, h with
  | [c, d], h => exact ⟨c, d, rfl, h.1, h.2.1⟩

theorem ok_bool {f : FuncId} {s : ByteArray} {b : Bool} (h : ∀ w, EGlob.G w → Calls Tryz.prog f #[.string s] w fun e w' => e = .returned (.bool b) ∧ Below w.heap.size w w') :
    CallOK Tryz.prog EGlob.G f [.c (.sc (.string s))] [.d (inj .bool b)] := by
  intro w St Q a hG hSt hQ ha
  obtain ⟨c, rfl, hc⟩ := args1 ha
  rw [arg_str hc]
  refine (h w hG).mono ?_
  rintro e w' ⟨rfl, hb⟩
  exact post_one hSt hb (ob := none) ⟨rfl, rfl, rfl⟩

theorem name_ok (s : ByteArray) (hs : s.size ≤ 9223372036854775807) : CallOK Tryz.prog EGlob.G 119 [.c (.sc (.string s))] [.d (inj .bool (EText.rightB s))] :=
  ok_bool fun w _ => EText.name_Right_calls s w hs

theorem line_ok (s : ByteArray) (hs : s.size ≤ 9223372036854775807) : CallOK Tryz.prog EGlob.G 121 [.c (.sc (.string s))] [.d (inj .bool (EText.lineB s))] :=
  ok_bool fun w hG => EText.lines_Right_calls s w hs hG

theorem split_ok (s t : ByteArray) (hs : s.size < 4294967281) (ht : 1 ≤ t.size) : CallOK Tryz.prog EGlob.G 117 [.c (.sc (.string s)), .c (.sc (.string t))] [.own 9 .str (EText.splitL s t)] := by
  intro w St Q a hG hSt hQ ha
  obtain ⟨c, d, rfl, hc, hd⟩ := args2 ha
  rw [arg_str hc, arg_str hd]
  obtain ⟨m, hm⟩ := hG.2
  refine (Tryz.strings_Split s t m w hs hm ht).mono ?_
  rintro e w' ⟨rfl, rfl⟩
  have hle := Lib.countB_le t ht s.size s (Nat.le_refl _)
  have hlen : (EText.splitL s t).length = Lib.countB s t + 1 := Lib.splitB_all t ht 0 _ s rfl
  have hb : Below w.heap.size w (w.alloc (.cells ((Lib.splitB t 0 (Lib.countB s t) s).map Value.string).toArray 9)) := (Below.refl _ w).alloc (Nat.le_refl _) _
  have ho : (w.alloc (.cells ((Lib.splitB t 0 (Lib.countB s t) s).map Value.string).toArray 9)).ownsRow w.heap.size 9 1 (.slice (some ⟨w.heap.size, 0, none⟩) (Lib.countB s t + 1) (Lib.countB s t + 1)) (EText.splitL s t).length ((EText.splitL s t).map Value.string) := by
    have hs2 : ((EText.splitL s t).map Value.string).toArray.size = (Lib.countB s t + 1) * 1 := by simp [hlen]
    refine ⟨by simp, .inr ⟨w.heap.size, Lib.countB s t + 1, _, by rw [hlen], Nat.le_refl _, Go.Proofs.YtabhngbpkfdeiaaGreatDoorW.PrintWords.blk_new _ _, by omega, by unfold maxLen; omega, hs2, ?_⟩⟩
    show List.take _ ((EText.splitL s t).map Value.string) = _
    rw [List.take_of_length_le (by simp)]
  obtain ⟨ob, h⟩ := rv_own hSt ho
  exact post_one hSt hb h

theorem clone_ok (xs : List ByteArray) (hx : xs.length * 16 ≤ 140737488355328) : CallOK Tryz.prog EGlob.G 54 [.c (.sl .str xs)] [.own 9 .str xs] := by
  intro w St Q a hG hSt hQ ha
  obtain ⟨c, rfl, hc⟩ := args1 ha
  obtain ⟨c', hcc, hc⟩ := hc
  cases hcc
  rcases hc with ⟨rfl, h0⟩ | ⟨b, o, s, cap, rfl, hle, hel⟩
  · have h0 : xs = [] := h0
    subst h0
    refine (Tryz.slices_Clone_string_nil 0 0 w).mono ?_
    rintro e w' ⟨rfl, rfl⟩
    exact post_one hSt (Below.refl _ _) (ob := none) ⟨rfl, rfl⟩
  · cases xs with
    | nil =>
      refine (Tryz.slices_Clone_string_zero ⟨b, o, s⟩ cap w).mono ?_
      rintro e w' ⟨v, rfl, ho, _, hb⟩
      obtain ⟨ob, h⟩ := rv_own (xs := []) hSt ho
      exact post_one hSt hb h
    | cons x0 xs0 =>
      obtain rfl := (hel 0 x0 rfl).1
      refine (Tryz.slices_Clone_string b o (x0 :: xs0).length cap (x0 :: xs0) w (Nat.le_refl _) hx (fun j hj => ?_)).mono ?_
      · obtain ⟨_, l', hl', hat⟩ := hel j (x0 :: xs0)[j] (List.getElem?_eq_some_iff.2 ⟨hj, rfl⟩)
        have hl' : l' = [.string (x0 :: xs0)[j]] := hl'
        subst hl'
        have := (hat 0 (.string (x0 :: xs0)[j]) rfl).2
        rw [show Ty.w Ty.str = 1 from rfl, Nat.mul_one, Nat.add_zero] at this
        rw [this, List.getD_eq_getElem?_getD, List.getElem?_eq_some_iff.2 ⟨hj, rfl⟩]
        rfl
      · rintro e w' ⟨v, rfl, ho, _, hb⟩
        rw [List.take_length] at ho
        obtain ⟨ob, h⟩ := rv_own hSt ho
        exact post_one hSt hb h

theorem set_ok (xs : List ByteArray) (hx : xs.length * 16 ≤ 140737488355328) : CallOK Tryz.prog EGlob.G 114 [.c (.sl .str xs)] [.own 9 .str (ESet.setL xs)] := by
  intro w St Q a hG hSt hQ ha
  obtain ⟨c, rfl, hc⟩ := args1 ha
  obtain ⟨c', hcc, hc⟩ := hc
  cases hcc
  have fin : ∀ (A0 : Option Addr) (c0 : Nat), Kd.C Kd.string w A0 xs.length xs → Calls Tryz.prog 114 #[.slice A0 xs.length c0] w fun e w' => Post w St [.own 9 .str (ESet.setL xs)] e w' := by
    intro A0 c0 h
    refine (ESet.set_calls A0 c0 xs w h hx).mono ?_
    rintro e w' ⟨v, rfl, hr, hb⟩
    obtain ⟨ob, h⟩ := rv_own hSt (Kd.own_of_R hr)
    exact post_one hSt hb h
  rcases hc with ⟨rfl, h0⟩ | ⟨b, o, s, cap, rfl, hle, hel⟩
  · have h0 : xs = [] := h0
    subst h0
    exact fin none 0 ⟨rfl, by simp, fun h => absurd h (by simp)⟩
  · refine fin _ cap ⟨rfl, by omega, fun hpos => ⟨_, rfl, fun j p hj => ?_⟩⟩
    obtain ⟨rfl, l', hl', hat⟩ := hel j p hj
    have hl' : l' = [.string p] := hl'
    subst hl'
    refine ⟨[.string p], rfl, rfl, fun i u hu => ?_⟩
    cases i with
    | succ i => simp at hu
    | zero =>
      simp only [List.getElem?_cons_zero, Option.some.injEq] at hu
      subst hu
      have := (hat 0 (.string p) rfl).2
      rw [show Ty.w Ty.str = 1 from rfl] at this
      rw [show Kd.string.sz = 1 from rfl]
      have this : w.cell? ⟨b, o + j, none⟩ = some (.string p) := by simpa using this
      simp only [Addr.add, Nat.mul_one, Nat.add_zero]
      split
      · rename_i h0; subst h0; exact this
      · exact this

theorem decode_ok (s : ByteArray) : CallOK Tryz.prog EGlob.G 81 [.c (.sc (.string s))] [.d (inj (.int .i32) (Lib.decodeGo s).1), .d (inj (.int .i64) (Lib.decodeGo s).2)] := by
  intro w St Q a hG hSt hQ ha
  obtain ⟨c, rfl, hc⟩ := args1 ha
  rw [arg_str hc]
  refine (Tryz.utf8_DecodeRuneInString s w hG.1).mono ?_
  rintro e w' ⟨rfl, hb⟩
  exact post_two hSt hb ⟨rfl, rfl⟩ ⟨rfl, rfl⟩

theorem grow_ok (n : Int) (h0 : 0 ≤ n) (hl : n.toNat * 16 < 140737488355328) : CallOK Tryz.prog EGlob.G 137 [.c .nl, .c (.sc (.int .i64 n))] [.own 9 .str []] := by
  intro w St Q a hG hSt hQ ha
  obtain ⟨c, d, rfl, hc, hd⟩ := args2 ha
  rw [show c = .slice none 0 0 from hc, show d = .int .i64 n from hd.1]
  refine (EGrow.grow_nil n w h0 hl).mono ?_
  rintro e w' ⟨v, rfl, hr, hb⟩
  obtain ⟨ob, h⟩ := rv_own (xs := []) hSt (Kd.own_of_R hr)
  exact post_one hSt hb h

theorem join_ok (xs : List ByteArray) (s : ByteArray) (hl : xs.length ≤ 140737488355328) (hj : (joinT xs s).size ≤ 140737488355328) : CallOK Tryz.prog EGlob.G 146 [.c (.sl .str xs), .c (.sc (.string s))] [.d (inj .str (joinT xs s))] := by
  intro w St Q a hG hSt hQ ha
  obtain ⟨c, d, rfl, hc, hd⟩ := args2 ha
  rw [arg_str hd]
  obtain ⟨c', hcc, hc⟩ := hc
  cases hcc
  rcases hc with ⟨rfl, h0⟩ | ⟨b, o, q, cap, rfl, hle, hel⟩
  · have h0 : xs = [] := h0
    subst h0
    refine (Tryz.strings_Join_none none 0 s w).mono ?_
    rintro e w' ⟨rfl, rfl⟩
    exact post_one hSt (Below.refl _ _) (ob := none) ⟨rfl, rfl, rfl⟩
  · cases xs with
    | nil =>
      refine (Tryz.strings_Join_none (some ⟨b, o, q⟩) cap s w).mono ?_
      rintro e w' ⟨rfl, rfl⟩
      exact post_one hSt (Below.refl _ _) (ob := none) ⟨rfl, rfl, rfl⟩
    | cons x0 xs0 =>
      obtain rfl := (hel 0 x0 rfl).1
      have hcell : ∀ (j : Nat) x, (x0 :: xs0)[j]? = some x → St b (o + j) ∧ w.cell? ⟨b, o + j, none⟩ = some (.string x) := fun j x hj => by
        obtain ⟨_, l', hl', hat⟩ := hel j x hj
        have hl' : l' = [.string x] := hl'
        subst hl'
        have := hat 0 (.string x) rfl
        rw [show Ty.w Ty.str = 1 from rfl, Nat.mul_one, Nat.add_zero] at this
        exact this
      refine (Tryz.strings_Join b o cap (x0 :: xs0) s w (fun j x hj => (hcell j x hj).2) (hSt _ _ (hcell 0 x0 rfl).1) hl hle hj).mono ?_
      rintro e w' ⟨rfl, hb⟩
      exact post_one hSt hb (ob := none) ⟨rfl, rfl, rfl⟩

theorem ext_ok : ∀ f g args rvs, ext f = some g → g args = some rvs → (match eat f with | true => CallEat Tryz.prog EGlob.G f args rvs | false => CallOK Tryz.prog EGlob.G f args rvs) ∧ Enterable Tryz.prog f := by
  intro f g args rvs hf hg
  unfold ext at hf
  split at hf
  · cases hf
    refine ⟨?_, _, Tryz.func119, rfl, by decide⟩
    unfold str1 at hg
    split at hg
    · simp only at hg
      split at hg
      · rename_i h; cases hg; exact name_ok _ h
      · cases hg
    · cases hg
  · cases hf
    refine ⟨?_, _, Tryz.func121, rfl, by decide⟩
    unfold str1 at hg
    split at hg
    · simp only at hg
      split at hg
      · rename_i h; cases hg; exact line_ok _ h
      · cases hg
    · cases hg
  · cases hf
    refine ⟨?_, _, Tryz.func117, rfl, by decide⟩
    unfold str2 at hg
    split at hg
    · simp only at hg
      split at hg
      · rename_i h; cases hg; exact split_ok _ _ h.1 h.2
      · cases hg
    · cases hg
  · cases hf
    refine ⟨?_, _, Tryz.func54, rfl, by decide⟩
    unfold strs1 at hg
    split at hg
    · simp only at hg
      split at hg
      · rename_i h; cases hg; exact clone_ok _ h
      · cases hg
    · cases hg
  · cases hf
    refine ⟨?_, _, Tryz.func81, rfl, by decide⟩
    unfold str1 at hg
    split at hg
    · cases hg; exact decode_ok _
    · cases hg
  · cases hf
    refine ⟨?_, _, Tryz.func137, rfl, by decide⟩
    unfold nilInt at hg
    split at hg
    · simp only at hg
      split at hg
      · rename_i h; cases hg; exact grow_ok _ h.1 h.2
      · cases hg
    · cases hg
  · cases hf
    refine ⟨?_, _, Tryz.func77, rfl, by decide⟩
    unfold prims1 at hg
    split at hg
    · split at hg
      · rename_i T xs hT
        subst hT
        simp only at hg
        split at hg
        · rename_i h; cases hg; exact Cl.clone_ok _ (fun _ _ h hb => EGlob.G_below h hb) _ h
        · cases hg
      · cases hg
    · cases hg
  · cases hf
    refine ⟨?_, _, Tryz.func114, rfl, by decide⟩
    unfold strs1 at hg
    split at hg
    · simp only at hg
      split at hg
      · rename_i h; cases hg; exact set_ok _ h
      · cases hg
    · cases hg
  · cases hf
    refine ⟨?_, _, Tryz.func43, rfl, by decide⟩
    unfold files1 at hg
    split at hg
    · split at hg
      · rename_i T xs hT
        subst hT
        simp only at hg
        split at hg
        · rename_i h; cases hg; exact ClF.clone_ok _ (fun _ _ h hb => EGlob.G_below h hb) _ h
        · cases hg
      · cases hg
    · cases hg
  · cases hf
    refine ⟨?_, _, Tryz.func146, rfl, by decide⟩
    unfold strsStr at hg
    split at hg
    · simp only at hg
      split at hg
      · rename_i h; cases hg; exact join_ok _ _ h.1 h.2
      · cases hg
    · cases hg
  · cases hf
    refine ⟨?_, _, Tryz.func127, rfl, by decide⟩
    unfold filesIns at hg
    split at hg
    · rename_i T xs i U ys
      split at hg
      · rename_i hT
        subst hT
        split at hg
        · rename_i hU
          subst hU
          simp only at hg
          split at hg
          · rename_i h
            cases hg
            obtain ⟨h1, h2, h3, h4⟩ := h
            have h1 : 0 ≤ i := h1
            have h2 : i ≤ xs.length := h2
            obtain ⟨f, rfl⟩ : ∃ f, ys = [f] := List.length_eq_one_iff.1 h3
            exact EFi.ins_ok xs i f h1 h2 (by have h4 : (xs.length + 1) * 48 ≤ 100000000000000 := h4; omega)
          · cases hg
        · cases hg
      · cases hg
    · cases hg
  · cases hf
    refine ⟨?_, _, Tryz.func129, rfl, by decide⟩
    unfold filesDel at hg
    split at hg
    · rename_i T xs f' s'
      split at hg
      · rename_i hT
        obtain ⟨hT, hf'⟩ := hT
        subst hT; subst hf'
        simp only at hg
        split at hg
        · rename_i h; cases hg; exact EFi.del_ok xs s' h
        · cases hg
      · cases hg
    · cases hg
  · cases hf

end Go.Proofs.YtabhngbpkfdeiaaGreatDoor.Ex
end
section
/- The tables of this seat for the machine: its types, what its functions take and hand back, what is kept at their loops; and that the tables tell the truth of the program. No condition. -/
namespace Go.Proofs.YtabhngbpkfdeiaaGreatDoor.Tb
open Go Go.Proofs.YtabhngbpkfdeiaaGreatDoor.Ab
/-- api.File -/
abbrev ty35 : Ty := .pair .str (.pair .bool (.sl .str))
/-- tree.Tree -/
abbrev ty31 : Ty := .pair (.sl ty35) .unit
/-- api.Prim -/
abbrev ty40 : Ty := .pair (.int .i64) (.pair .str (.pair .str (.pair (.int .i64) (.pair (.sl .str) (.sl .str)))))
/-- api.Hunk -/
abbrev ty43 : Ty := .pair (.int .i64) (.pair (.sl .str) (.sl .str))
/-- rafterlaw10.Four -/
abbrev ty66 : Ty := .pair (.sl ty35) (.pair (.sl ty40) (.pair (.sl ty40) (.int .i64)))
/-- rafterref06.Call -/
abbrev ty93 : Ty := .pair (.int .i64) (.pair .str (.pair .str (.sl .str)))
def ti : TypeId → Option TI
  | 3 => some ⟨.int .i64, 1, 8, .int .i64 0, some (.int .i64)⟩
  | 4 => some ⟨.bool, 1, 1, .bool false, some .bool⟩
  | 5 => some ⟨.int .u8, 1, 1, .int .u8 0, some (.int .u8)⟩
  | 9 => some ⟨.string, 1, 16, .string ⟨#[]⟩, some .str⟩
  | 21 => some ⟨.int .i32, 1, 4, .int .i32 0, some (.int .i32)⟩
  | 22 => some ⟨.slice 9, 1, 24, .slice none 0 0, some (.sl .str)⟩
  | 23 => some ⟨.other, 1, 8, .nilFunc, none⟩
  | 26 => some ⟨.int .i64, 1, 8, .int .i64 0, some (.int .i64)⟩
  | 29 => some ⟨.slice 35, 1, 24, .slice none 0 0, some (.sl ty35)⟩
  | 31 => some ⟨.struct [(0, 29)], 1, 24, .agg #[.slice none 0 0], some ty31⟩
  | 35 => some ⟨.struct [(0, 9), (1, 4), (2, 22)], 3, 48, .agg #[.string ⟨#[]⟩, .bool false, .slice none 0 0], some ty35⟩
  | 36 => some ⟨.slice 43, 1, 24, .slice none 0 0, some (.sl ty43)⟩
  | 40 => some ⟨.struct [(0, 3), (1, 9), (2, 9), (3, 3), (4, 22), (5, 22)], 6, 96, .agg #[.int .i64 0, .string ⟨#[]⟩, .string ⟨#[]⟩, .int .i64 0, .slice none 0 0, .slice none 0 0], some ty40⟩
  | 43 => some ⟨.struct [(0, 3), (1, 22), (2, 22)], 3, 56, .agg #[.int .i64 0, .slice none 0 0, .slice none 0 0], some ty43⟩
  | 48 => some ⟨.slice 40, 1, 24, .slice none 0 0, some (.sl ty40)⟩
  | 66 => some ⟨.struct [(0, 29), (1, 48), (2, 48), (3, 3)], 4, 80, .agg #[.slice none 0 0, .slice none 0 0, .slice none 0 0, .int .i64 0], some ty66⟩
  | 72 => some ⟨.other, 1, 8, .nilFunc, none⟩
  | 77 => some ⟨.other, 1, 8, .nilFunc, none⟩
  | 79 => some ⟨.slice 81, 1, 24, .slice none 0 0, some (.sl (.sl (.int .i64)))⟩
  | 81 => some ⟨.slice 3, 1, 24, .slice none 0 0, some (.sl (.int .i64))⟩
  | 93 => some ⟨.struct [(0, 3), (1, 9), (2, 9), (3, 22)], 4, 64, .agg #[.int .i64 0, .string ⟨#[]⟩, .string ⟨#[]⟩, .slice none 0 0], some ty93⟩
  | 97 => some ⟨.other, 1, 8, .nilFunc, none⟩
  | 141 => some ⟨.other, 1, 8, .nilFunc, none⟩
  | 143 => some ⟨.int .u64, 1, 8, .int .u64 0, some (.int .u64)⟩
  | 147 => some ⟨.slice 22, 1, 24, .slice none 0 0, some (.sl (.sl .str))⟩
  | _ => none
def sg : FuncId → Option Sig
  | 3 => some ⟨[some .str, some (.sl .str), some (.sl .str)], [.d .bool], [], false⟩
  | 4 => some ⟨[some (.sl ty35), some (.sl ty40)], [.d .bool], [], false⟩
  | 5 => some ⟨[some (.sl ty35), some ty40, some ty40], [.d .bool], [], false⟩
  | 6 => some ⟨[some (.sl ty35), some (.sl ty40)], [.d .bool], [], false⟩
  | 7 => some ⟨[some ty66], [.d .bool], [], false⟩
  | 8 => some ⟨[some .str], [.d .bool], [], false⟩
  | 9 => some ⟨[some .str], [.own 9 .str], [], false⟩
  | 10 => some ⟨[some (.sl .str)], [.d .bool], [], false⟩
  | 11 => some ⟨[some (.sl .str)], [.d (.int .i64)], [], false⟩
  | 12 => some ⟨[], [.d .bool], [], false⟩
  | 13 => some ⟨[some (.sl ty35)], [.d ty31, .d (.int .i64)], [], false⟩
  | 14 => some ⟨[some (.sl .str), some (.sl .str)], [.own 43 ty43], [], false⟩
  | 15 => some ⟨[some ty31, some ty40], [.d ty31, .d (.int .i64)], [], false⟩
  | 16 => some ⟨[some .str, some ty43], [.d ty40], [], false⟩
  | 17 => some ⟨[some ty31, some .str], [.d ty35, .d .bool], [], false⟩
  | 18 => some ⟨[some (.sl .str), some (.sl .str)], [.d .bool], [], false⟩
  | 19 => some ⟨[some (.sl ty35)], [.d .bool], [], false⟩
  | 20 => some ⟨[some (.sl ty40)], [.d .bool], [], false⟩
  | 21 => some ⟨[some ty31, some (.sl ty40)], [.d ty31, .d (.int .i64)], [], false⟩
  | 22 => some ⟨[some ty31], [.own 35 ty35], [], false⟩
  | 23 => some ⟨[some (.sl ty35), some ty40], [.d (.sl ty35), .d (.int .i64)], [], false⟩
  | 24 => some ⟨[some (.sl ty40)], [.own 40 ty40], [], false⟩
  | 25 => some ⟨[some (.sl ty35), some (.sl ty35)], [.d .bool], [], false⟩
  | 26 => some ⟨[some ty31, some ty31], [.d .bool], [], false⟩
  | 27 => some ⟨[some (.sl ty40), some (.sl ty40)], [.d .bool], [], false⟩
  | 28 => some ⟨[], [.d .bool], [], false⟩
  | 29 => some ⟨[some ty40, some ty40], [.d ty40, .d ty40, .d (.int .i64)], [], false⟩
  | 30 => some ⟨[some (.sl ty40), some (.sl ty40)], [.d .bool], [], false⟩
  | 31 => some ⟨[some (.sl ty40)], [.d .bool], [], false⟩
  | 32 => some ⟨[], [.d .bool], [], false⟩
  | 33 => some ⟨[some (.sl ty40)], [.own 40 ty40], [], false⟩
  | 34 => some ⟨[some ty40, some ty40], [.own 40 ty40, .d .bool], [], false⟩
  | 35 => some ⟨[], [.d .bool], [], false⟩
  | 36 => some ⟨[some (.sl ty40), some (.sl ty40)], [.d (.sl ty40), .own 40 ty40, .d (.int .i64)], [], false⟩
  | 37 => some ⟨[some (.sl ty40), some (.int .i64)], [.d (.sl ty40), .d (.int .i64)], [], false⟩
  | 38 => some ⟨[some .str], [.d .bool], [], false⟩
  | 39 => some ⟨[some .str], [.d .bool], [], false⟩
  | 40 => some ⟨[some ty40, some ty40], [.d .bool], [], false⟩
  | 41 => some ⟨[some ty40], [.d ty40], [], false⟩
  | 42 => some ⟨[some ty40], [.d (.int .i64)], [], false⟩
  | 43 => some ⟨[some (.sl ty35)], [.own 35 ty35], [], false⟩
  | 44 => some ⟨[none, none], [], [(0, 35, .pair .unit (.sl ty35))], false⟩
  | 45 => some ⟨[some ty35, some ty35], [.d (.int .i64)], [], false⟩
  | 46 => some ⟨[some ty31, some ty35], [.d ty31, .d (.int .i64)], [], false⟩
  | 47 => some ⟨[some (.sl .str), some (.sl .str)], [.own 43 ty43], [], false⟩
  | 48 => some ⟨[some (.sl .str), some (.sl .str)], [.own 81 (.sl (.int .i64))], [], false⟩
  | 49 => some ⟨[some ty31, some .str], [.d ty31, .d (.int .i64)], [], false⟩
  | 50 => some ⟨[some ty31, some .str, some .bool], [.d ty31, .d (.int .i64)], [], false⟩
  | 51 => some ⟨[some ty31, some .str, some .str], [.d ty31, .d (.int .i64)], [], false⟩
  | 52 => some ⟨[some ty31, some ty40], [.d ty31, .d (.int .i64)], [], false⟩
  | 53 => some ⟨[some ty31, some .str, some (.sl .str)], [.d ty31, .d (.int .i64)], [], false⟩
  | 54 => some ⟨[some (.sl .str)], [.own 9 .str], [], false⟩
  | 55 => some ⟨[some ty31, some .str], [.d (.int .i64), .d .bool], [], false⟩
  | 56 => some ⟨[some ty35], [.d ty35], [], false⟩
  | 57 => some ⟨[some ty40], [.d (.int .i64)], [], false⟩
  | 58 => some ⟨[some (.sl ty35), some .str], [.d (.int .i64)], [], false⟩
  | 59 => some ⟨[some (.sl ty35), some ty93], [.d (.sl ty35), .d (.int .i64)], [], false⟩
  | 60 => some ⟨[some (.sl .str), some (.sl ty43)], [.own 9 .str, .d .bool], [], false⟩
  | 61 => some ⟨[some (.sl ty35), some (.sl ty35), none], [.d .bool], [], false⟩
  | 62 => some ⟨[some ty35, some ty35], [.d .bool], [], false⟩
  | 63 => some ⟨[some (.sl .str), some (.sl .str)], [.d .bool], [], false⟩
  | 64 => some ⟨[some (.sl ty40), some (.sl ty40), none], [.d .bool], [], false⟩
  | 65 => some ⟨[some ty40, some ty40], [.d .bool], [], false⟩
  | 66 => some ⟨[some ty40, some ty40], [.d .bool], [], false⟩
  | 67 => some ⟨[some ty40], [.own 9 .str], [], false⟩
  | 68 => some ⟨[some ty40, some ty40], [.d ty40, .d ty40, .d .bool], [], false⟩
  | 69 => some ⟨[some ty40], [.d ty40], [], false⟩
  | 70 => some ⟨[some ty40, some ty40], [.d ty40, .d .bool], [], false⟩
  | 71 => some ⟨[some ty40, some ty40], [.d .bool], [], false⟩
  | 72 => some ⟨[some ty40, some ty40], [.own 40 ty40, .d .bool], [], false⟩
  | 73 => some ⟨[some ty40], [.d ty40], [], false⟩
  | 74 => some ⟨[some ty40, some ty40], [.d ty40, .d .bool], [], false⟩
  | 75 => some ⟨[some (.sl ty40), some (.int .i64)], [.d (.sl (.int .i64))], [], false⟩
  | 76 => some ⟨[some (.sl ty40)], [.own 9 .str], [], false⟩
  | 77 => some ⟨[some (.sl ty40)], [.own 40 ty40], [], false⟩
  | 78 => some ⟨[some ty40, some (.sl ty40)], [.own 40 ty40, .d ty40, .d (.int .i64)], [], false⟩
  | 79 => some ⟨[some (.sl ty40), some (.int .i64)], [.own 40 ty40, .d (.int .i64)], [], false⟩
  | 80 => some ⟨[some (.int .u8)], [.d .bool], [], false⟩
  | 81 => some ⟨[some .str], [.d (.int .i32), .d (.int .i64)], [], false⟩
  | 82 => some ⟨[some (.int .i64)], [.d (.int .i64)], [], false⟩
  | 83 => some ⟨[some .str], [.d .bool], [], false⟩
  | 84 => some ⟨[some (.sl .str)], [.d (.int .i64)], [], false⟩
  | 85 => some ⟨[none, some (.int .i64), none], [], [(0, 35, .pair .unit (.sl ty35))], false⟩
  | 86 => some ⟨[some .str, some .str], [.d .bool], [], false⟩
  | 87 => some ⟨[some ty31, some .str], [.d .bool], [], false⟩
  | 88 => some ⟨[some .str], [.d .str], [], false⟩
  | 89 => some ⟨[some ty31, some ty35], [.d ty31], [], false⟩
  | 90 => some ⟨[some (.sl .str)], [.d (.sl .str)], [], false⟩
  | 91 => some ⟨[some (.int .i64), some (.int .i64)], [.d (.int .i64)], [], false⟩
  | 92 => some ⟨[some ty31, some .str], [.d (.int .i64)], [], false⟩
  | 93 => some ⟨[some ty31, some .str], [.d ty31, .d (.int .i64)], [], false⟩
  | 94 => some ⟨[some ty31, some .str], [.d ty31], [], false⟩
  | 95 => some ⟨[some (.sl .str), some (.sl ty43)], [.own 9 .str, .d (.int .i64)], [], false⟩
  | 96 => some ⟨[some (.sl ty35), some ty35, none], [.d (.int .i64), .d .bool], [], false⟩
  | 97 => some ⟨[some (.sl ty35), some .str], [.d .bool], [], false⟩
  | 98 => some ⟨[some .str], [.d .str], [], false⟩
  | 99 => some ⟨[some (.sl ty35), some ty35], [.own 35 ty35], [], false⟩
  | 100 => some ⟨[some (.sl ty35), some .str], [.own 35 ty35], [], false⟩
  | 101 => some ⟨[some (.sl .str), some (.sl .str), some (.int .i64)], [.d .bool], [], false⟩
  | 102 => some ⟨[some (.sl .str), some (.sl .str)], [.d .bool], [], false⟩
  | 103 => some ⟨[some .str, none, none], [.d .bool], [], false⟩
  | 104 => some ⟨[some (.sl .str), some .str], [.d .bool], [], false⟩
  | 105 => some ⟨[some ty40, some .str], [.d .bool], [], false⟩
  | 106 => some ⟨[some (.sl .str), none], [.d .bool], [], false⟩
  | 107 => some ⟨[some .str, none], [.d .bool], [], false⟩
  | 108 => some ⟨[some (.int .i64), some (.int .i64), none], [.d (.sl .str)], [], false⟩
  | 109 => some ⟨[some (.sl (.sl .str))], [.own 9 .str], [], false⟩
  | 110 => some ⟨[some ty40, some ty40], [.d .bool], [], false⟩
  | 111 => some ⟨[some ty40, some ty40], [.d .bool], [], false⟩
  | 112 => some ⟨[some (.int .i64), some (.int .i64)], [.d (.int .i64)], [], false⟩
  | 113 => some ⟨[some (.int .i64), none, none, none], [], [(1, 81, (.sl (.int .i64))), (3, 48, (.sl ty40))], false⟩
  | 114 => some ⟨[some (.sl .str)], [.own 9 .str], [], false⟩
  | 116 => some ⟨[some (.int .i64), some (.int .i64), none], [.d (.int .i64)], [], false⟩
  | 117 => some ⟨[some .str, some .str], [.own 9 .str], [], false⟩
  | 118 => some ⟨[some .str], [.d .bool], [], false⟩
  | 119 => some ⟨[some .str], [.d .bool], [], false⟩
  | 120 => some ⟨[some .str], [.d .bool], [], false⟩
  | 121 => some ⟨[some .str], [.d .bool], [], false⟩
  | 122 => some ⟨[none, some (.int .i64), some (.int .i64), none], [], [(0, 35, .pair .unit (.sl ty35))], false⟩
  | 123 => some ⟨[none, some (.int .i64), some (.int .i64), some (.int .i64), none], [], [(0, 35, .pair .unit (.sl ty35))], false⟩
  | 124 => some ⟨[some .str], [.own 9 .str], [], false⟩
  | 125 => some ⟨[some (.sl .str), some (.sl .str)], [.d (.int .i64)], [], false⟩
  | 126 => some ⟨[some (.sl .str)], [.d .str], [], false⟩
  | 127 => some ⟨[some (.sl ty35), some (.int .i64), some (.sl ty35)], [.own 35 ty35], [], true⟩
  | 128 => some ⟨[some ty31, some .str], [.own 9 .str], [], false⟩
  | 129 => some ⟨[some (.sl ty35), none], [.own 35 ty35], [], true⟩
  | 130 => some ⟨[some ty35, none], [.d .bool], [], false⟩
  | 131 => some ⟨[some (.sl ty43)], [.d (.int .i64)], [], false⟩
  | 132 => some ⟨[some (.sl .str)], [.d .str], [], false⟩
  | 133 => some ⟨[some (.sl ty35)], [.own 35 ty35], [], false⟩
  | 134 => some ⟨[some (.sl .str), some .str], [.d (.int .i64)], [], false⟩
  | 135 => some ⟨[some .str, some .str], [.d .bool], [], false⟩
  | 136 => some ⟨[some (.sl .str), none], [.d (.int .i64)], [], false⟩
  | 137 => some ⟨[none, some (.int .i64)], [.own 9 .str], [], false⟩
  | 144 => some ⟨[none, some (.int .i64), some (.int .i64), some (.int .i64), none], [], [(0, 35, .pair .unit (.sl ty35))], false⟩
  | 145 => some ⟨[some .str, some .str], [.d (.int .i64)], [], false⟩
  | 146 => some ⟨[some (.sl .str), some .str], [.d .str], [], false⟩
  | 149 => some ⟨[some .str, none], [.d .bool], [], false⟩
  | 151 => some ⟨[some .str, some .str], [.d .bool], [], false⟩
  | 152 => some ⟨[some .str, some .str], [.d .bool], [], false⟩
  | 160 => some ⟨[none, some (.int .i64), some (.int .i64), some (.int .i64), none], [], [(0, 35, .pair .unit (.sl ty35))], false⟩
  | 161 => some ⟨[some .str], [.d .bool], [], false⟩
  | 166 => some ⟨[some .str, some .str], [.d .bool], [], false⟩
  | _ => none
noncomputable def code (f : Func) : Code := match f.body with | some c => c | none => .skip
/-- rafter/rafterref02.letter -/
def n80 : Note := ⟨16, [.tmp 2], [.d .bool], [(3, [(0, .any), (3, .any), (4, .any)])], [], [], 0⟩
/-- rafter/rafterref02.Right -/
def n38 : Note := ⟨31, [.tmp 2], [.d .bool], [(2, [(0, .any), (3, .any)])], [], [], 0⟩
/-- rafter/rafterref05.Names -/
def n9 : Note := ⟨44, [.tmp 2], [.own 9 .str], [(6, [(0, .any), (3, .own 9 .str), (4, .any), (5, .any)])], [], [], 0⟩
/-- rafter/rafterref05.Right -/
def n8 : Note := ⟨7, [.tmp 2], [.d .bool], [], [], [], 0⟩
/-- rafter/rafterlaw03.Light -/
def n10 : Note := ⟨19, [.tmp 2], [.d .bool], [(2, [(0, .any), (3, .any)])], [], [], 0⟩
/-- rafter/rafterref03.Right -/
def n39 : Note := ⟨37, [.tmp 2], [.d .bool], [(4, [(0, .any), (3, .any)])], [], [], 0⟩
/-- rafter/rafterref03.Check -/
def n11 : Note := ⟨19, [.tmp 2], [.d (.int .i64)], [(4, [(0, .any), (3, .any)])], [], [], 0⟩
/-- slices.IndexFunc[[]string,string] -/
def n136 : Note := ⟨19, [.tmp 4], [.d (.int .i64)], [(2, [(0, .any), (1, .any), (7, .any), (8, .any)])], [], [], 0⟩
/-- slices.ContainsFunc[[]string,string] -/
def n106 : Note := ⟨9, [.tmp 4], [.d .bool], [], [], [], 0⟩
/-- rafter/path.Right$1 -/
def n118 : Note := ⟨6, [.tmp 2], [.d .bool], [], [], [], 0⟩
/-- rafter/path.Right -/
def n83 : Note := ⟨21, [.tmp 2], [.d .bool], [], [], [], 0⟩
/-- rafter/path.Split -/
def n124 : Note := ⟨8, [.tmp 2], [.own 9 .str], [], [], [], 0⟩
/-- cmp.isNaN[string] -/
def n161 : Note := ⟨6, [.tmp 2], [.d .bool], [], [], [], 0⟩
/-- cmp.Compare[string] -/
def n145 : Note := ⟨20, [.tmp 4], [.d (.int .i64)], [], [], [], 0⟩
/-- slices.Compare[[]string,string] -/
def n125 : Note := ⟨36, [.tmp 4], [.d (.int .i64)], [(2, [(0, .any), (1, .any), (9, .any), (10, .any), (11, .any)])], [], [], 0⟩
/-- rafter/path.Less -/
def n86 : Note := ⟨26, [.tmp 4], [.d .bool], [], [], [], 0⟩
/-- rafter/tree.order -/
def n45 : Note := ⟨17, [.tmp 4], [.d (.int .i64)], [], [], [], 0⟩
/-- slices.BinarySearchFunc[[]rafter/api.File,rafter/api.File,rafter/api.File] -/
def n96 : Note := ⟨49, [.tmp 6, .tmp 7], [.d (.int .i64), .d .bool], [(3, [(0, .any), (2, .any), (4, .any), (8, .any), (9, .any), (10, .any)])], [], [], 0⟩
/-- (rafter/tree.Tree).place -/
def n55 : Note := ⟨13, [.tmp 4, .tmp 5], [.d (.int .i64), .d .bool], [], [], [], 0⟩
/-- rafter/tree.own -/
def n56 : Note := ⟨8, [.cell 2 35], [.d ty35], [], [], [], 0⟩
/-- (rafter/tree.Tree).Get -/
def n17 : Note := ⟨23, [.cell 4 35, .tmp 5], [.d ty35, .d .bool], [], [], [], 0⟩
/-- rafter/lines.Check$1 -/
def n120 : Note := ⟨6, [.tmp 2], [.d .bool], [], [], [], 0⟩
/-- rafter/lines.Check -/
def n84 : Note := ⟨8, [.tmp 2], [.d (.int .i64)], [], [], [], 0⟩
/-- rafter/prim.Check -/
def n42 : Note := ⟨99, [.tmp 2], [.d (.int .i64)], [], [], [], 0⟩
/-- (rafter/tree.Tree).with -/
def n89 : Note := ⟨33, [.cell 4 31], [.d ty31], [], [], [], 0⟩
/-- (rafter/tree.Tree).dir -/
def n87 : Note := ⟨22, [.tmp 4], [.d .bool], [], [], [], 0⟩
/-- rafter/path.Join -/
def n126 : Note := ⟨15, [.tmp 2], [.d .str], [], [], [], 0⟩
/-- rafter/path.Dir -/
def n88 : Note := ⟨13, [.tmp 2], [.d .str], [], [], [], 0⟩
/-- (rafter/tree.Tree).room -/
def n92 : Note := ⟨16, [.tmp 4], [.d (.int .i64)], [], [], [], 0⟩
/-- (rafter/tree.Tree).Mkdir -/
def n49 : Note := ⟨32, [.cell 4 31, .tmp 5], [.d ty31, .d (.int .i64)], [], [], [], 0⟩
/-- (rafter/tree.Tree).without$1 -/
def n130 : Note := ⟨8, [.tmp 3], [.d .bool], [], [], [], 0⟩
/-- (rafter/tree.Tree).without -/
def n94 : Note := ⟨11, [.cell 4 31], [.d ty31], [], [], [], 0⟩
/-- (rafter/tree.Tree).In$1 -/
def n149 : Note := ⟨8, [.tmp 3], [.d .bool], [], [], [], 0⟩
/-- (rafter/tree.Tree).In -/
def n128 : Note := ⟨28, [.tmp 4], [.own 9 .str], [(4, [(5, .own 9 .str), (6, .any), (11, .any), (12, .any), (13, .any)])], [], [], 0⟩
/-- (rafter/tree.Tree).Remove -/
def n93 : Note := ⟨36, [.cell 4 31, .tmp 5], [.d ty31, .d (.int .i64)], [], [], [], 0⟩
/-- rafter/prim.gone -/
def n50 : Note := ⟨37, [.cell 6 31, .tmp 7], [.d ty31, .d (.int .i64)], [], [], [], 0⟩
/-- (rafter/tree.Tree).Move -/
def n51 : Note := ⟨58, [.cell 6 31, .tmp 7], [.d ty31, .d (.int .i64)], [], [], [], 0⟩
/-- (rafter/tree.Tree).Write -/
def n53 : Note := ⟨47, [.cell 6 31, .tmp 7], [.d ty31, .d (.int .i64)], [], [], [], 0⟩
/-- slices.Equal[[]string,string] -/
def n102 : Note := ⟨26, [.tmp 4], [.d .bool], [(4, [(0, .any), (1, .any), (12, .any), (13, .any)])], [], [], 0⟩
/-- rafter/lines.Same -/
def n63 : Note := ⟨8, [.tmp 4], [.d .bool], [], [], [], 0⟩
/-- rafter/diff.Check -/
def n131 : Note := ⟨49, [.tmp 2], [.d (.int .i64)], [(2, [(0, .any), (5, .any), (6, .any), (7, .any)])], [], [], 0⟩
/-- rafter/diff.Apply -/
def n95 : Note := ⟨76, [.tmp 4, .tmp 5], [.own 9 .str, .d (.int .i64)], [(7, [(0, .any), (7, .own 9 .str), (8, .any), (16, .any), (17, .any), (18, .any)])], [], [], 0⟩
/-- rafter/prim.hunk -/
def n52 : Note := ⟨50, [.cell 4 31, .tmp 5], [.d ty31, .d (.int .i64)], [], [], [], 0⟩
/-- rafter/prim.Apply -/
def n15 : Note := ⟨69, [.cell 4 31, .tmp 5], [.d ty31, .d (.int .i64)], [], [], [], 0⟩
/-- rafter/prim.All -/
def n21 : Note := ⟨29, [.cell 4 31, .tmp 5], [.d ty31, .d (.int .i64)], [(2, [(2, .any), (4, .any), (10, .any), (11, .any), (12, .any)])], [], [], 0⟩
/-- (rafter/tree.Tree).All -/
def n22 : Note := ⟨20, [.tmp 2], [.own 35 ty35], [(3, [(3, .own 35 ty35), (7, .any), (8, .any), (9, .any)])], [], [], 0⟩
/-- rafter/prim.other$1 -/
def n116 : Note := ⟨11, [.tmp 5], [.d (.int .i64)], [], [], [], 0⟩
/-- rafter/prim.other -/
def n82 : Note := ⟨17, [.tmp 2], [.d (.int .i64)], [], [], [], 0⟩
/-- rafter/prim.Invert -/
def n41 : Note := ⟨30, [.cell 2 40], [.d ty40], [], [], [], 0⟩
/-- rafter/prim.Back -/
def n24 : Note := ⟨21, [.tmp 2], [.own 40 ty40], [(3, [(0, .any), (3, .own 40 ty40), (4, .any)])], [], [], 0⟩
/-- rafter/prim.Same -/
def n40 : Note := ⟨45, [.tmp 4], [.d .bool], [], [], [], 0⟩
/-- rafter/rafterlaw07.awake -/
def n12 : Note := ⟨71, [.tmp 0], [.d .bool], [], [], [], 0⟩
/-- slices.insertionSortCmpFunc[rafter/api.File] -/
def n122 : Note := ⟨53, [], [], [(1, [(0, .any), (1, .any), (2, .any), (3, .any), (8, .any)]), (4, [(0, .any), (1, .any), (2, .any), (3, .any), (8, .any), (9, .any)])], [], [(0, 35, .pair .unit (.sl ty35))], 4⟩
/-- slices.swapRangeCmpFunc[rafter/api.File] -/
def n160 : Note := ⟨38, [], [], [(1, [(0, .any), (1, .any), (2, .any), (3, .any), (10, .any)])], [], [(0, 35, .pair .unit (.sl ty35))], 5⟩
/-- slices.rotateCmpFunc[rafter/api.File] -/
def n144 : Note := ⟨58, [], [], [(2, [(0, .any), (2, .any), (4, .any), (10, .any), (11, .any)])], [], [(0, 35, .pair .unit (.sl ty35))], 5⟩
/-- slices.symMergeCmpFunc[rafter/api.File] -/
def n123 : Note := ⟨220, [], [], [(3, [(0, .any), (1, .any), (4, .any), (10, .any), (11, .any)]), (9, [(0, .any), (10, .any), (13, .any)]), (15, [(0, .any), (2, .any), (4, .any), (14, .any), (15, .any)]), (21, [(0, .any), (14, .any), (17, .any)]), (33, [(0, .any), (1, .any), (2, .any), (3, .any), (4, .any), (18, .any), (19, .any), (20, .any), (21, .any), (22, .any)])], [], [(0, 35, .pair .unit (.sl ty35))], 5⟩
/-- slices.stableCmpFunc[rafter/api.File] -/
def n85 : Note := ⟨63, [], [], [(2, [(0, .any), (1, .any), (2, .any), (6, .any), (7, .any), (8, .any)]), (7, [(0, .any), (1, .any), (2, .any), (6, .any)]), (9, [(0, .any), (1, .any), (2, .any), (6, .any), (7, .any), (8, .any)])], [], [(0, 35, .pair .unit (.sl ty35))], 3⟩
/-- slices.SortStableFunc[[]rafter/api.File,rafter/api.File] -/
def n44 : Note := ⟨9, [], [], [], [], [(0, 35, .pair .unit (.sl ty35))], 2⟩
/-- (rafter/tree.Tree).come -/
def n46 : Note := ⟨53, [.cell 4 31, .tmp 5], [.d ty31, .d (.int .i64)], [], [], [], 0⟩
/-- rafter/tree.Of -/
def n13 : Note := ⟨37, [.cell 2 31, .tmp 3], [.d ty31, .d (.int .i64)], [(7, [(2, .any), (5, .any), (18, .own 35 ty35), (19, .any), (20, .any)])], [], [], 0⟩
/-- rafter/rafterref04.whole -/
def n47 : Note := ⟨100, [.tmp 4], [.own 43 ty43], [(2, [(0, .any), (1, .any), (5, .any)]), (5, [(0, .any), (1, .any), (5, .any), (6, .any)])], [], [], 0⟩
/-- rafter/rafterref04.cut -/
def n90 : Note := ⟨9, [.tmp 2], [.d (.sl .str)], [], [], [], 0⟩
/-- rafter/rafterref01.High -/
def n91 : Note := ⟨10, [.tmp 4], [.d (.int .i64)], [], [], [], 0⟩
/-- rafter/rafterref04.Alike -/
def n48 : Note := ⟨76, [.tmp 4], [.own 81 (.sl (.int .i64))], [(6, [(0, .any), (1, .any), (5, .own 81 (.sl (.int .i64))), (6, .own 3 (.int .i64)), (7, .any)]), (10, [(0, .any), (1, .any), (5, .own 81 (.sl (.int .i64))), (6, .own 3 (.int .i64)), (7, .any), (8, .own 3 (.int .i64)), (9, .any)])], [], [], 0⟩
/-- rafter/rafterref04.Hunks -/
def n14 : Note := ⟨142, [.tmp 4], [.own 43 ty43], [(8, [(0, .any), (1, .any), (5, .own 81 (.sl (.int .i64))), (6, .own 43 ty43), (7, .cells [(1, 9, .str), (2, 9, .str)]), (8, .any), (9, .any)])], [], [], 0⟩
/-- rafter/prim.Hunk -/
def n16 : Note := ⟨15, [.cell 4 40], [.d ty40], [], [], [], 0⟩
/-- rafter/rafterref01.Same -/
def n18 : Note := ⟨26, [.tmp 4], [.d .bool], [(4, [(0, .any), (1, .any), (5, .any)])], [], [], 0⟩
/-- rafter/rafterlaw07.PrimHunks -/
def n3 : Note := ⟨98, [.tmp 6], [.d .bool], [(6, [(0, .any), (2, .any), (7, .any), (9, .own 43 ty43), (10, .any)])], [], [], 0⟩
/-- rafter/rafterlaw06.Light -/
def n19 : Note := ⟨29, [.tmp 2], [.d .bool], [(2, [(0, .any), (3, .any)])], [], [], 0⟩
/-- rafter/rafterlaw07.Light -/
def n20 : Note := ⟨47, [.tmp 2], [.d .bool], [(2, [(0, .any), (3, .any)])], [], [], 0⟩
/-- rafter/rafterref07.Check -/
def n57 : Note := ⟨89, [.tmp 2], [.d (.int .i64)], [], [], [], 0⟩
/-- rafter/rafterref06.Find -/
def n58 : Note := ⟨20, [.tmp 4], [.d (.int .i64)], [(2, [(0, .any), (1, .any), (5, .any)])], [], [], 0⟩
/-- rafter/rafterref06.Dir -/
def n97 : Note := ⟨22, [.tmp 4], [.d .bool], [], [], [], 0⟩
/-- rafter/rafterref05.Join -/
def n132 : Note := ⟨22, [.tmp 2], [.d .str], [(3, [(0, .any), (3, .any), (4, .any)])], [], [], 0⟩
/-- rafter/rafterref06.Up -/
def n98 : Note := ⟨15, [.tmp 2], [.d .str], [], [], [], 0⟩
/-- rafter/rafterref06.Without -/
def n100 : Note := ⟨28, [.tmp 4], [.own 35 ty35], [(3, [(0, .any), (1, .any), (5, .own 35 ty35), (6, .any)])], [], [], 0⟩
/-- rafter/rafterref05.Less -/
def n151 : Note := ⟨58, [.tmp 4], [.d .bool], [(6, [(5, .own 9 .str), (6, .own 9 .str), (7, .any)])], [], [], 0⟩
/-- rafter/rafterref06.Sort -/
def n133 : Note := ⟨51, [.tmp 2], [.own 35 ty35], [(3, [(0, .any), (3, .own 35 ty35), (4, .any)]), (6, [(0, .any), (3, .own 35 ty35), (4, .any), (5, .any)])], [], [], 0⟩
/-- rafter/rafterref06.With -/
def n99 : Note := ⟨13, [.tmp 4], [.own 35 ty35], [], [], [], 0⟩
/-- rafter/rafterref06.Do -/
def n59 : Note := ⟨154, [.tmp 4, .tmp 5], [.d (.sl ty35), .d (.int .i64)], [(29, [(0, .any), (3, .any), (9, .any)])], [], [], 0⟩
/-- rafter/rafterref03.At -/
def n101 : Note := ⟨36, [.tmp 6], [.d .bool], [(4, [(0, .any), (1, .any), (2, .any), (7, .any)])], [], [], 0⟩
/-- rafter/rafterref04.Apply -/
def n60 : Note := ⟨59, [.tmp 4, .tmp 5], [.own 9 .str, .d .bool], [(3, [(0, .any), (1, .any), (6, .own 9 .str), (7, .any)])], [], [], 0⟩
/-- rafter/rafterref07.Apply -/
def n23 : Note := ⟨108, [.tmp 4, .tmp 5], [.d (.sl ty35), .d (.int .i64)], [], [], [], 0⟩
/-- rafter/rafterref06.Same -/
def n25 : Note := ⟨55, [.tmp 4], [.d .bool], [(4, [(0, .any), (1, .any), (5, .any)])], [], [], 0⟩
/-- slices.EqualFunc[[]rafter/api.File,[]rafter/api.File,rafter/api.File,rafter/api.File] -/
def n61 : Note := ⟨32, [.tmp 6], [.d .bool], [(4, [(1, .any), (2, .any), (15, .any), (16, .any), (17, .any)])], [], [], 0⟩
/-- rafter/tree.Same$1 -/
def n62 : Note := ⟨24, [.tmp 4], [.d .bool], [], [], [], 0⟩
/-- rafter/tree.Same -/
def n26 : Note := ⟨10, [.tmp 4], [.d .bool], [], [], [], 0⟩
/-- slices.EqualFunc[[]rafter/api.Prim,[]rafter/api.Prim,rafter/api.Prim,rafter/api.Prim] -/
def n64 : Note := ⟨32, [.tmp 6], [.d .bool], [(4, [(1, .any), (2, .any), (15, .any), (16, .any), (17, .any)])], [], [], 0⟩
/-- rafter/prim.SameAll -/
def n27 : Note := ⟨8, [.tmp 4], [.d .bool], [], [], [], 0⟩
/-- rafter/rafterlaw07.PrimAll -/
def n4 : Note := ⟨104, [.tmp 4], [.d .bool], [(10, [(1, .any), (5, .any), (7, .any), (8, .any), (9, .any), (10, .any), (11, .any)])], [], [], 0⟩
/-- rafter/commute.Touches -/
def n67 : Note := ⟨17, [.tmp 2], [.own 9 .str], [], [], [], 0⟩
/-- slices.Index[[]string,string] -/
def n134 : Note := ⟨19, [.tmp 4], [.d (.int .i64)], [(2, [(0, .any), (1, .any), (7, .any), (8, .any)])], [], [], 0⟩
/-- slices.Contains[[]string,string] -/
def n104 : Note := ⟨9, [.tmp 4], [.d .bool], [], [], [], 0⟩
/-- internal/stringslite.HasPrefix -/
def n166 : Note := ⟨18, [.tmp 4], [.d .bool], [], [], [], 0⟩
/-- strings.HasPrefix -/
def n152 : Note := ⟨8, [.tmp 4], [.d .bool], [], [], [], 0⟩
/-- rafter/path.Within -/
def n135 : Note := ⟨25, [.tmp 4], [.d .bool], [], [], [], 0⟩
/-- rafter/commute.above -/
def n105 : Note := ⟨19, [.tmp 4], [.d .bool], [], [], [], 0⟩
/-- rafter/commute.Apart$1 -/
def n103 : Note := ⟨13, [.tmp 4], [.d .bool], [], [], [], 0⟩
/-- rafter/commute.Apart$2 -/
def n107 : Note := ⟨7, [.tmp 3], [.d .bool], [], [], [], 0⟩
/-- rafter/commute.Apart -/
def n66 : Note := ⟨31, [.tmp 4], [.d .bool], [], [], [], 0⟩
/-- rafter/commute.copied -/
def n69 : Note := ⟨6, [.cell 2 40], [.d ty40], [], [], [], 0⟩
/-- rafter/commute.Shift -/
def n68 : Note := ⟨89, [.cell 4 40, .cell 5 40, .tmp 6], [.d ty40, .d ty40, .d .bool], [], [], [], 0⟩
/-- rafter/commute.Pair -/
def n29 : Note := ⟨92, [.cell 4 40, .cell 5 40, .tmp 6], [.d ty40, .d ty40, .d (.int .i64)], [(2, [(2, .any), (3, .any), (4, .any), (5, .any), (17, .own 40 ty40), (18, .any), (19, .any)])], [], [], 0⟩
/-- rafter/commute.Can -/
def n65 : Note := ⟨17, [.tmp 4], [.d .bool], [], [], [], 0⟩
/-- rafter/rafterlaw08.awake -/
def n28 : Note := ⟨66, [.tmp 0], [.d .bool], [], [], [], 0⟩
/-- rafter/rafterref07.Same -/
def n30 : Note := ⟨95, [.tmp 4], [.d .bool], [(4, [(0, .any), (1, .any), (5, .any)])], [], [], 0⟩
/-- rafter/rafterlaw08.CommuteSame -/
def n5 : Note := ⟨99, [.tmp 6], [.d .bool], [], [], [], 0⟩
/-- rafter/rafterlaw09.light -/
def n31 : Note := ⟨18, [.tmp 2], [.d .bool], [(2, [(0, .any), (3, .any)])], [], [], 0⟩
/-- rafter/fuse.Touch -/
def n71 : Note := ⟨53, [.tmp 4], [.d .bool], [], [], [], 0⟩
/-- rafter/fuse.Hunks$1 -/
def n108 : Note := ⟨23, [.tmp 5], [.d (.sl .str)], [], [], [], 0⟩
/-- slices.Concat[[]string,string] -/
def n109 : Note := ⟨36, [.tmp 2], [.own 9 .str], [(3, [(0, .any), (3, .any), (9, .any), (10, .any), (11, .any)]), (11, [(6, .own 9 .str), (25, .any), (26, .any), (27, .any)])], [], [], 0⟩
/-- rafter/fuse.Hunks -/
def n70 : Note := ⟨103, [.cell 4 40, .tmp 5], [.d ty40, .d .bool], [], [], [], 0⟩
/-- rafter/fuse.undoes -/
def n110 : Note := ⟨24, [.tmp 4], [.d .bool], [], [], [], 0⟩
/-- rafter/fuse.Pair -/
def n72 : Note := ⟨57, [.tmp 4, .tmp 5], [.own 40 ty40, .d .bool], [], [], [], 0⟩
/-- rafter/fuse.All -/
def n33 : Note := ⟨53, [.tmp 2], [.own 40 ty40], [(3, [(3, .own 40 ty40), (9, .any), (10, .any), (11, .any)]), (6, [(3, .own 40 ty40), (6, .any), (9, .any), (10, .any), (11, .any)])], [], [], 0⟩
/-- rafter/rafterlaw09.awake -/
def n32 : Note := ⟨50, [.tmp 0], [.d .bool], [], [(4, [(1, .sh), (2, .sh), (3, .sh), (4, .any)])], [], 0⟩
/-- rafter/rafterref07.Invert -/
def n73 : Note := ⟨37, [.cell 2 40], [.d ty40], [], [], [], 0⟩
/-- rafter/rafterref09.Touch -/
def n111 : Note := ⟨50, [.tmp 4], [.d .bool], [], [], [], 0⟩
/-- rafter/rafterref01.Low -/
def n112 : Note := ⟨10, [.tmp 4], [.d (.int .i64)], [], [], [], 0⟩
/-- rafter/rafterref09.Hunks -/
def n74 : Note := ⟨163, [.cell 4 40, .tmp 5], [.d ty40, .d .bool], [(8, [(2, .any), (3, .any), (4, .any), (6, .cells [(4, 9, .str), (5, 9, .str)]), (7, .any), (8, .any), (9, .any), (10, .any)])], [(13, [(2, .any), (3, .any), (4, .any), (6, .cells [(4, 9, .str), (5, 9, .str)]), (7, .any), (8, .any), (9, .any), (10, .any)]), (16, [(2, .any), (3, .any), (4, .any), (6, .cells [(4, 9, .str), (5, 9, .str)]), (7, .any), (8, .any), (9, .any), (10, .any)]), (17, [(2, .any), (3, .any), (4, .any), (6, .cells [(4, 9, .str), (5, 9, .str)]), (7, .any), (8, .any), (9, .any), (10, .any), (11, .any)]), (18, [(2, .any), (3, .any), (4, .any), (6, .cells [(4, 9, .str), (5, 9, .str)]), (7, .any), (8, .any), (9, .any), (10, .any), (11, .any), (12, .any)]), (20, [(2, .any), (3, .any), (4, .any), (6, .cells [(4, 9, .str), (5, 9, .str)]), (7, .any), (8, .any), (9, .any), (10, .any), (11, .any), (12, .any)]), (22, [(2, .any), (3, .any), (4, .any), (6, .cells [(4, 9, .str), (5, 9, .str)]), (7, .any), (8, .any), (9, .any), (10, .any), (11, .any), (12, .any)]), (9, [(2, .any), (3, .any), (4, .any), (6, .cells [(4, 9, .str), (5, 9, .str)]), (7, .any), (8, .any), (9, .any), (10, .any)])], [], 0⟩
/-- rafter/rafterref09.Pair -/
def n34 : Note := ⟨73, [.tmp 4, .tmp 5], [.own 40 ty40, .d .bool], [], [], [], 0⟩
/-- rafter/rafterlaw09.FuseSame -/
def n6 : Note := ⟨85, [.tmp 4], [.d .bool], [(7, [(1, .any), (5, .any), (6, .any), (7, .any), (8, .any), (9, .own 40 ty40), (10, .any)])], [], [], 0⟩
/-- rafter/seq.Swap -/
def n79 : Note := ⟨48, [.tmp 4, .tmp 5], [.own 40 ty40, .d (.int .i64)], [], [], [], 0⟩
/-- rafter/seq.Front -/
def n37 : Note := ⟨35, [.tmp 4, .tmp 5], [.d (.sl ty40), .d (.int .i64)], [(4, [(1, .any), (6, .any)])], [], [], 0⟩
/-- rafter/seq.Past -/
def n78 : Note := ⟨38, [.tmp 4, .cell 5 40, .tmp 6], [.own 40 ty40, .d ty40, .d (.int .i64)], [(3, [(2, .any), (5, .any), (7, .own 40 ty40), (13, .any), (14, .any), (15, .any)])], [], [], 0⟩
/-- rafter/seq.Rows -/
def n36 : Note := ⟨42, [.tmp 4, .tmp 5, .tmp 6], [.d (.sl ty40), .own 40 ty40, .d (.int .i64)], [(3, [(0, .any), (7, .any), (8, .own 40 ty40), (9, .any)])], [], [], 0⟩
/-- rafter/seq.Needs$1 -/
def n113 : Note := ⟨16, [], [], [], [], [(1, 81, (.sl (.int .i64))), (3, 48, (.sl ty40))], 4⟩
/-- rafter/seq.Needs -/
def n75 : Note := ⟨50, [.tmp 4], [.d (.sl (.int .i64))], [(7, [(2, .any), (5, .sh), (6, .sh), (7, .any), (8, .any)])], [], [], 0⟩
/-- rafter/seq.Touched -/
def n76 : Note := ⟨19, [.tmp 2], [.own 9 .str], [(3, [(3, .own 9 .str), (6, .any), (7, .any), (8, .any)])], [], [], 0⟩
/-- rafter/rafterlaw10.awake -/
def n35 : Note := ⟨65, [.tmp 0], [.d .bool], [], [], [], 0⟩
/-- rafter/rafterlaw10.SeqSame -/
def n7 : Note := ⟨130, [.tmp 2], [.d .bool], [], [], [], 0⟩
noncomputable def fns : FuncId → Option (Code × Note)
  | 80 => some (code Tryz.f80, n80)
  | 38 => some (code Tryz.f38, n38)
  | 9 => some (code Tryz.f9, n9)
  | 8 => some (code Tryz.f8, n8)
  | 10 => some (code Tryz.f10, n10)
  | 39 => some (code Tryz.f39, n39)
  | 11 => some (code Tryz.f11, n11)
  | 136 => some (code Tryz.f136, n136)
  | 106 => some (code Tryz.f106, n106)
  | 118 => some (code Tryz.f118, n118)
  | 83 => some (code Tryz.f83, n83)
  | 124 => some (code Tryz.f124, n124)
  | 161 => some (code Tryz.f161, n161)
  | 145 => some (code Tryz.f145, n145)
  | 125 => some (code Tryz.f125, n125)
  | 86 => some (code Tryz.f86, n86)
  | 45 => some (code Tryz.f45, n45)
  | 96 => some (code Tryz.f96, n96)
  | 55 => some (code Tryz.f55, n55)
  | 56 => some (code Tryz.f56, n56)
  | 17 => some (code Tryz.f17, n17)
  | 120 => some (code Tryz.f120, n120)
  | 84 => some (code Tryz.f84, n84)
  | 42 => some (code Tryz.f42, n42)
  | 89 => some (code Tryz.f89, n89)
  | 87 => some (code Tryz.f87, n87)
  | 126 => some (code Tryz.f126, n126)
  | 88 => some (code Tryz.f88, n88)
  | 92 => some (code Tryz.f92, n92)
  | 49 => some (code Tryz.f49, n49)
  | 130 => some (code Tryz.f130, n130)
  | 94 => some (code Tryz.f94, n94)
  | 149 => some (code Tryz.f149, n149)
  | 128 => some (code Tryz.f128, n128)
  | 93 => some (code Tryz.f93, n93)
  | 50 => some (code Tryz.f50, n50)
  | 51 => some (code Tryz.f51, n51)
  | 53 => some (code Tryz.f53, n53)
  | 102 => some (code Tryz.f102, n102)
  | 63 => some (code Tryz.f63, n63)
  | 131 => some (code Tryz.f131, n131)
  | 95 => some (code Tryz.f95, n95)
  | 52 => some (code Tryz.f52, n52)
  | 15 => some (code Tryz.f15, n15)
  | 21 => some (code Tryz.f21, n21)
  | 22 => some (code Tryz.f22, n22)
  | 116 => some (code Tryz.f116, n116)
  | 82 => some (code Tryz.f82, n82)
  | 41 => some (code Tryz.f41, n41)
  | 24 => some (code Tryz.f24, n24)
  | 40 => some (code Tryz.f40, n40)
  | 12 => some (code Tryz.f12, n12)
  | 122 => some (code Tryz.f122, n122)
  | 160 => some (code Tryz.f160, n160)
  | 144 => some (code Tryz.f144, n144)
  | 123 => some (code Tryz.f123, n123)
  | 85 => some (code Tryz.f85, n85)
  | 44 => some (code Tryz.f44, n44)
  | 46 => some (code Tryz.f46, n46)
  | 13 => some (code Tryz.f13, n13)
  | 47 => some (code Tryz.f47, n47)
  | 90 => some (code Tryz.f90, n90)
  | 91 => some (code Tryz.f91, n91)
  | 48 => some (code Tryz.f48, n48)
  | 14 => some (code Tryz.f14, n14)
  | 16 => some (code Tryz.f16, n16)
  | 18 => some (code Tryz.f18, n18)
  | 3 => some (code Tryz.f3, n3)
  | 19 => some (code Tryz.f19, n19)
  | 20 => some (code Tryz.f20, n20)
  | 57 => some (code Tryz.f57, n57)
  | 58 => some (code Tryz.f58, n58)
  | 97 => some (code Tryz.f97, n97)
  | 132 => some (code Tryz.f132, n132)
  | 98 => some (code Tryz.f98, n98)
  | 100 => some (code Tryz.f100, n100)
  | 151 => some (code Tryz.f151, n151)
  | 133 => some (code Tryz.f133, n133)
  | 99 => some (code Tryz.f99, n99)
  | 59 => some (code Tryz.f59, n59)
  | 101 => some (code Tryz.f101, n101)
  | 60 => some (code Tryz.f60, n60)
  | 23 => some (code Tryz.f23, n23)
  | 25 => some (code Tryz.f25, n25)
  | 61 => some (code Tryz.f61, n61)
  | 62 => some (code Tryz.f62, n62)
  | 26 => some (code Tryz.f26, n26)
  | 64 => some (code Tryz.f64, n64)
  | 27 => some (code Tryz.f27, n27)
  | 4 => some (code Tryz.f4, n4)
  | 67 => some (code Tryz.f67, n67)
  | 134 => some (code Tryz.f134, n134)
  | 104 => some (code Tryz.f104, n104)
  | 166 => some (code Tryz.f166, n166)
  | 152 => some (code Tryz.f152, n152)
  | 135 => some (code Tryz.f135, n135)
  | 105 => some (code Tryz.f105, n105)
  | 103 => some (code Tryz.f103, n103)
  | 107 => some (code Tryz.f107, n107)
  | 66 => some (code Tryz.f66, n66)
  | 69 => some (code Tryz.f69, n69)
  | 68 => some (code Tryz.f68, n68)
  | 29 => some (code Tryz.f29, n29)
  | 65 => some (code Tryz.f65, n65)
  | 28 => some (code Tryz.f28, n28)
  | 30 => some (code Tryz.f30, n30)
  | 5 => some (code Tryz.f5, n5)
  | 31 => some (code Tryz.f31, n31)
  | 71 => some (code Tryz.f71, n71)
  | 108 => some (code Tryz.f108, n108)
  | 109 => some (code Tryz.f109, n109)
  | 70 => some (code Tryz.f70, n70)
  | 110 => some (code Tryz.f110, n110)
  | 72 => some (code Tryz.f72, n72)
  | 33 => some (code Tryz.f33, n33)
  | 32 => some (code Tryz.f32, n32)
  | 73 => some (code Tryz.f73, n73)
  | 111 => some (code Tryz.f111, n111)
  | 112 => some (code Tryz.f112, n112)
  | 74 => some (code Tryz.f74, n74)
  | 34 => some (code Tryz.f34, n34)
  | 6 => some (code Tryz.f6, n6)
  | 79 => some (code Tryz.f79, n79)
  | 37 => some (code Tryz.f37, n37)
  | 78 => some (code Tryz.f78, n78)
  | 36 => some (code Tryz.f36, n36)
  | 113 => some (code Tryz.f113, n113)
  | 75 => some (code Tryz.f75, n75)
  | 76 => some (code Tryz.f76, n76)
  | 35 => some (code Tryz.f35, n35)
  | 7 => some (code Tryz.f7, n7)
  | _ => none
noncomputable def ext : FuncId → Option (List A → Option (List RV)) := Ex.ext
noncomputable def W0 : Wd := ⟨Tryz.prog, ti, sg, fns, ext, Ex.eat⟩
/-- A call over the limit, its results as data. -/
noncomputable def cR (f : FuncId) (rts : List RT) (xs : List A) : Option (dens rts) := callT (envOf W0 (callW W0)) rts f xs
/-- The same for a call that writes variables of its caller: what then stands in them comes behind. -/
noncomputable def cR2 (f : FuncId) (rts : List RT) (os : List Ty) (xs : List A) : Option (dens rts × dens (os.map RT.d)) := callT2 (envOf W0 (callW W0)) rts os f xs
theorem ti_one {t : TypeId} {i : TI} (d : TypeDesc) (h1 : Tryz.prog.underlying t = some d) (h2 : (Tryz.prog.info? t).map (fun i => (i.size, i.bytes, i.zero)) = some (i.size, i.bytes, some i.zero)) (h3 : Dok d i.desc) : TIok Tryz.prog t i := by
  cases h : Tryz.prog.info? t with
  | none => rw [h] at h2; cases h2
  | some j =>
    rw [h] at h2
    simp only [Option.map_some, Option.some.injEq, Prod.mk.injEq] at h2
    exact ⟨d, j, h1, h, h2.1, h2.2.1, h2.2.2, h3⟩
theorem ti_ok : ∀ t i, ti t = some i → TIok Tryz.prog t i := by
  intro t i h
  unfold ti at h
  split at h
  · cases h; exact ti_one _ Tryz.underlying3 (by kernel_rfl) rfl
  · cases h; exact ti_one _ Tryz.underlying4 (by kernel_rfl) rfl
  · cases h; exact ti_one _ Tryz.underlying5 (by kernel_rfl) rfl
  · cases h; exact ti_one _ Tryz.underlying9 (by kernel_rfl) rfl
  · cases h; exact ti_one _ Tryz.underlying21 (by kernel_rfl) rfl
  · cases h; exact ti_one _ Tryz.underlying22 (by kernel_rfl) rfl
  · cases h; exact ti_one _ Tryz.underlying23 (by kernel_rfl) trivial
  · cases h; exact ti_one _ Tryz.underlying26 (by kernel_rfl) rfl
  · cases h; exact ti_one _ Tryz.underlying29 (by kernel_rfl) rfl
  · cases h; exact ti_one _ Tryz.underlying31 (by kernel_rfl) ⟨_, rfl, rfl⟩
  · cases h; exact ti_one _ Tryz.underlying35 (by kernel_rfl) ⟨_, rfl, rfl⟩
  · cases h; exact ti_one _ Tryz.underlying36 (by kernel_rfl) rfl
  · cases h; exact ti_one _ Tryz.underlying40 (by kernel_rfl) ⟨_, rfl, rfl⟩
  · cases h; exact ti_one _ Tryz.underlying43 (by kernel_rfl) ⟨_, rfl, rfl⟩
  · cases h; exact ti_one _ Tryz.underlying48 (by kernel_rfl) rfl
  · cases h; exact ti_one _ Tryz.underlying66 (by kernel_rfl) ⟨_, rfl, rfl⟩
  · cases h; exact ti_one _ Tryz.underlying72 (by kernel_rfl) trivial
  · cases h; exact ti_one _ Tryz.underlying77 (by kernel_rfl) trivial
  · cases h; exact ti_one _ Tryz.underlying79 (by kernel_rfl) rfl
  · cases h; exact ti_one _ Tryz.underlying81 (by kernel_rfl) rfl
  · cases h; exact ti_one _ Tryz.underlying93 (by kernel_rfl) ⟨_, rfl, rfl⟩
  · cases h; exact ti_one _ Tryz.underlying97 (by kernel_rfl) trivial
  · cases h; exact ti_one _ Tryz.underlying141 (by kernel_rfl) trivial
  · cases h; exact ti_one _ Tryz.underlying143 (by kernel_rfl) rfl
  · cases h; exact ti_one _ Tryz.underlying147 (by kernel_rfl) rfl
  · cases h
theorem fns_ok : ∀ f c N, fns f = some (c, N) → ∃ fn, Tryz.prog.funcs[f]? = some fn ∧ fn.body = some c ∧ N.nt ≤ fn.ntmps ∧ fn.results.toList = N.res ∧ (fn.name == "runtime.NumGoroutine") = false := by
  intro f c N h
  unfold fns at h
  split at h
  · cases h; exact ⟨_, Tryz.func80, rfl, Nat.le_refl _, rfl, by decide⟩
  · cases h; exact ⟨_, Tryz.func38, rfl, Nat.le_refl _, rfl, by decide⟩
  · cases h; exact ⟨_, Tryz.func9, rfl, Nat.le_refl _, rfl, by decide⟩
  · cases h; exact ⟨_, Tryz.func8, rfl, Nat.le_refl _, rfl, by decide⟩
  · cases h; exact ⟨_, Tryz.func10, rfl, Nat.le_refl _, rfl, by decide⟩
  · cases h; exact ⟨_, Tryz.func39, rfl, Nat.le_refl _, rfl, by decide⟩
  · cases h; exact ⟨_, Tryz.func11, rfl, Nat.le_refl _, rfl, by decide⟩
  · cases h; exact ⟨_, Tryz.func136, rfl, Nat.le_refl _, rfl, by decide⟩
  · cases h; exact ⟨_, Tryz.func106, rfl, Nat.le_refl _, rfl, by decide⟩
  · cases h; exact ⟨_, Tryz.func118, rfl, Nat.le_refl _, rfl, by decide⟩
  · cases h; exact ⟨_, Tryz.func83, rfl, Nat.le_refl _, rfl, by decide⟩
  · cases h; exact ⟨_, Tryz.func124, rfl, Nat.le_refl _, rfl, by decide⟩
  · cases h; exact ⟨_, Tryz.func161, rfl, Nat.le_refl _, rfl, by decide⟩
  · cases h; exact ⟨_, Tryz.func145, rfl, Nat.le_refl _, rfl, by decide⟩
  · cases h; exact ⟨_, Tryz.func125, rfl, Nat.le_refl _, rfl, by decide⟩
  · cases h; exact ⟨_, Tryz.func86, rfl, Nat.le_refl _, rfl, by decide⟩
  · cases h; exact ⟨_, Tryz.func45, rfl, Nat.le_refl _, rfl, by decide⟩
  · cases h; exact ⟨_, Tryz.func96, rfl, Nat.le_refl _, rfl, by decide⟩
  · cases h; exact ⟨_, Tryz.func55, rfl, Nat.le_refl _, rfl, by decide⟩
  · cases h; exact ⟨_, Tryz.func56, rfl, Nat.le_refl _, rfl, by decide⟩
  · cases h; exact ⟨_, Tryz.func17, rfl, Nat.le_refl _, rfl, by decide⟩
  · cases h; exact ⟨_, Tryz.func120, rfl, Nat.le_refl _, rfl, by decide⟩
  · cases h; exact ⟨_, Tryz.func84, rfl, Nat.le_refl _, rfl, by decide⟩
  · cases h; exact ⟨_, Tryz.func42, rfl, Nat.le_refl _, rfl, by decide⟩
  · cases h; exact ⟨_, Tryz.func89, rfl, Nat.le_refl _, rfl, by decide⟩
  · cases h; exact ⟨_, Tryz.func87, rfl, Nat.le_refl _, rfl, by decide⟩
  · cases h; exact ⟨_, Tryz.func126, rfl, Nat.le_refl _, rfl, by decide⟩
  · cases h; exact ⟨_, Tryz.func88, rfl, Nat.le_refl _, rfl, by decide⟩
  · cases h; exact ⟨_, Tryz.func92, rfl, Nat.le_refl _, rfl, by decide⟩
  · cases h; exact ⟨_, Tryz.func49, rfl, Nat.le_refl _, rfl, by decide⟩
  · cases h; exact ⟨_, Tryz.func130, rfl, Nat.le_refl _, rfl, by decide⟩
  · cases h; exact ⟨_, Tryz.func94, rfl, Nat.le_refl _, rfl, by decide⟩
  · cases h; exact ⟨_, Tryz.func149, rfl, Nat.le_refl _, rfl, by decide⟩
  · cases h; exact ⟨_, Tryz.func128, rfl, Nat.le_refl _, rfl, by decide⟩
  · cases h; exact ⟨_, Tryz.func93, rfl, Nat.le_refl _, rfl, by decide⟩
  · cases h; exact ⟨_, Tryz.func50, rfl, Nat.le_refl _, rfl, by decide⟩
  · cases h; exact ⟨_, Tryz.func51, rfl, Nat.le_refl _, rfl, by decide⟩
  · cases h; exact ⟨_, Tryz.func53, rfl, Nat.le_refl _, rfl, by decide⟩
  · cases h; exact ⟨_, Tryz.func102, rfl, Nat.le_refl _, rfl, by decide⟩
  · cases h; exact ⟨_, Tryz.func63, rfl, Nat.le_refl _, rfl, by decide⟩
  · cases h; exact ⟨_, Tryz.func131, rfl, Nat.le_refl _, rfl, by decide⟩
  · cases h; exact ⟨_, Tryz.func95, rfl, Nat.le_refl _, rfl, by decide⟩
  · cases h; exact ⟨_, Tryz.func52, rfl, Nat.le_refl _, rfl, by decide⟩
  · cases h; exact ⟨_, Tryz.func15, rfl, Nat.le_refl _, rfl, by decide⟩
  · cases h; exact ⟨_, Tryz.func21, rfl, Nat.le_refl _, rfl, by decide⟩
  · cases h; exact ⟨_, Tryz.func22, rfl, Nat.le_refl _, rfl, by decide⟩
  · cases h; exact ⟨_, Tryz.func116, rfl, Nat.le_refl _, rfl, by decide⟩
  · cases h; exact ⟨_, Tryz.func82, rfl, Nat.le_refl _, rfl, by decide⟩
  · cases h; exact ⟨_, Tryz.func41, rfl, Nat.le_refl _, rfl, by decide⟩
  · cases h; exact ⟨_, Tryz.func24, rfl, Nat.le_refl _, rfl, by decide⟩
  · cases h; exact ⟨_, Tryz.func40, rfl, Nat.le_refl _, rfl, by decide⟩
  · cases h; exact ⟨_, Tryz.func12, rfl, Nat.le_refl _, rfl, by decide⟩
  · cases h; exact ⟨_, Tryz.func122, rfl, Nat.le_refl _, rfl, by decide⟩
  · cases h; exact ⟨_, Tryz.func160, rfl, Nat.le_refl _, rfl, by decide⟩
  · cases h; exact ⟨_, Tryz.func144, rfl, Nat.le_refl _, rfl, by decide⟩
  · cases h; exact ⟨_, Tryz.func123, rfl, Nat.le_refl _, rfl, by decide⟩
  · cases h; exact ⟨_, Tryz.func85, rfl, Nat.le_refl _, rfl, by decide⟩
  · cases h; exact ⟨_, Tryz.func44, rfl, Nat.le_refl _, rfl, by decide⟩
  · cases h; exact ⟨_, Tryz.func46, rfl, Nat.le_refl _, rfl, by decide⟩
  · cases h; exact ⟨_, Tryz.func13, rfl, Nat.le_refl _, rfl, by decide⟩
  · cases h; exact ⟨_, Tryz.func47, rfl, Nat.le_refl _, rfl, by decide⟩
  · cases h; exact ⟨_, Tryz.func90, rfl, Nat.le_refl _, rfl, by decide⟩
  · cases h; exact ⟨_, Tryz.func91, rfl, Nat.le_refl _, rfl, by decide⟩
  · cases h; exact ⟨_, Tryz.func48, rfl, Nat.le_refl _, rfl, by decide⟩
  · cases h; exact ⟨_, Tryz.func14, rfl, Nat.le_refl _, rfl, by decide⟩
  · cases h; exact ⟨_, Tryz.func16, rfl, Nat.le_refl _, rfl, by decide⟩
  · cases h; exact ⟨_, Tryz.func18, rfl, Nat.le_refl _, rfl, by decide⟩
  · cases h; exact ⟨_, Tryz.func3, rfl, Nat.le_refl _, rfl, by decide⟩
  · cases h; exact ⟨_, Tryz.func19, rfl, Nat.le_refl _, rfl, by decide⟩
  · cases h; exact ⟨_, Tryz.func20, rfl, Nat.le_refl _, rfl, by decide⟩
  · cases h; exact ⟨_, Tryz.func57, rfl, Nat.le_refl _, rfl, by decide⟩
  · cases h; exact ⟨_, Tryz.func58, rfl, Nat.le_refl _, rfl, by decide⟩
  · cases h; exact ⟨_, Tryz.func97, rfl, Nat.le_refl _, rfl, by decide⟩
  · cases h; exact ⟨_, Tryz.func132, rfl, Nat.le_refl _, rfl, by decide⟩
  · cases h; exact ⟨_, Tryz.func98, rfl, Nat.le_refl _, rfl, by decide⟩
  · cases h; exact ⟨_, Tryz.func100, rfl, Nat.le_refl _, rfl, by decide⟩
  · cases h; exact ⟨_, Tryz.func151, rfl, Nat.le_refl _, rfl, by decide⟩
  · cases h; exact ⟨_, Tryz.func133, rfl, Nat.le_refl _, rfl, by decide⟩
  · cases h; exact ⟨_, Tryz.func99, rfl, Nat.le_refl _, rfl, by decide⟩
  · cases h; exact ⟨_, Tryz.func59, rfl, Nat.le_refl _, rfl, by decide⟩
  · cases h; exact ⟨_, Tryz.func101, rfl, Nat.le_refl _, rfl, by decide⟩
  · cases h; exact ⟨_, Tryz.func60, rfl, Nat.le_refl _, rfl, by decide⟩
  · cases h; exact ⟨_, Tryz.func23, rfl, Nat.le_refl _, rfl, by decide⟩
  · cases h; exact ⟨_, Tryz.func25, rfl, Nat.le_refl _, rfl, by decide⟩
  · cases h; exact ⟨_, Tryz.func61, rfl, Nat.le_refl _, rfl, by decide⟩
  · cases h; exact ⟨_, Tryz.func62, rfl, Nat.le_refl _, rfl, by decide⟩
  · cases h; exact ⟨_, Tryz.func26, rfl, Nat.le_refl _, rfl, by decide⟩
  · cases h; exact ⟨_, Tryz.func64, rfl, Nat.le_refl _, rfl, by decide⟩
  · cases h; exact ⟨_, Tryz.func27, rfl, Nat.le_refl _, rfl, by decide⟩
  · cases h; exact ⟨_, Tryz.func4, rfl, Nat.le_refl _, rfl, by decide⟩
  · cases h; exact ⟨_, Tryz.func67, rfl, Nat.le_refl _, rfl, by decide⟩
  · cases h; exact ⟨_, Tryz.func134, rfl, Nat.le_refl _, rfl, by decide⟩
  · cases h; exact ⟨_, Tryz.func104, rfl, Nat.le_refl _, rfl, by decide⟩
  · cases h; exact ⟨_, Tryz.func166, rfl, Nat.le_refl _, rfl, by decide⟩
  · cases h; exact ⟨_, Tryz.func152, rfl, Nat.le_refl _, rfl, by decide⟩
  · cases h; exact ⟨_, Tryz.func135, rfl, Nat.le_refl _, rfl, by decide⟩
  · cases h; exact ⟨_, Tryz.func105, rfl, Nat.le_refl _, rfl, by decide⟩
  · cases h; exact ⟨_, Tryz.func103, rfl, Nat.le_refl _, rfl, by decide⟩
  · cases h; exact ⟨_, Tryz.func107, rfl, Nat.le_refl _, rfl, by decide⟩
  · cases h; exact ⟨_, Tryz.func66, rfl, Nat.le_refl _, rfl, by decide⟩
  · cases h; exact ⟨_, Tryz.func69, rfl, Nat.le_refl _, rfl, by decide⟩
  · cases h; exact ⟨_, Tryz.func68, rfl, Nat.le_refl _, rfl, by decide⟩
  · cases h; exact ⟨_, Tryz.func29, rfl, Nat.le_refl _, rfl, by decide⟩
  · cases h; exact ⟨_, Tryz.func65, rfl, Nat.le_refl _, rfl, by decide⟩
  · cases h; exact ⟨_, Tryz.func28, rfl, Nat.le_refl _, rfl, by decide⟩
  · cases h; exact ⟨_, Tryz.func30, rfl, Nat.le_refl _, rfl, by decide⟩
  · cases h; exact ⟨_, Tryz.func5, rfl, Nat.le_refl _, rfl, by decide⟩
  · cases h; exact ⟨_, Tryz.func31, rfl, Nat.le_refl _, rfl, by decide⟩
  · cases h; exact ⟨_, Tryz.func71, rfl, Nat.le_refl _, rfl, by decide⟩
  · cases h; exact ⟨_, Tryz.func108, rfl, Nat.le_refl _, rfl, by decide⟩
  · cases h; exact ⟨_, Tryz.func109, rfl, Nat.le_refl _, rfl, by decide⟩
  · cases h; exact ⟨_, Tryz.func70, rfl, Nat.le_refl _, rfl, by decide⟩
  · cases h; exact ⟨_, Tryz.func110, rfl, Nat.le_refl _, rfl, by decide⟩
  · cases h; exact ⟨_, Tryz.func72, rfl, Nat.le_refl _, rfl, by decide⟩
  · cases h; exact ⟨_, Tryz.func33, rfl, Nat.le_refl _, rfl, by decide⟩
  · cases h; exact ⟨_, Tryz.func32, rfl, Nat.le_refl _, rfl, by decide⟩
  · cases h; exact ⟨_, Tryz.func73, rfl, Nat.le_refl _, rfl, by decide⟩
  · cases h; exact ⟨_, Tryz.func111, rfl, Nat.le_refl _, rfl, by decide⟩
  · cases h; exact ⟨_, Tryz.func112, rfl, Nat.le_refl _, rfl, by decide⟩
  · cases h; exact ⟨_, Tryz.func74, rfl, Nat.le_refl _, rfl, by decide⟩
  · cases h; exact ⟨_, Tryz.func34, rfl, Nat.le_refl _, rfl, by decide⟩
  · cases h; exact ⟨_, Tryz.func6, rfl, Nat.le_refl _, rfl, by decide⟩
  · cases h; exact ⟨_, Tryz.func79, rfl, Nat.le_refl _, rfl, by decide⟩
  · cases h; exact ⟨_, Tryz.func37, rfl, Nat.le_refl _, rfl, by decide⟩
  · cases h; exact ⟨_, Tryz.func78, rfl, Nat.le_refl _, rfl, by decide⟩
  · cases h; exact ⟨_, Tryz.func36, rfl, Nat.le_refl _, rfl, by decide⟩
  · cases h; exact ⟨_, Tryz.func113, rfl, Nat.le_refl _, rfl, by decide⟩
  · cases h; exact ⟨_, Tryz.func75, rfl, Nat.le_refl _, rfl, by decide⟩
  · cases h; exact ⟨_, Tryz.func76, rfl, Nat.le_refl _, rfl, by decide⟩
  · cases h; exact ⟨_, Tryz.func35, rfl, Nat.le_refl _, rfl, by decide⟩
  · cases h; exact ⟨_, Tryz.func7, rfl, Nat.le_refl _, rfl, by decide⟩
  · cases h
theorem sg_ok : ∀ f s, sg f = some s → SgOK W0 f s := by
  intro f s h
  unfold sg at h
  split at h
  · cases h; exact And.intro rfl (And.intro rfl (fun h => absurd rfl h))
  · cases h; exact And.intro rfl (And.intro rfl (fun h => absurd rfl h))
  · cases h; exact And.intro rfl (And.intro rfl (fun h => absurd rfl h))
  · cases h; exact And.intro rfl (And.intro rfl (fun h => absurd rfl h))
  · cases h; exact And.intro rfl (And.intro rfl (fun h => absurd rfl h))
  · cases h; exact And.intro rfl (And.intro rfl (fun h => absurd rfl h))
  · cases h; exact And.intro rfl (And.intro rfl (fun h => absurd rfl h))
  · cases h; exact And.intro rfl (And.intro rfl (fun h => absurd rfl h))
  · cases h; exact And.intro rfl (And.intro rfl (fun h => absurd rfl h))
  · cases h; exact And.intro rfl (And.intro rfl (fun h => absurd rfl h))
  · cases h; exact And.intro rfl (And.intro rfl (fun h => absurd rfl h))
  · cases h; exact And.intro rfl (And.intro rfl (fun h => absurd rfl h))
  · cases h; exact And.intro rfl (And.intro rfl (fun h => absurd rfl h))
  · cases h; exact And.intro rfl (And.intro rfl (fun h => absurd rfl h))
  · cases h; exact And.intro rfl (And.intro rfl (fun h => absurd rfl h))
  · cases h; exact And.intro rfl (And.intro rfl (fun h => absurd rfl h))
  · cases h; exact And.intro rfl (And.intro rfl (fun h => absurd rfl h))
  · cases h; exact And.intro rfl (And.intro rfl (fun h => absurd rfl h))
  · cases h; exact And.intro rfl (And.intro rfl (fun h => absurd rfl h))
  · cases h; exact And.intro rfl (And.intro rfl (fun h => absurd rfl h))
  · cases h; exact And.intro rfl (And.intro rfl (fun h => absurd rfl h))
  · cases h; exact And.intro rfl (And.intro rfl (fun h => absurd rfl h))
  · cases h; exact And.intro rfl (And.intro rfl (fun h => absurd rfl h))
  · cases h; exact And.intro rfl (And.intro rfl (fun h => absurd rfl h))
  · cases h; exact And.intro rfl (And.intro rfl (fun h => absurd rfl h))
  · cases h; exact And.intro rfl (And.intro rfl (fun h => absurd rfl h))
  · cases h; exact And.intro rfl (And.intro rfl (fun h => absurd rfl h))
  · cases h; exact And.intro rfl (And.intro rfl (fun h => absurd rfl h))
  · cases h; exact And.intro rfl (And.intro rfl (fun h => absurd rfl h))
  · cases h; exact And.intro rfl (And.intro rfl (fun h => absurd rfl h))
  · cases h; exact And.intro rfl (And.intro rfl (fun h => absurd rfl h))
  · cases h; exact And.intro rfl (And.intro rfl (fun h => absurd rfl h))
  · cases h; exact And.intro rfl (And.intro rfl (fun h => absurd rfl h))
  · cases h; exact And.intro rfl (And.intro rfl (fun h => absurd rfl h))
  · cases h; exact And.intro rfl (And.intro rfl (fun h => absurd rfl h))
  · cases h; exact And.intro rfl (And.intro rfl (fun h => absurd rfl h))
  · cases h; exact And.intro rfl (And.intro rfl (fun h => absurd rfl h))
  · cases h; exact And.intro rfl (And.intro rfl (fun h => absurd rfl h))
  · cases h; exact And.intro rfl (And.intro rfl (fun h => absurd rfl h))
  · cases h; exact And.intro rfl (And.intro rfl (fun h => absurd rfl h))
  · cases h; exact And.intro rfl rfl
  · cases h; exact And.intro rfl (And.intro rfl (fun _ => And.intro rfl rfl))
  · cases h; exact And.intro rfl (And.intro rfl (fun h => absurd rfl h))
  · cases h; exact And.intro rfl (And.intro rfl (fun h => absurd rfl h))
  · cases h; exact And.intro rfl (And.intro rfl (fun h => absurd rfl h))
  · cases h; exact And.intro rfl (And.intro rfl (fun h => absurd rfl h))
  · cases h; exact And.intro rfl (And.intro rfl (fun h => absurd rfl h))
  · cases h; exact And.intro rfl (And.intro rfl (fun h => absurd rfl h))
  · cases h; exact And.intro rfl (And.intro rfl (fun h => absurd rfl h))
  · cases h; exact And.intro rfl (And.intro rfl (fun h => absurd rfl h))
  · cases h; exact And.intro rfl (And.intro rfl (fun h => absurd rfl h))
  · cases h; exact And.intro rfl rfl
  · cases h; exact And.intro rfl (And.intro rfl (fun h => absurd rfl h))
  · cases h; exact And.intro rfl (And.intro rfl (fun h => absurd rfl h))
  · cases h; exact And.intro rfl (And.intro rfl (fun h => absurd rfl h))
  · cases h; exact And.intro rfl (And.intro rfl (fun h => absurd rfl h))
  · cases h; exact And.intro rfl (And.intro rfl (fun h => absurd rfl h))
  · cases h; exact And.intro rfl (And.intro rfl (fun h => absurd rfl h))
  · cases h; exact And.intro rfl (And.intro rfl (fun h => absurd rfl h))
  · cases h; exact And.intro rfl (And.intro rfl (fun h => absurd rfl h))
  · cases h; exact And.intro rfl (And.intro rfl (fun h => absurd rfl h))
  · cases h; exact And.intro rfl (And.intro rfl (fun h => absurd rfl h))
  · cases h; exact And.intro rfl (And.intro rfl (fun h => absurd rfl h))
  · cases h; exact And.intro rfl (And.intro rfl (fun h => absurd rfl h))
  · cases h; exact And.intro rfl (And.intro rfl (fun h => absurd rfl h))
  · cases h; exact And.intro rfl (And.intro rfl (fun h => absurd rfl h))
  · cases h; exact And.intro rfl (And.intro rfl (fun h => absurd rfl h))
  · cases h; exact And.intro rfl (And.intro rfl (fun h => absurd rfl h))
  · cases h; exact And.intro rfl (And.intro rfl (fun h => absurd rfl h))
  · cases h; exact And.intro rfl (And.intro rfl (fun h => absurd rfl h))
  · cases h; exact And.intro rfl (And.intro rfl (fun h => absurd rfl h))
  · cases h; exact And.intro rfl (And.intro rfl (fun h => absurd rfl h))
  · cases h; exact And.intro rfl (And.intro rfl (fun h => absurd rfl h))
  · cases h; exact And.intro rfl (And.intro rfl (fun h => absurd rfl h))
  · cases h; exact And.intro rfl rfl
  · cases h; exact And.intro rfl (And.intro rfl (fun h => absurd rfl h))
  · cases h; exact And.intro rfl (And.intro rfl (fun h => absurd rfl h))
  · cases h; exact And.intro rfl (And.intro rfl (fun h => absurd rfl h))
  · cases h; exact And.intro rfl rfl
  · cases h; exact And.intro rfl (And.intro rfl (fun h => absurd rfl h))
  · cases h; exact And.intro rfl (And.intro rfl (fun h => absurd rfl h))
  · cases h; exact And.intro rfl (And.intro rfl (fun h => absurd rfl h))
  · cases h; exact And.intro rfl (And.intro rfl (fun _ => And.intro rfl rfl))
  · cases h; exact And.intro rfl (And.intro rfl (fun h => absurd rfl h))
  · cases h; exact And.intro rfl (And.intro rfl (fun h => absurd rfl h))
  · cases h; exact And.intro rfl (And.intro rfl (fun h => absurd rfl h))
  · cases h; exact And.intro rfl (And.intro rfl (fun h => absurd rfl h))
  · cases h; exact And.intro rfl (And.intro rfl (fun h => absurd rfl h))
  · cases h; exact And.intro rfl (And.intro rfl (fun h => absurd rfl h))
  · cases h; exact And.intro rfl (And.intro rfl (fun h => absurd rfl h))
  · cases h; exact And.intro rfl (And.intro rfl (fun h => absurd rfl h))
  · cases h; exact And.intro rfl (And.intro rfl (fun h => absurd rfl h))
  · cases h; exact And.intro rfl (And.intro rfl (fun h => absurd rfl h))
  · cases h; exact And.intro rfl (And.intro rfl (fun h => absurd rfl h))
  · cases h; exact And.intro rfl (And.intro rfl (fun h => absurd rfl h))
  · cases h; exact And.intro rfl (And.intro rfl (fun h => absurd rfl h))
  · cases h; exact And.intro rfl (And.intro rfl (fun h => absurd rfl h))
  · cases h; exact And.intro rfl (And.intro rfl (fun h => absurd rfl h))
  · cases h; exact And.intro rfl (And.intro rfl (fun h => absurd rfl h))
  · cases h; exact And.intro rfl (And.intro rfl (fun h => absurd rfl h))
  · cases h; exact And.intro rfl (And.intro rfl (fun h => absurd rfl h))
  · cases h; exact And.intro rfl (And.intro rfl (fun h => absurd rfl h))
  · cases h; exact And.intro rfl (And.intro rfl (fun h => absurd rfl h))
  · cases h; exact And.intro rfl (And.intro rfl (fun h => absurd rfl h))
  · cases h; exact And.intro rfl (And.intro rfl (fun h => absurd rfl h))
  · cases h; exact And.intro rfl (And.intro rfl (fun h => absurd rfl h))
  · cases h; exact And.intro rfl (And.intro rfl (fun h => absurd rfl h))
  · cases h; exact And.intro rfl (And.intro rfl (fun h => absurd rfl h))
  · cases h; exact And.intro rfl (And.intro rfl (fun h => absurd rfl h))
  · cases h; exact And.intro rfl (And.intro rfl (fun h => absurd rfl h))
  · cases h; exact And.intro rfl (And.intro rfl (fun _ => And.intro rfl rfl))
  · cases h; exact And.intro rfl rfl
  · cases h; exact And.intro rfl (And.intro rfl (fun h => absurd rfl h))
  · cases h; exact And.intro rfl rfl
  · cases h; exact And.intro rfl (And.intro rfl (fun h => absurd rfl h))
  · cases h; exact And.intro rfl rfl
  · cases h; exact And.intro rfl (And.intro rfl (fun h => absurd rfl h))
  · cases h; exact And.intro rfl rfl
  · cases h; exact And.intro rfl (And.intro rfl (fun _ => And.intro rfl rfl))
  · cases h; exact And.intro rfl (And.intro rfl (fun _ => And.intro rfl rfl))
  · cases h; exact And.intro rfl (And.intro rfl (fun h => absurd rfl h))
  · cases h; exact And.intro rfl (And.intro rfl (fun h => absurd rfl h))
  · cases h; exact And.intro rfl (And.intro rfl (fun h => absurd rfl h))
  · cases h; exact And.intro rfl rfl
  · cases h; exact And.intro rfl (And.intro rfl (fun h => absurd rfl h))
  · cases h; exact And.intro rfl rfl
  · cases h; exact And.intro rfl (And.intro rfl (fun h => absurd rfl h))
  · cases h; exact And.intro rfl (And.intro rfl (fun h => absurd rfl h))
  · cases h; exact And.intro rfl (And.intro rfl (fun h => absurd rfl h))
  · cases h; exact And.intro rfl (And.intro rfl (fun h => absurd rfl h))
  · cases h; exact And.intro rfl (And.intro rfl (fun h => absurd rfl h))
  · cases h; exact And.intro rfl (And.intro rfl (fun h => absurd rfl h))
  · cases h; exact And.intro rfl (And.intro rfl (fun h => absurd rfl h))
  · cases h; exact And.intro rfl rfl
  · cases h; exact And.intro rfl (And.intro rfl (fun _ => And.intro rfl rfl))
  · cases h; exact And.intro rfl (And.intro rfl (fun h => absurd rfl h))
  · cases h; exact And.intro rfl rfl
  · cases h; exact And.intro rfl (And.intro rfl (fun h => absurd rfl h))
  · cases h; exact And.intro rfl (And.intro rfl (fun h => absurd rfl h))
  · cases h; exact And.intro rfl (And.intro rfl (fun h => absurd rfl h))
  · cases h; exact And.intro rfl (And.intro rfl (fun _ => And.intro rfl rfl))
  · cases h; exact And.intro rfl (And.intro rfl (fun h => absurd rfl h))
  · cases h; exact And.intro rfl (And.intro rfl (fun h => absurd rfl h))
  · cases h
theorem w_ok : WdOK W0 EGlob.G := ⟨ti_ok, fns_ok, Ex.ext_ok, by kernel_rfl, fun _ _ h hb => EGlob.G_below h hb, sg_ok⟩
end Go.Proofs.YtabhngbpkfdeiaaGreatDoor.Tb
end
section
/- Proved: whatever reads as a datum of a type is a value of the print's kind for that type; for each make of type. No condition. -/
namespace Go.Proofs.YtabhngbpkfdeiaaGreatDoor.EOpen
open Go.ChangeShapes Go.Proofs.YtabhngbpkfdeiaaGreatDoorW.PrintWords

variable {P : Program} {t : TypeId}
theorem mapM_get {β : Type} (f : Nat → Option β) : ∀ (n : Nat) (l : List β), (List.range n).mapM f = some l → l.length = n ∧ ∀ i, i < n → f i = l[i]? := by
  intro n
  induction n with
  | zero =>
    intro l h
    simp at h
    subst h
    exact ⟨rfl, fun i hi => absurd hi (by omega)⟩
  | succ n ih =>
    intro l h
    rw [List.range_succ, List.mapM_append] at h
    obtain ⟨l1, h1, h⟩ := Option.bind_eq_some_iff.1 h
    obtain ⟨l2, h2, h⟩ := Option.bind_eq_some_iff.1 h
    obtain ⟨hl, hg⟩ := ih l1 h1
    obtain ⟨y, hy, h2⟩ := Option.bind_eq_some_iff.1 (by simpa using h2)
    injection h with h
    subst h
    injection h2 with h2
    subst h2
    refine ⟨by simp [hl], fun i hi => ?_⟩
    by_cases hin : i < n
    · rw [hg i hin, List.getElem?_append_left (by omega)]
    · have : i = n := by omega
      subst this
      rw [hy, List.getElem?_append_right (by omega), hl]
      simp
theorem cells_get {w : World} {base : Nat} {a : Addr} {n : Nat} {cs : List Value} (h : w.cells? base a n = some cs) : cs.length = n ∧ ∀ i u, cs[i]? = some u → w.cell? (a.add i) = some u := by
  unfold World.cells? at h
  split at h
  · obtain ⟨hl, hg⟩ := mapM_get _ n cs h
    refine ⟨hl, fun i u hu => ?_⟩
    have hi : i < n := by have := (List.getElem?_eq_some_iff.1 hu).1; omega
    rw [hg i hi, hu]
  · cases h
theorem list_of {α : Type} (p : Nat → α → Prop) : ∀ n : Nat, (∀ i, i < n → ∃ a, p i a) → ∃ l : List α, l.length = n ∧ ∀ i a, l[i]? = some a → p i a := by
  intro n
  induction n with
  | zero => exact fun _ => ⟨[], rfl, fun i a h => by simp at h⟩
  | succ n ih =>
    intro h
    obtain ⟨l, hl, hg⟩ := ih (fun i hi => h i (by omega))
    obtain ⟨a, ha⟩ := h n (by omega)
    refine ⟨l ++ [a], by simp [hl], fun i b hb => ?_⟩
    by_cases hi : i < n
    · rw [List.getElem?_append_left (by omega)] at hb
      exact hg i b hb
    · have hlt := (List.getElem?_eq_some_iff.1 hb).1
      have : i = n := by simp at hlt; omega
      subst this
      rw [List.getElem?_append_right (by omega), hl] at hb
      simp at hb
      subst hb
      exact ha

end Go.Proofs.YtabhngbpkfdeiaaGreatDoor.EOpen
end
section
/- Proved: whatever reads as a datum of a type stands in memory as the machine's data of that kind; for each make of type. No condition. -/
set_option linter.unusedVariables false
namespace Go.Proofs.YtabhngbpkfdeiaaGreatDoor.AbO
open Go Go.ChangeShapes Go.WideShapes Go.Proofs.YtabhngbpkfdeiaaGreatDoor.Ab Go.Proofs.YtabhngbpkfdeiaaGreatDoor.EOpen Go.Proofs.YtabhngbpkfdeiaaGreatDoorW.PrintWords

/-- All that stands. -/
def old (w : World) : Stb := fun b _ => b < w.heap.size

/-- What reads as a datum of type t is data of kind T, and Q holds of it. -/
def Op (P : Program) (t : TypeId) (T : Ty) (Q : T.den → Prop) : Prop :=
  ∀ {H : Type} (enc : TypeId × Value → H) (w : World) (base : Nat) (sp : Nat → Bool) (held : Bool) (fuel : Nat) (cs : List Value) (x : DataW H × List MemPlace),
    DataW.trod enc P w base sp held fuel t cs = some x → ∃ d : T.den, RelT w (old w) T cs d ∧ Q d

variable {P : Program} {t : TypeId}
theorem op_string (ht : P.underlying t = some .string) : Op P t .str (fun s => s.size ≤ maxLen) := by
  intro H enc w base sp held fuel cs x h
  obtain ⟨s, rfl, _, hs⟩ := DataW.trod_string ht h
  exact ⟨s, rfl, hs⟩
theorem op_slice {e : TypeId} {T : Ty} {Q : T.den → Prop} (ht : P.underlying t = some (.slice e)) (hc : P.cellsOf e = T.w) (hpos : 0 < T.w) (h : Op P e T Q) :
    Op P t (.sl T) (fun l : List T.den => l.length ≤ maxLen ∧ ∀ x ∈ l, Q x) := by
  intro H enc w base sp held fuel cs x hx
  rcases DataW.trod_slice ht hx with ⟨rfl, _⟩ | ⟨a, len, cap, elems, rest, n, _, rfl, _, hb, hl, hm, hlen, hel, _, _⟩
  · exact ⟨[], ⟨_, rfl, .inl ⟨rfl, rfl⟩⟩, Nat.zero_le _, fun x hx => by cases hx⟩
  · obtain ⟨l, hll, hg⟩ := list_of (α := T.den) (fun i a' => Q a' ∧ ∃ c, w.cells? base (a.add (i * P.cellsOf e)) (P.cellsOf e) = some c ∧ RelT w (old w) T c a') len (fun i hi => by
      have h1 := hel i hi
      rw [List.getElem?_eq_getElem (by omega)] at h1
      obtain ⟨c, hc1, hc2⟩ := Option.bind_eq_some_iff.1 h1
      obtain ⟨a', hk, hq⟩ := h enc w base sp held n c _ hc2
      exact ⟨a', hq, c, hc1, hk⟩)
    obtain ⟨b, o, s⟩ := a
    have hspot : 0 < len → s = none := fun hpl => by
      obtain ⟨_, c, hc1, hk⟩ := hg 0 _ (List.getElem?_eq_getElem (by omega))
      obtain ⟨hl1, hg1⟩ := cells_get hc1
      have := RelT.length T _ _ hk
      have h0 := hg1 0 _ (List.getElem?_eq_getElem (by omega))
      rw [Nat.zero_mul] at h0
      simp only [Addr.add, if_true] at h0
      unfold World.cell? at h0
      split at h0
      · split at h0
        · cases h0
        · rename_i hs; simpa using hs
      · cases h0
    refine ⟨l, ⟨_, rfl, .inr ⟨b, o, s, cap, by rw [hll], by omega, fun i x hi => ?_⟩⟩, by omega, fun y hy => ?_⟩
    · have hi' := (List.getElem?_eq_some_iff.1 hi).1
      obtain rfl := hspot (by omega)
      obtain ⟨_, c, hc1, hk⟩ := hg i x hi
      rw [hc] at hc1
      obtain ⟨hl1, hg1⟩ := cells_get hc1
      refine ⟨rfl, c, hk, fun j v hj => ?_⟩
      have := hg1 j v hj
      rw [add_add, Addr.add_lit, show o + (i * T.w + j) = o + i * T.w + j by omega] at this
      exact ⟨World.block_lt_of_cell? w _ this, this⟩
    · obtain ⟨i, hi⟩ := List.getElem?_of_mem hy
      exact (hg i y hi).1

/-- From a parameter's reading to the machine's argument. -/
theorem arg_rel {H : Type} {enc : TypeId × Value → H} {w : World} {base : Nat} {sp : Nat → Bool} {held : Bool} {v : Value} {d : DataW H} {p : List MemPlace} {T : Ty} {Q : T.den → Prop} (hO : Op P t T Q) (hv : if T.agg then v = .agg v.cells else v.cells.toList = [v])
    (h : DataW.Trod enc P w base sp held t v d p) : ∃ x : T.den, RelA w (old w) noQ noBet v (inj T x) ∧ Q x := by
  obtain ⟨fuel, hf⟩ := h
  obtain ⟨x, hx, hq⟩ := hO enc w base sp held fuel _ _ hf
  exact ⟨x, rel_injA hx (by
    cases hT : T.agg with
    | true => rw [hT] at hv; simpa using hv
    | false => rw [hT] at hv; simpa using hv), hq⟩
end Go.Proofs.YtabhngbpkfdeiaaGreatDoor.AbO
end
section
/- How the parameters of the laws stand in memory, and that the world in which a law is called holds the tables of unicode/utf8. No condition. -/
set_option linter.unusedVariables false
namespace Go.Proofs.YtabhngbpkfdeiaaGreatDoor.SpR
open Go Go.ChangeShapes Go.WideShapes Go.Proofs.YtabhngbpkfdeiaaGreatDoor.Ab Go.Proofs.YtabhngbpkfdeiaaGreatDoor.AbO Go.Proofs.YtabhngbpkfdeiaaGreatDoor.Tb

theorem own : ownKnob Tryz.prog.godebug = none := by kernel_rfl
theorem laidOut : laidOutB Tryz.prog = true := by kernel_rfl
theorem c_str : Tryz.prog.cellsOf 9 = 1 := by kernel_rfl
def QT (s : ByteArray) : Prop := s.size ≤ maxLen
def QL (l : List ByteArray) : Prop := l.length ≤ maxLen ∧ ∀ s ∈ l, QT s
abbrev Prm := Int × ByteArray × ByteArray × Int × List ByteArray × List ByteArray
theorem op_s : AbO.Op Tryz.prog 9 .str QT := op_string Tryz.underlying9
theorem op_ss : AbO.Op Tryz.prog 22 (.sl .str) QL := op_slice (T := .str) Tryz.underlying22 c_str (by decide) op_s
theorem x260 : U8Extra Tryz.prog Tryz.lays260_ren := ⟨by kernel_rfl, by kernel_rfl, by kernel_rfl, by kernel_rfl, by kernel_rfl, by kernel_rfl, by kernel_rfl⟩
/-- The world of the call: the tables as their initialisers lay them. -/
theorem G_of {W : World} (hL : laidMetH Tryz.prog [("unicode/utf8.acceptRanges", Rows.laid_unicode_utf8_acceptRanges), ("unicode/utf8.first", Rows.laid_unicode_utf8_first)] W) (hS : W.ShapedOpen Tryz.prog) : EGlob.G W := by
  have h1 : Lib.VarReads Tryz.prog W "unicode/utf8.first" Rows.laid_unicode_utf8_first := Lib.laidMet.reads hL (.tail _ (.head _))
  have h2 : Lib.VarReads Tryz.prog W "unicode/utf8.acceptRanges" Rows.laid_unicode_utf8_acceptRanges := Lib.laidMet.reads hL (.head _)
  have e1 : Rows.laid_unicode_utf8_first = Lib.firstData := by kernel_rfl
  have e2 : Rows.laid_unicode_utf8_acceptRanges (H := Unit) = Lib.acceptData := by kernel_rfl
  rw [e1] at h1
  rw [e2] at h2
  exact ⟨utf8Tabs_of_reads Tryz.lays260 x260 h1 h2, Tryz.laysM146.s1_3 W hS⟩

/-- The witness' world. -/
noncomputable def laidWorld (os : Os) : World :=
  let w0 := World.holding Tryz.prog os ⟨#[], #[], []⟩
  let put (h : Array Obj) (g : Nat) (cs : Array Value) : Array Obj := h.modify g fun
    | .cells _ t frozen => .cells cs t frozen
    | o => o
  let h1 := put w0.heap 0 (Lib.firstTab.map fun z => Value.int .u8 z).toArray
  let h2 := put h1 1 ((List.range 16).flatMap fun i => [Value.int .u8 (Lib.accLo i), Value.int .u8 (Lib.accHi i)]).toArray
  { w0 with heap := h2 }

/-- What a law that answers true gives: its call, whatever stands. -/
theorem call_true {f : FuncId} {xs : List A} {W : World} {args : Array Value} (h : callW W0 f xs = some (injRs [RT.d .bool] true)) (hG : EGlob.G W) (ha : All2 (RelA W (old W) noQ noBet) args.toList xs) (hio : iosOf W0 f = [] := by kernel_rfl) :
    Calls Tryz.prog f args W fun e W' => e = .returned (.bool true) ∧ RowKit.Below W.heap.size W W' := by
  refine (callW_ok w_ok h hio W (old W) noQ args hG (fun b o hb => hb) (fun b o hb => hb.elim) ha).mono ?_
  rintro e w' ⟨cs, obs, St', rfl, hb, _, _, _, hr, _⟩
  match cs, obs, hr with
  | [], [], hr => simp [injRs, RelRVs] at hr
  | [], _ :: _, hr => simp [injRs, RelRVs] at hr
  | _ :: _, [], hr => simp [injRs, RelRVs] at hr
  | [_], _ :: _ :: _, hr => simp [injRs, RelRVs] at hr
  | _ :: _ :: _, _ :: _, hr => simp [injRs, RelRVs] at hr
  | [c], [ob], hr =>
    obtain ⟨⟨_, hc⟩, _⟩ := hr
    have : c = .bool true := hc.1
    rw [this]
    exact ⟨rfl, hb⟩

end Go.Proofs.YtabhngbpkfdeiaaGreatDoor.SpR
end
section
/- What each function comes to on data: printed equations. No condition. -/
set_option linter.unusedVariables false
set_option maxRecDepth 100000
namespace Go.Proofs.YtabhngbpkfdeiaaGreatDoor.Tb
open Go Go.Proofs.YtabhngbpkfdeiaaGreatDoor.Ab
noncomputable def td10_2 : List Item := (findT (code Tryz.f10) [] 2).getD []
noncomputable def l10_2 (x0 : List ByteArray) (x1 : Int) : Option (List RV) := cutW W0 n10 td10_2 { fr := [((0 : Nat), F.a (A.c (C.sl Ty.str x0))), ((3 : Nat), F.a (A.c (C.sc (Go.Value.int Go.IntKind.i64 x1))))], mem := [], nx := (0 : Nat) }
theorem e10 (a0 : List ByteArray) : callG W0 (callW W0) (cutW W0) 10 [inj (Ty.sl Ty.str) a0] = l10_2 a0 (0 : Int) := by kernel_rfl
theorem q10_2 (x0 : List ByteArray) (x1 : Int) : cutG W0 (callW W0) (cutW W0) n10 td10_2 { fr := [((0 : Nat), F.a (A.c (C.sl Ty.str x0))), ((3 : Nat), F.a (A.c (C.sc (Go.Value.int Go.IntKind.i64 x1))))], mem := [], nx := (0 : Nat) } = ifs (decide (x1 < (↑(List.length x0) : Int)) = true) (ifs ((0 : Int) ≤ x1) (Option.bind x0[Int.toNat x1]? fun r => ifs (decide ((↑(ByteArray.size r) : Int) > (300 : Int)) = true) (some (injRs [RT.d Ty.bool] false)) (l10_2 x0 (Go.IntKind.wrap Go.IntKind.i64 (x1 + (1 : Int))))) none) (some (injRs [RT.d Ty.bool] (decide ((↑(List.length x0) : Int) ≤ (60 : Int))))) := by kernel_rfl
noncomputable def td18_4 : List Item := (findT (code Tryz.f18) [] 4).getD []
noncomputable def l18_4 (x0 : List ByteArray) (x1 : List ByteArray) (x2 : Int) : Option (List RV) := cutW W0 n18 td18_4 { fr := [((0 : Nat), F.a (A.c (C.sl Ty.str x0))), ((1 : Nat), F.a (A.c (C.sl Ty.str x1))), ((5 : Nat), F.a (A.c (C.sc (Go.Value.int Go.IntKind.i64 x2))))], mem := [], nx := (0 : Nat) }
theorem e18 (a0 : List ByteArray) (a1 : List ByteArray) : callG W0 (callW W0) (cutW W0) 18 [inj (Ty.sl Ty.str) a0, inj (Ty.sl Ty.str) a1] = ifs (((↑(List.length a0) : Int) != (↑(List.length a1) : Int)) = true) (some (injRs [RT.d Ty.bool] false)) (l18_4 a0 a1 (0 : Int)) := by kernel_rfl
theorem q18_4 (x0 : List ByteArray) (x1 : List ByteArray) (x2 : Int) : cutG W0 (callW W0) (cutW W0) n18 td18_4 { fr := [((0 : Nat), F.a (A.c (C.sl Ty.str x0))), ((1 : Nat), F.a (A.c (C.sl Ty.str x1))), ((5 : Nat), F.a (A.c (C.sc (Go.Value.int Go.IntKind.i64 x2))))], mem := [], nx := (0 : Nat) } = ifs (decide (x2 < (↑(List.length x0) : Int)) = true) (ifs ((0 : Int) ≤ x2) (Option.bind x0[Int.toNat x2]? fun r => ifs ((0 : Int) ≤ x2) (Option.bind x1[Int.toNat x2]? fun r_1 => ifs ((!ByteArray.toList r == ByteArray.toList r_1) = true) (some (injRs [RT.d Ty.bool] false)) (l18_4 x0 x1 (Go.IntKind.wrap Go.IntKind.i64 (x2 + (1 : Int))))) none) none) (some (injRs [RT.d Ty.bool] true)) := by kernel_rfl
noncomputable def td102_4 : List Item := (findT (code Tryz.f102) [] 4).getD []
noncomputable def l102_4 (x0 : List ByteArray) (x1 : List ByteArray) (x2 : Int) (x3 : Int) : Option (List RV) := cutW W0 n102 td102_4 { fr := [((0 : Nat), F.a (A.c (C.sl Ty.str x0))), ((1 : Nat), F.a (A.c (C.sl Ty.str x1))), ((12 : Nat), F.a (A.c (C.sc (Go.Value.int Go.IntKind.i64 x2)))), ((13 : Nat), F.a (A.c (C.sc (Go.Value.int Go.IntKind.i64 x3))))], mem := [], nx := (0 : Nat) }
theorem e102 (a0 : List ByteArray) (a1 : List ByteArray) : callG W0 (callW W0) (cutW W0) 102 [inj (Ty.sl Ty.str) a0, inj (Ty.sl Ty.str) a1] = ifs (((↑(List.length a0) : Int) != (↑(List.length a1) : Int)) = true) (some (injRs [RT.d Ty.bool] false)) (l102_4 a0 a1 (↑(List.length a0) : Int) (0 : Int)) := by kernel_rfl
theorem q102_4 (x0 : List ByteArray) (x1 : List ByteArray) (x2 : Int) (x3 : Int) : cutG W0 (callW W0) (cutW W0) n102 td102_4 { fr := [((0 : Nat), F.a (A.c (C.sl Ty.str x0))), ((1 : Nat), F.a (A.c (C.sl Ty.str x1))), ((12 : Nat), F.a (A.c (C.sc (Go.Value.int Go.IntKind.i64 x2)))), ((13 : Nat), F.a (A.c (C.sc (Go.Value.int Go.IntKind.i64 x3))))], mem := [], nx := (0 : Nat) } = ifs (decide (x3 < x2) = true) (ifs ((0 : Int) ≤ x3) (Option.bind x0[Int.toNat x3]? fun r => ifs ((0 : Int) ≤ x3) (Option.bind x1[Int.toNat x3]? fun r_1 => ifs ((!ByteArray.toList r == ByteArray.toList r_1) = true) (some (injRs [RT.d Ty.bool] false)) (l102_4 x0 x1 x2 (Go.IntKind.wrap Go.IntKind.i64 (x3 + (1 : Int))))) none) none) (some (injRs [RT.d Ty.bool] true)) := by kernel_rfl
theorem e63 (a0 : List ByteArray) (a1 : List ByteArray) : callG W0 (callW W0) (cutW W0) 63 [inj (Ty.sl Ty.str) a0, inj (Ty.sl Ty.str) a1] = Option.bind (cR (nat_lit 102) [RT.d Ty.bool] [inj (Ty.sl Ty.str) a0, inj (Ty.sl Ty.str) a1]) fun r => some (injRs [RT.d Ty.bool] r) := by kernel_rfl
theorem e120 (a0 : ByteArray) : callG W0 (callW W0) (cutW W0) 120 [inj Ty.str a0] = Option.bind (cR (nat_lit 121) [RT.d Ty.bool] [inj Ty.str a0]) fun r => some (injRs [RT.d Ty.bool] !r) := by kernel_rfl
theorem e118 (a0 : ByteArray) : callG W0 (callW W0) (cutW W0) 118 [inj Ty.str a0] = Option.bind (cR (nat_lit 119) [RT.d Ty.bool] [inj Ty.str a0]) fun r => some (injRs [RT.d Ty.bool] !r) := by kernel_rfl
noncomputable def td136a_2 : List Item := (findT (code Tryz.f136) [] 2).getD []
noncomputable def l136a_2 (x0 : List ByteArray) (x1 : Int) (x2 : Int) : Option (List RV) := cutW W0 n136 td136a_2 { fr := [((0 : Nat), F.a (A.c (C.sl Ty.str x0))), ((1 : Nat), F.a (A.c (C.cl (120 : Nat) []))), ((7 : Nat), F.a (A.c (C.sc (Go.Value.int Go.IntKind.i64 x1)))), ((8 : Nat), F.a (A.c (C.sc (Go.Value.int Go.IntKind.i64 x2))))], mem := [], nx := (0 : Nat) }
theorem e136a (a0 : List ByteArray) : callG W0 (callW W0) (cutW W0) 136 [inj (Ty.sl Ty.str) a0, A.c (C.cl (120 : Nat) [])] = l136a_2 a0 (↑(List.length a0) : Int) (0 : Int) := by kernel_rfl
theorem q136a_2 (x0 : List ByteArray) (x1 : Int) (x2 : Int) : cutG W0 (callW W0) (cutW W0) n136 td136a_2 { fr := [((0 : Nat), F.a (A.c (C.sl Ty.str x0))), ((1 : Nat), F.a (A.c (C.cl (120 : Nat) []))), ((7 : Nat), F.a (A.c (C.sc (Go.Value.int Go.IntKind.i64 x1)))), ((8 : Nat), F.a (A.c (C.sc (Go.Value.int Go.IntKind.i64 x2))))], mem := [], nx := (0 : Nat) } = ifs (decide (x2 < x1) = true) (ifs ((0 : Int) ≤ x2) (Option.bind x0[Int.toNat x2]? fun r => Option.bind (cR (nat_lit 120) [RT.d Ty.bool] [inj Ty.str r]) fun r => ifs (r = true) (some (injRs [RT.d (Ty.int Go.IntKind.i64)] x2)) (l136a_2 x0 x1 (Go.IntKind.wrap Go.IntKind.i64 (x2 + (1 : Int))))) none) (some (injRs [RT.d (Ty.int Go.IntKind.i64)] (-1 : Int))) := by kernel_rfl
theorem e106a (a0 : List ByteArray) : callG W0 (callW W0) (cutW W0) 106 [inj (Ty.sl Ty.str) a0, A.c (C.cl (120 : Nat) [])] = Option.bind (cR (nat_lit 136) [RT.d (Ty.int Go.IntKind.i64)] [inj (Ty.sl Ty.str) a0, A.c (C.cl (120 : Nat) [])]) fun r => some (injRs [RT.d Ty.bool] (decide (r ≥ (0 : Int)))) := by kernel_rfl
noncomputable def td136b_2 : List Item := (findT (code Tryz.f136) [] 2).getD []
noncomputable def l136b_2 (x0 : List ByteArray) (x1 : Int) (x2 : Int) : Option (List RV) := cutW W0 n136 td136b_2 { fr := [((0 : Nat), F.a (A.c (C.sl Ty.str x0))), ((1 : Nat), F.a (A.c (C.cl (118 : Nat) []))), ((7 : Nat), F.a (A.c (C.sc (Go.Value.int Go.IntKind.i64 x1)))), ((8 : Nat), F.a (A.c (C.sc (Go.Value.int Go.IntKind.i64 x2))))], mem := [], nx := (0 : Nat) }
theorem e136b (a0 : List ByteArray) : callG W0 (callW W0) (cutW W0) 136 [inj (Ty.sl Ty.str) a0, A.c (C.cl (118 : Nat) [])] = l136b_2 a0 (↑(List.length a0) : Int) (0 : Int) := by kernel_rfl
theorem q136b_2 (x0 : List ByteArray) (x1 : Int) (x2 : Int) : cutG W0 (callW W0) (cutW W0) n136 td136b_2 { fr := [((0 : Nat), F.a (A.c (C.sl Ty.str x0))), ((1 : Nat), F.a (A.c (C.cl (118 : Nat) []))), ((7 : Nat), F.a (A.c (C.sc (Go.Value.int Go.IntKind.i64 x1)))), ((8 : Nat), F.a (A.c (C.sc (Go.Value.int Go.IntKind.i64 x2))))], mem := [], nx := (0 : Nat) } = ifs (decide (x2 < x1) = true) (ifs ((0 : Int) ≤ x2) (Option.bind x0[Int.toNat x2]? fun r => Option.bind (cR (nat_lit 118) [RT.d Ty.bool] [inj Ty.str r]) fun r => ifs (r = true) (some (injRs [RT.d (Ty.int Go.IntKind.i64)] x2)) (l136b_2 x0 x1 (Go.IntKind.wrap Go.IntKind.i64 (x2 + (1 : Int))))) none) (some (injRs [RT.d (Ty.int Go.IntKind.i64)] (-1 : Int))) := by kernel_rfl
theorem e106b (a0 : List ByteArray) : callG W0 (callW W0) (cutW W0) 106 [inj (Ty.sl Ty.str) a0, A.c (C.cl (118 : Nat) [])] = Option.bind (cR (nat_lit 136) [RT.d (Ty.int Go.IntKind.i64)] [inj (Ty.sl Ty.str) a0, A.c (C.cl (118 : Nat) [])]) fun r => some (injRs [RT.d Ty.bool] (decide (r ≥ (0 : Int)))) := by kernel_rfl
theorem e83 (a0 : ByteArray) : callG W0 (callW W0) (cutW W0) 83 [inj Ty.str a0] = Option.bind (cR (nat_lit 117) [RT.own (9 : Go.TypeId) Ty.str] [inj Ty.str a0, inj Ty.str { data := #[(47 : UInt8)] }]) fun r => ifs (decide ((↑(ByteArray.size a0) : Int) ≤ (200 : Int)) = true) (ifs (decide ((↑(List.length r) : Int) ≤ (16 : Int)) = true) (Option.bind (cR (nat_lit 106) [RT.d Ty.bool] [inj (Ty.sl Ty.str) (List.take (List.length r) r), A.c (C.cl (118 : Nat) [])]) fun r => some (injRs [RT.d Ty.bool] !r)) (some (injRs [RT.d Ty.bool] false))) (some (injRs [RT.d Ty.bool] false)) := by kernel_rfl
theorem e84 (a0 : List ByteArray) : callG W0 (callW W0) (cutW W0) 84 [inj (Ty.sl Ty.str) a0] = ifs (decide ((↑(List.length a0) : Int) > (2000 : Int)) = true) (some (injRs [RT.d (Ty.int Go.IntKind.i64)] (4 : Int))) (Option.bind (cR (nat_lit 106) [RT.d Ty.bool] [inj (Ty.sl Ty.str) a0, A.c (C.cl (120 : Nat) [])]) fun r => ifs (r = true) (some (injRs [RT.d (Ty.int Go.IntKind.i64)] (6 : Int))) (some (injRs [RT.d (Ty.int Go.IntKind.i64)] (0 : Int)))) := by kernel_rfl
theorem e42 (a0 : Int × ByteArray × ByteArray × Int × List ByteArray × List ByteArray) : callG W0 (callW W0) (cutW W0) 42 [inj ty40 a0] = ifs ((a0.snd.snd.snd.fst == (0 : Int)) = true) (ifs (decide (a0.fst < (1 : Int)) = false) (ifs (decide (a0.fst > (6 : Int)) = false) (ifs ((a0.fst != (5 : Int)) = true) (ifs ((!ByteArray.toList a0.snd.snd.fst == ByteArray.toList { data := #[] }) = false) (ifs ((a0.fst != (6 : Int)) = true) (ifs ((!Go.IntKind.wrap Go.IntKind.i64 ((↑(List.length a0.snd.snd.snd.snd.fst) : Int) + (↑(List.length a0.snd.snd.snd.snd.snd) : Int)) == (0 : Int)) = true) (some (injRs [RT.d (Ty.int Go.IntKind.i64)] (2 : Int))) (Option.bind (cR (nat_lit 83) [RT.d Ty.bool] [inj Ty.str a0.snd.fst]) fun r => ifs ((!r) = false) (ifs ((a0.fst == (5 : Int)) = true) (Option.bind (cR (nat_lit 83) [RT.d Ty.bool] [inj Ty.str a0.snd.snd.fst]) fun r => ifs ((!r) = false) (ifs ((ByteArray.toList a0.snd.snd.fst == ByteArray.toList a0.snd.fst) = true) (some (injRs [RT.d (Ty.int Go.IntKind.i64)] (8 : Int))) (ifs ((a0.fst == (6 : Int)) = true) (ifs (decide (a0.snd.snd.snd.fst < (0 : Int)) = false) (ifs ((Go.IntKind.wrap Go.IntKind.i64 ((↑(List.length a0.snd.snd.snd.snd.fst) : Int) + (↑(List.length a0.snd.snd.snd.snd.snd) : Int)) == (0 : Int)) = false) (Option.bind (cR (nat_lit 84) [RT.d (Ty.int Go.IntKind.i64)] [inj (Ty.sl Ty.str) a0.snd.snd.snd.snd.fst]) fun r => ifs ((r != (0 : Int)) = false) (Option.bind (cR (nat_lit 84) [RT.d (Ty.int Go.IntKind.i64)] [inj (Ty.sl Ty.str) a0.snd.snd.snd.snd.snd]) fun r => ifs ((r != (0 : Int)) = true) (some (injRs [RT.d (Ty.int Go.IntKind.i64)] (6 : Int))) (some (injRs [RT.d (Ty.int Go.IntKind.i64)] (0 : Int)))) (some (injRs [RT.d (Ty.int Go.IntKind.i64)] (6 : Int)))) (some (injRs [RT.d (Ty.int Go.IntKind.i64)] (6 : Int)))) (some (injRs [RT.d (Ty.int Go.IntKind.i64)] (6 : Int)))) (some (injRs [RT.d (Ty.int Go.IntKind.i64)] (0 : Int))))) (some (injRs [RT.d (Ty.int Go.IntKind.i64)] (8 : Int)))) (ifs ((a0.fst == (6 : Int)) = true) (ifs (decide (a0.snd.snd.snd.fst < (0 : Int)) = false) (ifs ((Go.IntKind.wrap Go.IntKind.i64 ((↑(List.length a0.snd.snd.snd.snd.fst) : Int) + (↑(List.length a0.snd.snd.snd.snd.snd) : Int)) == (0 : Int)) = false) (Option.bind (cR (nat_lit 84) [RT.d (Ty.int Go.IntKind.i64)] [inj (Ty.sl Ty.str) a0.snd.snd.snd.snd.fst]) fun r => ifs ((r != (0 : Int)) = false) (Option.bind (cR (nat_lit 84) [RT.d (Ty.int Go.IntKind.i64)] [inj (Ty.sl Ty.str) a0.snd.snd.snd.snd.snd]) fun r => ifs ((r != (0 : Int)) = true) (some (injRs [RT.d (Ty.int Go.IntKind.i64)] (6 : Int))) (some (injRs [RT.d (Ty.int Go.IntKind.i64)] (0 : Int)))) (some (injRs [RT.d (Ty.int Go.IntKind.i64)] (6 : Int)))) (some (injRs [RT.d (Ty.int Go.IntKind.i64)] (6 : Int)))) (some (injRs [RT.d (Ty.int Go.IntKind.i64)] (6 : Int)))) (some (injRs [RT.d (Ty.int Go.IntKind.i64)] (0 : Int))))) (some (injRs [RT.d (Ty.int Go.IntKind.i64)] (8 : Int))))) (Option.bind (cR (nat_lit 83) [RT.d Ty.bool] [inj Ty.str a0.snd.fst]) fun r => ifs ((!r) = false) (ifs ((a0.fst == (5 : Int)) = true) (Option.bind (cR (nat_lit 83) [RT.d Ty.bool] [inj Ty.str a0.snd.snd.fst]) fun r => ifs ((!r) = false) (ifs ((ByteArray.toList a0.snd.snd.fst == ByteArray.toList a0.snd.fst) = true) (some (injRs [RT.d (Ty.int Go.IntKind.i64)] (8 : Int))) (ifs ((a0.fst == (6 : Int)) = true) (ifs (decide (a0.snd.snd.snd.fst < (0 : Int)) = false) (ifs ((Go.IntKind.wrap Go.IntKind.i64 ((↑(List.length a0.snd.snd.snd.snd.fst) : Int) + (↑(List.length a0.snd.snd.snd.snd.snd) : Int)) == (0 : Int)) = false) (Option.bind (cR (nat_lit 84) [RT.d (Ty.int Go.IntKind.i64)] [inj (Ty.sl Ty.str) a0.snd.snd.snd.snd.fst]) fun r => ifs ((r != (0 : Int)) = false) (Option.bind (cR (nat_lit 84) [RT.d (Ty.int Go.IntKind.i64)] [inj (Ty.sl Ty.str) a0.snd.snd.snd.snd.snd]) fun r => ifs ((r != (0 : Int)) = true) (some (injRs [RT.d (Ty.int Go.IntKind.i64)] (6 : Int))) (some (injRs [RT.d (Ty.int Go.IntKind.i64)] (0 : Int)))) (some (injRs [RT.d (Ty.int Go.IntKind.i64)] (6 : Int)))) (some (injRs [RT.d (Ty.int Go.IntKind.i64)] (6 : Int)))) (some (injRs [RT.d (Ty.int Go.IntKind.i64)] (6 : Int)))) (some (injRs [RT.d (Ty.int Go.IntKind.i64)] (0 : Int))))) (some (injRs [RT.d (Ty.int Go.IntKind.i64)] (8 : Int)))) (ifs ((a0.fst == (6 : Int)) = true) (ifs (decide (a0.snd.snd.snd.fst < (0 : Int)) = false) (ifs ((Go.IntKind.wrap Go.IntKind.i64 ((↑(List.length a0.snd.snd.snd.snd.fst) : Int) + (↑(List.length a0.snd.snd.snd.snd.snd) : Int)) == (0 : Int)) = false) (Option.bind (cR (nat_lit 84) [RT.d (Ty.int Go.IntKind.i64)] [inj (Ty.sl Ty.str) a0.snd.snd.snd.snd.fst]) fun r => ifs ((r != (0 : Int)) = false) (Option.bind (cR (nat_lit 84) [RT.d (Ty.int Go.IntKind.i64)] [inj (Ty.sl Ty.str) a0.snd.snd.snd.snd.snd]) fun r => ifs ((r != (0 : Int)) = true) (some (injRs [RT.d (Ty.int Go.IntKind.i64)] (6 : Int))) (some (injRs [RT.d (Ty.int Go.IntKind.i64)] (0 : Int)))) (some (injRs [RT.d (Ty.int Go.IntKind.i64)] (6 : Int)))) (some (injRs [RT.d (Ty.int Go.IntKind.i64)] (6 : Int)))) (some (injRs [RT.d (Ty.int Go.IntKind.i64)] (6 : Int)))) (some (injRs [RT.d (Ty.int Go.IntKind.i64)] (0 : Int))))) (some (injRs [RT.d (Ty.int Go.IntKind.i64)] (8 : Int))))) (some (injRs [RT.d (Ty.int Go.IntKind.i64)] (2 : Int)))) (ifs ((a0.fst != (6 : Int)) = true) (ifs ((!Go.IntKind.wrap Go.IntKind.i64 ((↑(List.length a0.snd.snd.snd.snd.fst) : Int) + (↑(List.length a0.snd.snd.snd.snd.snd) : Int)) == (0 : Int)) = true) (some (injRs [RT.d (Ty.int Go.IntKind.i64)] (2 : Int))) (Option.bind (cR (nat_lit 83) [RT.d Ty.bool] [inj Ty.str a0.snd.fst]) fun r => ifs ((!r) = false) (ifs ((a0.fst == (5 : Int)) = true) (Option.bind (cR (nat_lit 83) [RT.d Ty.bool] [inj Ty.str a0.snd.snd.fst]) fun r => ifs ((!r) = false) (ifs ((ByteArray.toList a0.snd.snd.fst == ByteArray.toList a0.snd.fst) = true) (some (injRs [RT.d (Ty.int Go.IntKind.i64)] (8 : Int))) (ifs ((a0.fst == (6 : Int)) = true) (ifs (decide (a0.snd.snd.snd.fst < (0 : Int)) = false) (ifs ((Go.IntKind.wrap Go.IntKind.i64 ((↑(List.length a0.snd.snd.snd.snd.fst) : Int) + (↑(List.length a0.snd.snd.snd.snd.snd) : Int)) == (0 : Int)) = false) (Option.bind (cR (nat_lit 84) [RT.d (Ty.int Go.IntKind.i64)] [inj (Ty.sl Ty.str) a0.snd.snd.snd.snd.fst]) fun r => ifs ((r != (0 : Int)) = false) (Option.bind (cR (nat_lit 84) [RT.d (Ty.int Go.IntKind.i64)] [inj (Ty.sl Ty.str) a0.snd.snd.snd.snd.snd]) fun r => ifs ((r != (0 : Int)) = true) (some (injRs [RT.d (Ty.int Go.IntKind.i64)] (6 : Int))) (some (injRs [RT.d (Ty.int Go.IntKind.i64)] (0 : Int)))) (some (injRs [RT.d (Ty.int Go.IntKind.i64)] (6 : Int)))) (some (injRs [RT.d (Ty.int Go.IntKind.i64)] (6 : Int)))) (some (injRs [RT.d (Ty.int Go.IntKind.i64)] (6 : Int)))) (some (injRs [RT.d (Ty.int Go.IntKind.i64)] (0 : Int))))) (some (injRs [RT.d (Ty.int Go.IntKind.i64)] (8 : Int)))) (ifs ((a0.fst == (6 : Int)) = true) (ifs (decide (a0.snd.snd.snd.fst < (0 : Int)) = false) (ifs ((Go.IntKind.wrap Go.IntKind.i64 ((↑(List.length a0.snd.snd.snd.snd.fst) : Int) + (↑(List.length a0.snd.snd.snd.snd.snd) : Int)) == (0 : Int)) = false) (Option.bind (cR (nat_lit 84) [RT.d (Ty.int Go.IntKind.i64)] [inj (Ty.sl Ty.str) a0.snd.snd.snd.snd.fst]) fun r => ifs ((r != (0 : Int)) = false) (Option.bind (cR (nat_lit 84) [RT.d (Ty.int Go.IntKind.i64)] [inj (Ty.sl Ty.str) a0.snd.snd.snd.snd.snd]) fun r => ifs ((r != (0 : Int)) = true) (some (injRs [RT.d (Ty.int Go.IntKind.i64)] (6 : Int))) (some (injRs [RT.d (Ty.int Go.IntKind.i64)] (0 : Int)))) (some (injRs [RT.d (Ty.int Go.IntKind.i64)] (6 : Int)))) (some (injRs [RT.d (Ty.int Go.IntKind.i64)] (6 : Int)))) (some (injRs [RT.d (Ty.int Go.IntKind.i64)] (6 : Int)))) (some (injRs [RT.d (Ty.int Go.IntKind.i64)] (0 : Int))))) (some (injRs [RT.d (Ty.int Go.IntKind.i64)] (8 : Int))))) (Option.bind (cR (nat_lit 83) [RT.d Ty.bool] [inj Ty.str a0.snd.fst]) fun r => ifs ((!r) = false) (ifs ((a0.fst == (5 : Int)) = true) (Option.bind (cR (nat_lit 83) [RT.d Ty.bool] [inj Ty.str a0.snd.snd.fst]) fun r => ifs ((!r) = false) (ifs ((ByteArray.toList a0.snd.snd.fst == ByteArray.toList a0.snd.fst) = true) (some (injRs [RT.d (Ty.int Go.IntKind.i64)] (8 : Int))) (ifs ((a0.fst == (6 : Int)) = true) (ifs (decide (a0.snd.snd.snd.fst < (0 : Int)) = false) (ifs ((Go.IntKind.wrap Go.IntKind.i64 ((↑(List.length a0.snd.snd.snd.snd.fst) : Int) + (↑(List.length a0.snd.snd.snd.snd.snd) : Int)) == (0 : Int)) = false) (Option.bind (cR (nat_lit 84) [RT.d (Ty.int Go.IntKind.i64)] [inj (Ty.sl Ty.str) a0.snd.snd.snd.snd.fst]) fun r => ifs ((r != (0 : Int)) = false) (Option.bind (cR (nat_lit 84) [RT.d (Ty.int Go.IntKind.i64)] [inj (Ty.sl Ty.str) a0.snd.snd.snd.snd.snd]) fun r => ifs ((r != (0 : Int)) = true) (some (injRs [RT.d (Ty.int Go.IntKind.i64)] (6 : Int))) (some (injRs [RT.d (Ty.int Go.IntKind.i64)] (0 : Int)))) (some (injRs [RT.d (Ty.int Go.IntKind.i64)] (6 : Int)))) (some (injRs [RT.d (Ty.int Go.IntKind.i64)] (6 : Int)))) (some (injRs [RT.d (Ty.int Go.IntKind.i64)] (6 : Int)))) (some (injRs [RT.d (Ty.int Go.IntKind.i64)] (0 : Int))))) (some (injRs [RT.d (Ty.int Go.IntKind.i64)] (8 : Int)))) (ifs ((a0.fst == (6 : Int)) = true) (ifs (decide (a0.snd.snd.snd.fst < (0 : Int)) = false) (ifs ((Go.IntKind.wrap Go.IntKind.i64 ((↑(List.length a0.snd.snd.snd.snd.fst) : Int) + (↑(List.length a0.snd.snd.snd.snd.snd) : Int)) == (0 : Int)) = false) (Option.bind (cR (nat_lit 84) [RT.d (Ty.int Go.IntKind.i64)] [inj (Ty.sl Ty.str) a0.snd.snd.snd.snd.fst]) fun r => ifs ((r != (0 : Int)) = false) (Option.bind (cR (nat_lit 84) [RT.d (Ty.int Go.IntKind.i64)] [inj (Ty.sl Ty.str) a0.snd.snd.snd.snd.snd]) fun r => ifs ((r != (0 : Int)) = true) (some (injRs [RT.d (Ty.int Go.IntKind.i64)] (6 : Int))) (some (injRs [RT.d (Ty.int Go.IntKind.i64)] (0 : Int)))) (some (injRs [RT.d (Ty.int Go.IntKind.i64)] (6 : Int)))) (some (injRs [RT.d (Ty.int Go.IntKind.i64)] (6 : Int)))) (some (injRs [RT.d (Ty.int Go.IntKind.i64)] (6 : Int)))) (some (injRs [RT.d (Ty.int Go.IntKind.i64)] (0 : Int))))) (some (injRs [RT.d (Ty.int Go.IntKind.i64)] (8 : Int)))))) (some (injRs [RT.d (Ty.int Go.IntKind.i64)] (2 : Int)))) (some (injRs [RT.d (Ty.int Go.IntKind.i64)] (2 : Int)))) (ifs (decide (a0.fst < (1 : Int)) = false) (ifs (decide (a0.fst > (6 : Int)) = false) (ifs ((a0.fst != (5 : Int)) = true) (ifs ((!ByteArray.toList a0.snd.snd.fst == ByteArray.toList { data := #[] }) = false) (ifs ((a0.fst != (6 : Int)) = true) (some (injRs [RT.d (Ty.int Go.IntKind.i64)] (2 : Int))) (Option.bind (cR (nat_lit 83) [RT.d Ty.bool] [inj Ty.str a0.snd.fst]) fun r => ifs ((!r) = false) (ifs ((a0.fst == (5 : Int)) = true) (Option.bind (cR (nat_lit 83) [RT.d Ty.bool] [inj Ty.str a0.snd.snd.fst]) fun r => ifs ((!r) = false) (ifs ((ByteArray.toList a0.snd.snd.fst == ByteArray.toList a0.snd.fst) = true) (some (injRs [RT.d (Ty.int Go.IntKind.i64)] (8 : Int))) (ifs ((a0.fst == (6 : Int)) = true) (ifs (decide (a0.snd.snd.snd.fst < (0 : Int)) = false) (ifs ((Go.IntKind.wrap Go.IntKind.i64 ((↑(List.length a0.snd.snd.snd.snd.fst) : Int) + (↑(List.length a0.snd.snd.snd.snd.snd) : Int)) == (0 : Int)) = false) (Option.bind (cR (nat_lit 84) [RT.d (Ty.int Go.IntKind.i64)] [inj (Ty.sl Ty.str) a0.snd.snd.snd.snd.fst]) fun r => ifs ((r != (0 : Int)) = false) (Option.bind (cR (nat_lit 84) [RT.d (Ty.int Go.IntKind.i64)] [inj (Ty.sl Ty.str) a0.snd.snd.snd.snd.snd]) fun r => ifs ((r != (0 : Int)) = true) (some (injRs [RT.d (Ty.int Go.IntKind.i64)] (6 : Int))) (some (injRs [RT.d (Ty.int Go.IntKind.i64)] (0 : Int)))) (some (injRs [RT.d (Ty.int Go.IntKind.i64)] (6 : Int)))) (some (injRs [RT.d (Ty.int Go.IntKind.i64)] (6 : Int)))) (some (injRs [RT.d (Ty.int Go.IntKind.i64)] (6 : Int)))) (some (injRs [RT.d (Ty.int Go.IntKind.i64)] (0 : Int))))) (some (injRs [RT.d (Ty.int Go.IntKind.i64)] (8 : Int)))) (ifs ((a0.fst == (6 : Int)) = true) (ifs (decide (a0.snd.snd.snd.fst < (0 : Int)) = false) (ifs ((Go.IntKind.wrap Go.IntKind.i64 ((↑(List.length a0.snd.snd.snd.snd.fst) : Int) + (↑(List.length a0.snd.snd.snd.snd.snd) : Int)) == (0 : Int)) = false) (Option.bind (cR (nat_lit 84) [RT.d (Ty.int Go.IntKind.i64)] [inj (Ty.sl Ty.str) a0.snd.snd.snd.snd.fst]) fun r => ifs ((r != (0 : Int)) = false) (Option.bind (cR (nat_lit 84) [RT.d (Ty.int Go.IntKind.i64)] [inj (Ty.sl Ty.str) a0.snd.snd.snd.snd.snd]) fun r => ifs ((r != (0 : Int)) = true) (some (injRs [RT.d (Ty.int Go.IntKind.i64)] (6 : Int))) (some (injRs [RT.d (Ty.int Go.IntKind.i64)] (0 : Int)))) (some (injRs [RT.d (Ty.int Go.IntKind.i64)] (6 : Int)))) (some (injRs [RT.d (Ty.int Go.IntKind.i64)] (6 : Int)))) (some (injRs [RT.d (Ty.int Go.IntKind.i64)] (6 : Int)))) (some (injRs [RT.d (Ty.int Go.IntKind.i64)] (0 : Int))))) (some (injRs [RT.d (Ty.int Go.IntKind.i64)] (8 : Int))))) (some (injRs [RT.d (Ty.int Go.IntKind.i64)] (2 : Int)))) (ifs ((a0.fst != (6 : Int)) = true) (some (injRs [RT.d (Ty.int Go.IntKind.i64)] (2 : Int))) (Option.bind (cR (nat_lit 83) [RT.d Ty.bool] [inj Ty.str a0.snd.fst]) fun r => ifs ((!r) = false) (ifs ((a0.fst == (5 : Int)) = true) (Option.bind (cR (nat_lit 83) [RT.d Ty.bool] [inj Ty.str a0.snd.snd.fst]) fun r => ifs ((!r) = false) (ifs ((ByteArray.toList a0.snd.snd.fst == ByteArray.toList a0.snd.fst) = true) (some (injRs [RT.d (Ty.int Go.IntKind.i64)] (8 : Int))) (ifs ((a0.fst == (6 : Int)) = true) (ifs (decide (a0.snd.snd.snd.fst < (0 : Int)) = false) (ifs ((Go.IntKind.wrap Go.IntKind.i64 ((↑(List.length a0.snd.snd.snd.snd.fst) : Int) + (↑(List.length a0.snd.snd.snd.snd.snd) : Int)) == (0 : Int)) = false) (Option.bind (cR (nat_lit 84) [RT.d (Ty.int Go.IntKind.i64)] [inj (Ty.sl Ty.str) a0.snd.snd.snd.snd.fst]) fun r => ifs ((r != (0 : Int)) = false) (Option.bind (cR (nat_lit 84) [RT.d (Ty.int Go.IntKind.i64)] [inj (Ty.sl Ty.str) a0.snd.snd.snd.snd.snd]) fun r => ifs ((r != (0 : Int)) = true) (some (injRs [RT.d (Ty.int Go.IntKind.i64)] (6 : Int))) (some (injRs [RT.d (Ty.int Go.IntKind.i64)] (0 : Int)))) (some (injRs [RT.d (Ty.int Go.IntKind.i64)] (6 : Int)))) (some (injRs [RT.d (Ty.int Go.IntKind.i64)] (6 : Int)))) (some (injRs [RT.d (Ty.int Go.IntKind.i64)] (6 : Int)))) (some (injRs [RT.d (Ty.int Go.IntKind.i64)] (0 : Int))))) (some (injRs [RT.d (Ty.int Go.IntKind.i64)] (8 : Int)))) (ifs ((a0.fst == (6 : Int)) = true) (ifs (decide (a0.snd.snd.snd.fst < (0 : Int)) = false) (ifs ((Go.IntKind.wrap Go.IntKind.i64 ((↑(List.length a0.snd.snd.snd.snd.fst) : Int) + (↑(List.length a0.snd.snd.snd.snd.snd) : Int)) == (0 : Int)) = false) (Option.bind (cR (nat_lit 84) [RT.d (Ty.int Go.IntKind.i64)] [inj (Ty.sl Ty.str) a0.snd.snd.snd.snd.fst]) fun r => ifs ((r != (0 : Int)) = false) (Option.bind (cR (nat_lit 84) [RT.d (Ty.int Go.IntKind.i64)] [inj (Ty.sl Ty.str) a0.snd.snd.snd.snd.snd]) fun r => ifs ((r != (0 : Int)) = true) (some (injRs [RT.d (Ty.int Go.IntKind.i64)] (6 : Int))) (some (injRs [RT.d (Ty.int Go.IntKind.i64)] (0 : Int)))) (some (injRs [RT.d (Ty.int Go.IntKind.i64)] (6 : Int)))) (some (injRs [RT.d (Ty.int Go.IntKind.i64)] (6 : Int)))) (some (injRs [RT.d (Ty.int Go.IntKind.i64)] (6 : Int)))) (some (injRs [RT.d (Ty.int Go.IntKind.i64)] (0 : Int))))) (some (injRs [RT.d (Ty.int Go.IntKind.i64)] (8 : Int)))))) (some (injRs [RT.d (Ty.int Go.IntKind.i64)] (2 : Int)))) (some (injRs [RT.d (Ty.int Go.IntKind.i64)] (2 : Int)))) := by kernel_rfl
noncomputable def td80_3 : List Item := (findT (code Tryz.f80) [] 3).getD []
noncomputable def l80_3 (x0 : Int) (x1 : ByteArray) (x2 : Int) : Option (List RV) := cutW W0 n80 td80_3 { fr := [((0 : Nat), F.a (A.c (C.sc (Go.Value.int Go.IntKind.u8 x0)))), ((3 : Nat), F.a (A.c (C.sc (Go.Value.string x1)))), ((4 : Nat), F.a (A.c (C.sc (Go.Value.int Go.IntKind.i64 x2))))], mem := [], nx := (0 : Nat) }
theorem e80 (a0 : Int) : callG W0 (callW W0) (cutW W0) 80 [inj (Ty.int Go.IntKind.u8) a0] = l80_3 a0 { data := #[(97 : UInt8), (98 : UInt8), (99 : UInt8), (100 : UInt8), (101 : UInt8), (102 : UInt8), (103 : UInt8), (104 : UInt8), (105 : UInt8), (106 : UInt8), (107 : UInt8), (108 : UInt8), (109 : UInt8), (110 : UInt8), (111 : UInt8), (112 : UInt8), (113 : UInt8), (114 : UInt8), (115 : UInt8), (116 : UInt8), (117 : UInt8), (118 : UInt8), (119 : UInt8), (120 : UInt8), (121 : UInt8), (122 : UInt8), (48 : UInt8), (49 : UInt8), (50 : UInt8), (51 : UInt8), (52 : UInt8), (53 : UInt8), (54 : UInt8), (55 : UInt8), (56 : UInt8), (57 : UInt8), (46 : UInt8), (95 : UInt8), (45 : UInt8)] } (0 : Int) := by kernel_rfl
theorem q80_3 (x0 : Int) (x1 : ByteArray) (x2 : Int) : cutG W0 (callW W0) (cutW W0) n80 td80_3 { fr := [((0 : Nat), F.a (A.c (C.sc (Go.Value.int Go.IntKind.u8 x0)))), ((3 : Nat), F.a (A.c (C.sc (Go.Value.string x1)))), ((4 : Nat), F.a (A.c (C.sc (Go.Value.int Go.IntKind.i64 x2))))], mem := [], nx := (0 : Nat) } = ifs (decide (x2 < (↑(ByteArray.size x1) : Int)) = true) (ifs ((0 : Int) ≤ x2) (Option.bind x1[Int.toNat x2]? fun r => ifs (((↑(UInt8.toNat r) : Int) == x0) = true) (some (injRs [RT.d Ty.bool] true)) (l80_3 x0 x1 (Go.IntKind.wrap Go.IntKind.i64 (x2 + (1 : Int))))) none) (some (injRs [RT.d Ty.bool] false)) := by kernel_rfl
noncomputable def td38_2 : List Item := (findT (code Tryz.f38) [] 2).getD []
noncomputable def l38_2 (x0 : ByteArray) (x1 : Int) : Option (List RV) := cutW W0 n38 td38_2 { fr := [((0 : Nat), F.a (A.c (C.sc (Go.Value.string x0)))), ((3 : Nat), F.a (A.c (C.sc (Go.Value.int Go.IntKind.i64 x1))))], mem := [], nx := (0 : Nat) }
theorem e38 (a0 : ByteArray) : callG W0 (callW W0) (cutW W0) 38 [inj Ty.str a0] = l38_2 a0 (0 : Int) := by kernel_rfl
theorem q38_2 (x0 : ByteArray) (x1 : Int) : cutG W0 (callW W0) (cutW W0) n38 td38_2 { fr := [((0 : Nat), F.a (A.c (C.sc (Go.Value.string x0)))), ((3 : Nat), F.a (A.c (C.sc (Go.Value.int Go.IntKind.i64 x1))))], mem := [], nx := (0 : Nat) } = ifs (decide (x1 < (↑(ByteArray.size x0) : Int)) = true) (ifs ((0 : Int) ≤ x1) (Option.bind x0[Int.toNat x1]? fun r => Option.bind (cR (nat_lit 80) [RT.d Ty.bool] [inj (Ty.int Go.IntKind.u8) (↑(UInt8.toNat r) : Int)]) fun r => ifs ((!r) = true) (some (injRs [RT.d Ty.bool] false)) (l38_2 x0 (Go.IntKind.wrap Go.IntKind.i64 (x1 + (1 : Int))))) none) (ifs (decide ((↑(ByteArray.size x0) : Int) ≥ (1 : Int)) = true) (ifs (decide ((↑(ByteArray.size x0) : Int) ≤ (40 : Int)) = true) (ifs ((!ByteArray.toList x0 == ByteArray.toList { data := #[(46 : UInt8)] }) = true) (some (injRs [RT.d Ty.bool] !ByteArray.toList x0 == ByteArray.toList { data := #[(46 : UInt8), (46 : UInt8)] })) (some (injRs [RT.d Ty.bool] false))) (some (injRs [RT.d Ty.bool] false))) (some (injRs [RT.d Ty.bool] false))) := by kernel_rfl
noncomputable def td9_6 : List Item := (findT (code Tryz.f9) [] 6).getD []
noncomputable def l9_6 (x0 : ByteArray) (x1 : Int) (x2 : Int) (x3 : List ByteArray) : Option (List RV) := cutW W0 n9 td9_6 { fr := [((0 : Nat), F.a (A.c (C.sc (Go.Value.string x0)))), ((3 : Nat), F.a (A.c (C.ow (0 : Nat) (List.length x3)))), ((4 : Nat), F.a (A.c (C.sc (Go.Value.int Go.IntKind.i64 x1)))), ((5 : Nat), F.a (A.c (C.sc (Go.Value.int Go.IntKind.i64 x2))))], mem := [some (Row.arr (9 : Nat) Ty.str x3 false)], nx := (1 : Nat) }
theorem e9 (a0 : ByteArray) : callG W0 (callW W0) (cutW W0) 9 [inj Ty.str a0] = ifs (decide ((↑(ByteArray.size a0) : Int) > (200 : Int)) = true) (some (injRs [RT.own (9 : Go.TypeId) Ty.str] [])) (l9_6 a0 (0 : Int) (0 : Int) []) := by kernel_rfl
theorem q9_6 (x0 : ByteArray) (x1 : Int) (x2 : Int) (x3 : List ByteArray) : cutG W0 (callW W0) (cutW W0) n9 td9_6 { fr := [((0 : Nat), F.a (A.c (C.sc (Go.Value.string x0)))), ((3 : Nat), F.a (A.c (C.ow (0 : Nat) (List.length x3)))), ((4 : Nat), F.a (A.c (C.sc (Go.Value.int Go.IntKind.i64 x1)))), ((5 : Nat), F.a (A.c (C.sc (Go.Value.int Go.IntKind.i64 x2))))], mem := [some (Row.arr (9 : Nat) Ty.str x3 false)], nx := (1 : Nat) } = ifs (decide (x2 ≤ (↑(ByteArray.size x0) : Int)) = true) (ifs (decide (x2 < (↑(ByteArray.size x0) : Int)) = true) (ifs ((0 : Int) ≤ x2) (Option.bind x0[Int.toNat x2]? fun r => ifs (((↑(UInt8.toNat r) : Int) != (47 : Int)) = true) (l9_6 x0 x1 (Go.IntKind.wrap Go.IntKind.i64 (x2 + (1 : Int))) x3) (ifs ((0 : Int) ≤ x2 ∧ x2 ≤ (↑(ByteArray.size x0) : Int)) (ifs ((0 : Int) ≤ x1 ∧ x1 ≤ x2) (Option.bind (cR (nat_lit 38) [RT.d Ty.bool] [inj Ty.str (ByteArray.extract x0 (Int.toNat x1) (Int.toNat x2))]) fun r => ifs ((!r) = true) (some (injRs [RT.own (9 : Go.TypeId) Ty.str] [])) (ifs ((0 : Int) ≤ x2 ∧ x2 ≤ (↑(ByteArray.size x0) : Int)) (ifs ((0 : Int) ≤ x1 ∧ x1 ≤ x2) (ifs ((List.length x3 + (1 : Nat)) * nat_lit 16 ≤ (140737488355328 : Nat)) (l9_6 x0 (Go.IntKind.wrap Go.IntKind.i64 (x2 + (1 : Int))) (Go.IntKind.wrap Go.IntKind.i64 (x2 + (1 : Int))) (List.take (List.length x3) x3 ++ [ByteArray.extract x0 (Int.toNat x1) (Int.toNat x2)])) none) none) none)) none) none)) none) (ifs ((0 : Int) ≤ x2 ∧ x2 ≤ (↑(ByteArray.size x0) : Int)) (ifs ((0 : Int) ≤ x1 ∧ x1 ≤ x2) (Option.bind (cR (nat_lit 38) [RT.d Ty.bool] [inj Ty.str (ByteArray.extract x0 (Int.toNat x1) (Int.toNat x2))]) fun r => ifs ((!r) = true) (some (injRs [RT.own (9 : Go.TypeId) Ty.str] [])) (ifs ((0 : Int) ≤ x2 ∧ x2 ≤ (↑(ByteArray.size x0) : Int)) (ifs ((0 : Int) ≤ x1 ∧ x1 ≤ x2) (ifs ((List.length x3 + (1 : Nat)) * nat_lit 16 ≤ (140737488355328 : Nat)) (l9_6 x0 (Go.IntKind.wrap Go.IntKind.i64 (x2 + (1 : Int))) (Go.IntKind.wrap Go.IntKind.i64 (x2 + (1 : Int))) (List.take (List.length x3) x3 ++ [ByteArray.extract x0 (Int.toNat x1) (Int.toNat x2)])) none) none) none)) none) none)) (ifs (decide ((↑(List.length x3) : Int) > (16 : Int)) = true) (some (injRs [RT.own (9 : Go.TypeId) Ty.str] [])) (some (injRs [RT.own (9 : Go.TypeId) Ty.str] (List.take (List.length x3) x3)))) := by kernel_rfl
theorem e8 (a0 : ByteArray) : callG W0 (callW W0) (cutW W0) 8 [inj Ty.str a0] = Option.bind (cR (nat_lit 9) [RT.own (9 : Go.TypeId) Ty.str] [inj Ty.str a0]) fun r => some (injRs [RT.d Ty.bool] (decide ((↑(List.length r) : Int) > (0 : Int)))) := by kernel_rfl
noncomputable def td39_4 : List Item := (findT (code Tryz.f39) [] 4).getD []
noncomputable def l39_4 (x0 : ByteArray) (x1 : Int) : Option (List RV) := cutW W0 n39 td39_4 { fr := [((0 : Nat), F.a (A.c (C.sc (Go.Value.string x0)))), ((3 : Nat), F.a (A.c (C.sc (Go.Value.int Go.IntKind.i64 x1))))], mem := [], nx := (0 : Nat) }
theorem e39 (a0 : ByteArray) : callG W0 (callW W0) (cutW W0) 39 [inj Ty.str a0] = ifs (decide ((↑(ByteArray.size a0) : Int) > (200 : Int)) = true) (some (injRs [RT.d Ty.bool] false)) (l39_4 a0 (0 : Int)) := by kernel_rfl
theorem q39_4 (x0 : ByteArray) (x1 : Int) : cutG W0 (callW W0) (cutW W0) n39 td39_4 { fr := [((0 : Nat), F.a (A.c (C.sc (Go.Value.string x0)))), ((3 : Nat), F.a (A.c (C.sc (Go.Value.int Go.IntKind.i64 x1))))], mem := [], nx := (0 : Nat) } = ifs (decide (x1 < (↑(ByteArray.size x0) : Int)) = true) (ifs ((0 : Int) ≤ (↑(ByteArray.size x0) : Int) ∧ (↑(ByteArray.size x0) : Int) ≤ (↑(ByteArray.size x0) : Int)) (ifs ((0 : Int) ≤ x1 ∧ x1 ≤ (↑(ByteArray.size x0) : Int)) (Option.bind (cR (nat_lit 81) [RT.d (Ty.int Go.IntKind.i32), RT.d (Ty.int Go.IntKind.i64)] [inj Ty.str (ByteArray.extract x0 (Int.toNat x1) (Int.toNat (↑(ByteArray.size x0) : Int)))]) fun r => ifs ((r.fst == (65533 : Int)) = true) (ifs ((r.snd == (1 : Int)) = false) (ifs (decide (r.fst < (32 : Int)) = true) (ifs ((r.fst != (9 : Int)) = true) (some (injRs [RT.d Ty.bool] false)) (l39_4 x0 (Go.IntKind.wrap Go.IntKind.i64 (x1 + r.snd)))) (l39_4 x0 (Go.IntKind.wrap Go.IntKind.i64 (x1 + r.snd)))) (some (injRs [RT.d Ty.bool] false))) (ifs (decide (r.fst < (32 : Int)) = true) (ifs ((r.fst != (9 : Int)) = true) (some (injRs [RT.d Ty.bool] false)) (l39_4 x0 (Go.IntKind.wrap Go.IntKind.i64 (x1 + r.snd)))) (l39_4 x0 (Go.IntKind.wrap Go.IntKind.i64 (x1 + r.snd))))) none) none) (some (injRs [RT.d Ty.bool] true)) := by kernel_rfl
noncomputable def td11_4 : List Item := (findT (code Tryz.f11) [] 4).getD []
noncomputable def l11_4 (x0 : List ByteArray) (x1 : Int) : Option (List RV) := cutW W0 n11 td11_4 { fr := [((0 : Nat), F.a (A.c (C.sl Ty.str x0))), ((3 : Nat), F.a (A.c (C.sc (Go.Value.int Go.IntKind.i64 x1))))], mem := [], nx := (0 : Nat) }
theorem e11 (a0 : List ByteArray) : callG W0 (callW W0) (cutW W0) 11 [inj (Ty.sl Ty.str) a0] = ifs (decide ((↑(List.length a0) : Int) > (2000 : Int)) = true) (some (injRs [RT.d (Ty.int Go.IntKind.i64)] (4 : Int))) (l11_4 a0 (0 : Int)) := by kernel_rfl
theorem q11_4 (x0 : List ByteArray) (x1 : Int) : cutG W0 (callW W0) (cutW W0) n11 td11_4 { fr := [((0 : Nat), F.a (A.c (C.sl Ty.str x0))), ((3 : Nat), F.a (A.c (C.sc (Go.Value.int Go.IntKind.i64 x1))))], mem := [], nx := (0 : Nat) } = ifs (decide (x1 < (↑(List.length x0) : Int)) = true) (ifs ((0 : Int) ≤ x1) (Option.bind x0[Int.toNat x1]? fun r => Option.bind (cR (nat_lit 39) [RT.d Ty.bool] [inj Ty.str r]) fun r => ifs ((!r) = true) (some (injRs [RT.d (Ty.int Go.IntKind.i64)] (6 : Int))) (l11_4 x0 (Go.IntKind.wrap Go.IntKind.i64 (x1 + (1 : Int))))) none) (some (injRs [RT.d (Ty.int Go.IntKind.i64)] (0 : Int))) := by kernel_rfl
theorem e91 (a0 : Int) (a1 : Int) : callG W0 (callW W0) (cutW W0) 91 [inj (Ty.int Go.IntKind.i64) a0, inj (Ty.int Go.IntKind.i64) a1] = ifs (decide (a0 > a1) = true) (some (injRs [RT.d (Ty.int Go.IntKind.i64)] a0)) (some (injRs [RT.d (Ty.int Go.IntKind.i64)] a1)) := by kernel_rfl
end Go.Proofs.YtabhngbpkfdeiaaGreatDoor.Tb
end
section
/- What each function comes to on data: printed equations. No condition. -/
set_option linter.unusedVariables false
set_option maxRecDepth 100000
namespace Go.Proofs.YtabhngbpkfdeiaaGreatDoor.Tb
open Go Go.Proofs.YtabhngbpkfdeiaaGreatDoor.Ab
theorem e56 (a0 : ByteArray × Bool × List ByteArray) : callG W0 (callW W0) (cutW W0) 56 [inj ty35 a0] = Option.bind (cR (nat_lit 54) [RT.own (9 : Go.TypeId) Ty.str] [inj (Ty.sl Ty.str) a0.snd.snd]) fun r => some (injRs [RT.d ty35] (a0.fst, a0.snd.fst, List.take (List.length r) r)) := by kernel_rfl
theorem e161 (a0 : ByteArray) : callG W0 (callW W0) (cutW W0) 161 [inj Ty.str a0] = some (injRs [RT.d Ty.bool] !ByteArray.toList a0 == ByteArray.toList a0) := by kernel_rfl
theorem e145 (a0 : ByteArray) (a1 : ByteArray) : callG W0 (callW W0) (cutW W0) 145 [inj Ty.str a0, inj Ty.str a1] = Option.bind (cR (nat_lit 161) [RT.d Ty.bool] [inj Ty.str a0]) fun r => Option.bind (cR (nat_lit 161) [RT.d Ty.bool] [inj Ty.str a1]) fun r_1 => ifs (r = true) (ifs (r_1 = true) (some (injRs [RT.d (Ty.int Go.IntKind.i64)] (0 : Int))) (some (injRs [RT.d (Ty.int Go.IntKind.i64)] (-1 : Int)))) (ifs (r_1 = true) (some (injRs [RT.d (Ty.int Go.IntKind.i64)] (1 : Int))) (ifs (Go.Op.bytesLess (ByteArray.toList a0) (ByteArray.toList a1) = true) (some (injRs [RT.d (Ty.int Go.IntKind.i64)] (-1 : Int))) (ifs ((!(Go.Op.bytesLess (ByteArray.toList a0) (ByteArray.toList a1) || ByteArray.toList a0 == ByteArray.toList a1)) = true) (some (injRs [RT.d (Ty.int Go.IntKind.i64)] (1 : Int))) (some (injRs [RT.d (Ty.int Go.IntKind.i64)] (0 : Int)))))) := by kernel_rfl
noncomputable def td125_2 : List Item := (findT (code Tryz.f125) [] 2).getD []
noncomputable def l125_2 (x0 : List ByteArray) (x1 : List ByteArray) (x2 : List ByteArray) (x3 : Int) (x4 : Int) : Option (List RV) := cutW W0 n125 td125_2 { fr := [((0 : Nat), F.a (A.c (C.sl Ty.str x0))), ((1 : Nat), F.a (A.c (C.sl Ty.str x1))), ((9 : Nat), F.a (A.c (C.sl Ty.str x2))), ((10 : Nat), F.a (A.c (C.sc (Go.Value.int Go.IntKind.i64 x3)))), ((11 : Nat), F.a (A.c (C.sc (Go.Value.int Go.IntKind.i64 x4))))], mem := [], nx := (0 : Nat) }
theorem e125 (a0 : List ByteArray) (a1 : List ByteArray) : callG W0 (callW W0) (cutW W0) 125 [inj (Ty.sl Ty.str) a0, inj (Ty.sl Ty.str) a1] = l125_2 a0 a1 a0 (↑(List.length a0) : Int) (0 : Int) := by kernel_rfl
theorem q125_2 (x0 : List ByteArray) (x1 : List ByteArray) (x2 : List ByteArray) (x3 : Int) (x4 : Int) : cutG W0 (callW W0) (cutW W0) n125 td125_2 { fr := [((0 : Nat), F.a (A.c (C.sl Ty.str x0))), ((1 : Nat), F.a (A.c (C.sl Ty.str x1))), ((9 : Nat), F.a (A.c (C.sl Ty.str x2))), ((10 : Nat), F.a (A.c (C.sc (Go.Value.int Go.IntKind.i64 x3)))), ((11 : Nat), F.a (A.c (C.sc (Go.Value.int Go.IntKind.i64 x4))))], mem := [], nx := (0 : Nat) } = ifs (decide (x4 < x3) = true) (ifs ((0 : Int) ≤ x4) (Option.bind x2[Int.toNat x4]? fun r => ifs (decide (x4 ≥ (↑(List.length x1) : Int)) = true) (some (injRs [RT.d (Ty.int Go.IntKind.i64)] (1 : Int))) (ifs ((0 : Int) ≤ x4) (Option.bind x1[Int.toNat x4]? fun r_1 => Option.bind (cR (nat_lit 145) [RT.d (Ty.int Go.IntKind.i64)] [inj Ty.str r, inj Ty.str r_1]) fun r => ifs ((r != (0 : Int)) = true) (some (injRs [RT.d (Ty.int Go.IntKind.i64)] r)) (l125_2 x0 x1 x2 x3 (Go.IntKind.wrap Go.IntKind.i64 (x4 + (1 : Int))))) none)) none) (ifs (decide ((↑(List.length x0) : Int) < (↑(List.length x1) : Int)) = true) (some (injRs [RT.d (Ty.int Go.IntKind.i64)] (-1 : Int))) (some (injRs [RT.d (Ty.int Go.IntKind.i64)] (0 : Int)))) := by kernel_rfl
theorem e124 (a0 : ByteArray) : callG W0 (callW W0) (cutW W0) 124 [inj Ty.str a0] = Option.bind (cR (nat_lit 83) [RT.d Ty.bool] [inj Ty.str a0]) fun r => ifs ((!r) = true) (some (injRs [RT.own (9 : Go.TypeId) Ty.str] [])) (Option.bind (cR (nat_lit 117) [RT.own (9 : Go.TypeId) Ty.str] [inj Ty.str a0, inj Ty.str { data := #[(47 : UInt8)] }]) fun r => some (injRs [RT.own (9 : Go.TypeId) Ty.str] (List.take (List.length r) r))) := by kernel_rfl
theorem e126 (a0 : List ByteArray) : callG W0 (callW W0) (cutW W0) 126 [inj (Ty.sl Ty.str) a0] = Option.bind (cR (nat_lit 146) [RT.d Ty.str] [inj (Ty.sl Ty.str) a0, inj Ty.str { data := #[(47 : UInt8)] }]) fun r => Option.bind (cR (nat_lit 124) [RT.own (9 : Go.TypeId) Ty.str] [inj Ty.str r]) fun r_1 => ifs (((↑(List.length r_1) : Int) != (↑(List.length a0) : Int)) = true) (some (injRs [RT.d Ty.str] { data := #[] })) (some (injRs [RT.d Ty.str] r)) := by kernel_rfl
theorem e88 (a0 : ByteArray) : callG W0 (callW W0) (cutW W0) 88 [inj Ty.str a0] = Option.bind (cR (nat_lit 124) [RT.own (9 : Go.TypeId) Ty.str] [inj Ty.str a0]) fun r => ifs ((0 : Int) ≤ imax (Go.IntKind.wrap Go.IntKind.i64 ((↑(List.length r) : Int) - (1 : Int))) (0 : Int) ∧ imax (Go.IntKind.wrap Go.IntKind.i64 ((↑(List.length r) : Int) - (1 : Int))) (0 : Int) ≤ (↑(List.length r) : Int)) (Option.bind (cR (nat_lit 126) [RT.d Ty.str] [inj (Ty.sl Ty.str) (List.take (Int.toNat (imax (Go.IntKind.wrap Go.IntKind.i64 ((↑(List.length r) : Int) - (1 : Int))) (0 : Int))) r)]) fun r => some (injRs [RT.d Ty.str] r)) none := by kernel_rfl
theorem e86 (a0 : ByteArray) (a1 : ByteArray) : callG W0 (callW W0) (cutW W0) 86 [inj Ty.str a0, inj Ty.str a1] = Option.bind (cR (nat_lit 124) [RT.own (9 : Go.TypeId) Ty.str] [inj Ty.str a0]) fun r => Option.bind (cR (nat_lit 124) [RT.own (9 : Go.TypeId) Ty.str] [inj Ty.str a1]) fun r_1 => ifs (((↑(List.length r) : Int) == (0 : Int)) = true) (ifs (((↑(List.length r_1) : Int) == (0 : Int)) = true) (some (injRs [RT.d Ty.bool] (Go.Op.bytesLess (ByteArray.toList a0) (ByteArray.toList a1)))) (Option.bind (cR (nat_lit 125) [RT.d (Ty.int Go.IntKind.i64)] [inj (Ty.sl Ty.str) (List.take (List.length r) r), inj (Ty.sl Ty.str) (List.take (List.length r_1) r_1)]) fun r => some (injRs [RT.d Ty.bool] (decide (r < (0 : Int)))))) (Option.bind (cR (nat_lit 125) [RT.d (Ty.int Go.IntKind.i64)] [inj (Ty.sl Ty.str) (List.take (List.length r) r), inj (Ty.sl Ty.str) (List.take (List.length r_1) r_1)]) fun r => some (injRs [RT.d Ty.bool] (decide (r < (0 : Int))))) := by kernel_rfl
theorem e45 (a0 : ByteArray × Bool × List ByteArray) (a1 : ByteArray × Bool × List ByteArray) : callG W0 (callW W0) (cutW W0) 45 [inj ty35 a0, inj ty35 a1] = Option.bind (cR (nat_lit 86) [RT.d Ty.bool] [inj Ty.str a0.fst, inj Ty.str a1.fst]) fun r => ifs (r = true) (some (injRs [RT.d (Ty.int Go.IntKind.i64)] (-1 : Int))) (Option.bind (cR (nat_lit 86) [RT.d Ty.bool] [inj Ty.str a1.fst, inj Ty.str a0.fst]) fun r => ifs (r = true) (some (injRs [RT.d (Ty.int Go.IntKind.i64)] (1 : Int))) (some (injRs [RT.d (Ty.int Go.IntKind.i64)] (0 : Int)))) := by kernel_rfl
noncomputable def td96_3 : List Item := (findT (code Tryz.f96) [] 3).getD []
noncomputable def l96_3 (x0 : List (ByteArray × Bool × List ByteArray)) (x1 : Int) (x2 : Int) (x3 : Int) (x4 : ByteArray) (x5 : Bool) (x6 : List ByteArray) : Option (List RV) := cutW W0 n96 td96_3 { fr := [((0 : Nat), F.a (A.c (C.sl ty35 x0))), ((2 : Nat), F.a (A.c (C.cl (45 : Nat) []))), ((4 : Nat), F.a (A.c (C.pt (Pt.own (0 : Nat) (0 : Nat) (0 : Nat))))), ((8 : Nat), F.a (A.c (C.sc (Go.Value.int Go.IntKind.i64 x1)))), ((9 : Nat), F.a (A.c (C.sc (Go.Value.int Go.IntKind.i64 x2)))), ((10 : Nat), F.a (A.c (C.sc (Go.Value.int Go.IntKind.i64 x3))))], mem := [some (Row.box (35 : Nat) (some ty35) [C.sc (Go.Value.string x4), C.sc (Go.Value.bool x5), C.sl Ty.str x6] false)], nx := (1 : Nat) }
theorem e96 (a0 : List (ByteArray × Bool × List ByteArray)) (a1 : ByteArray × Bool × List ByteArray) : callG W0 (callW W0) (cutW W0) 96 [inj (Ty.sl ty35) a0, inj ty35 a1, A.c (C.cl (45 : Nat) [])] = l96_3 a0 (↑(List.length a0) : Int) (0 : Int) (↑(List.length a0) : Int) a1.fst a1.snd.fst a1.snd.snd := by kernel_rfl
theorem q96_3 (x0 : List (ByteArray × Bool × List ByteArray)) (x1 : Int) (x2 : Int) (x3 : Int) (x4 : ByteArray) (x5 : Bool) (x6 : List ByteArray) : cutG W0 (callW W0) (cutW W0) n96 td96_3 { fr := [((0 : Nat), F.a (A.c (C.sl ty35 x0))), ((2 : Nat), F.a (A.c (C.cl (45 : Nat) []))), ((4 : Nat), F.a (A.c (C.pt (Pt.own (0 : Nat) (0 : Nat) (0 : Nat))))), ((8 : Nat), F.a (A.c (C.sc (Go.Value.int Go.IntKind.i64 x1)))), ((9 : Nat), F.a (A.c (C.sc (Go.Value.int Go.IntKind.i64 x2)))), ((10 : Nat), F.a (A.c (C.sc (Go.Value.int Go.IntKind.i64 x3))))], mem := [some (Row.box (35 : Nat) (some ty35) [C.sc (Go.Value.string x4), C.sc (Go.Value.bool x5), C.sl Ty.str x6] false)], nx := (1 : Nat) } = ifs (decide (x2 < x3) = true) (ifs ((0 : Int) ≤ Go.IntKind.wrap Go.IntKind.i64 (Int.fdiv (Go.IntKind.wrap Go.IntKind.u64 (Go.IntKind.wrap Go.IntKind.i64 (x2 + x3))) ((2 : Int) ^ min (Int.toNat (1 : Int)) (Go.IntKind.bits Go.IntKind.u64)))) (Option.bind x0[Int.toNat (Go.IntKind.wrap Go.IntKind.i64 (Int.fdiv (Go.IntKind.wrap Go.IntKind.u64 (Go.IntKind.wrap Go.IntKind.i64 (x2 + x3))) ((2 : Int) ^ min (Int.toNat (1 : Int)) (Go.IntKind.bits Go.IntKind.u64))))]? fun r => Option.bind (cR (nat_lit 45) [RT.d (Ty.int Go.IntKind.i64)] [inj ty35 r, inj ty35 (x4, x5, x6)]) fun r => ifs (decide (r < (0 : Int)) = true) (l96_3 x0 x1 (Go.IntKind.wrap Go.IntKind.i64 (Go.IntKind.wrap Go.IntKind.i64 (Int.fdiv (Go.IntKind.wrap Go.IntKind.u64 (Go.IntKind.wrap Go.IntKind.i64 (x2 + x3))) ((2 : Int) ^ min (Int.toNat (1 : Int)) (Go.IntKind.bits Go.IntKind.u64))) + (1 : Int))) x3 x4 x5 x6) (l96_3 x0 x1 x2 (Go.IntKind.wrap Go.IntKind.i64 (Int.fdiv (Go.IntKind.wrap Go.IntKind.u64 (Go.IntKind.wrap Go.IntKind.i64 (x2 + x3))) ((2 : Int) ^ min (Int.toNat (1 : Int)) (Go.IntKind.bits Go.IntKind.u64)))) x4 x5 x6)) none) (ifs (decide (x2 < x1) = true) (ifs ((0 : Int) ≤ x2) (Option.bind x0[Int.toNat x2]? fun r => Option.bind (cR (nat_lit 45) [RT.d (Ty.int Go.IntKind.i64)] [inj ty35 r, inj ty35 (x4, x5, x6)]) fun r => some (injRs [RT.d (Ty.int Go.IntKind.i64), RT.d Ty.bool] (x2, r == (0 : Int)))) none) (some (injRs [RT.d (Ty.int Go.IntKind.i64), RT.d Ty.bool] (x2, false)))) := by kernel_rfl
theorem e55 (a0 : List (ByteArray × Bool × List ByteArray) × PUnit) (a1 : ByteArray) : callG W0 (callW W0) (cutW W0) 55 [inj ty31 a0, inj Ty.str a1] = Option.bind (cR (nat_lit 96) [RT.d (Ty.int Go.IntKind.i64), RT.d Ty.bool] [inj (Ty.sl ty35) a0.fst, inj ty35 (a1, false, []), A.c (C.cl (45 : Nat) [])]) fun r => some (injRs [RT.d (Ty.int Go.IntKind.i64), RT.d Ty.bool] r) := by kernel_rfl
theorem e17 (a0 : List (ByteArray × Bool × List ByteArray) × PUnit) (a1 : ByteArray) : callG W0 (callW W0) (cutW W0) 17 [inj ty31 a0, inj Ty.str a1] = Option.bind (cR (nat_lit 55) [RT.d (Ty.int Go.IntKind.i64), RT.d Ty.bool] [inj ty31 (a0.fst, ()), inj Ty.str a1]) fun r => ifs ((!r.snd) = true) (some (injRs [RT.d ty35, RT.d Ty.bool] (({ data := #[] }, false, []), false))) (ifs ((0 : Int) ≤ r.fst) (Option.bind a0.fst[Int.toNat r.fst]? fun r => Option.bind (cR (nat_lit 56) [RT.d ty35] [inj ty35 r]) fun r => some (injRs [RT.d ty35, RT.d Ty.bool] (r, true))) none) := by kernel_rfl
theorem e87 (a0 : List (ByteArray × Bool × List ByteArray) × PUnit) (a1 : ByteArray) : callG W0 (callW W0) (cutW W0) 87 [inj ty31 a0, inj Ty.str a1] = Option.bind (cR (nat_lit 17) [RT.d ty35, RT.d Ty.bool] [inj ty31 (a0.fst, ()), inj Ty.str a1]) fun r => ifs ((ByteArray.toList a1 == ByteArray.toList { data := #[] }) = false) (ifs (r.snd = true) (some (injRs [RT.d Ty.bool] r.fst.snd.fst)) (some (injRs [RT.d Ty.bool] false))) (some (injRs [RT.d Ty.bool] true)) := by kernel_rfl
theorem e149 (a0 : ByteArray) (a1 : ByteArray) : callG W0 (callW W0) (cutW W0) 149 [inj Ty.str a0, A.c (C.pt (Pt.sh Ty.str a1 (0 : Nat)))] = Option.bind (cR (nat_lit 88) [RT.d Ty.str] [inj Ty.str a0]) fun r => some (injRs [RT.d Ty.bool] (ByteArray.toList r == ByteArray.toList a1)) := by kernel_rfl
noncomputable def td128_4 : List Item := (findT (code Tryz.f128) [] 4).getD []
noncomputable def l128_4 (x0 : List (ByteArray × Bool × List ByteArray)) (x1 : Int) (x2 : Int) (x3 : ByteArray) (x4 : List ByteArray) : Option (List RV) := cutW W0 n128 td128_4 { fr := [((5 : Nat), F.a (A.c (C.ow (1 : Nat) (List.length x4)))), ((6 : Nat), F.a (A.c (C.cl (149 : Nat) [Pt.own (0 : Nat) (0 : Nat) (0 : Nat)]))), ((11 : Nat), F.a (A.c (C.sl ty35 x0))), ((12 : Nat), F.a (A.c (C.sc (Go.Value.int Go.IntKind.i64 x1)))), ((13 : Nat), F.a (A.c (C.sc (Go.Value.int Go.IntKind.i64 x2))))], mem := [some (Row.box (9 : Nat) (some Ty.str) [C.sc (Go.Value.string x3)] false), some (Row.arr (9 : Nat) Ty.str x4 false)], nx := (2 : Nat) }
noncomputable def l128_4v1 (x0 : List (ByteArray × Bool × List ByteArray)) (x1 : Int) (x2 : Int) (x3 : List ByteArray) (x4 : ByteArray) : Option (List RV) := cutW W0 n128 td128_4 { fr := [((5 : Nat), F.a (A.c (C.ow (0 : Nat) (List.length x3)))), ((6 : Nat), F.a (A.c (C.cl (149 : Nat) [Pt.own (1 : Nat) (0 : Nat) (0 : Nat)]))), ((11 : Nat), F.a (A.c (C.sl ty35 x0))), ((12 : Nat), F.a (A.c (C.sc (Go.Value.int Go.IntKind.i64 x1)))), ((13 : Nat), F.a (A.c (C.sc (Go.Value.int Go.IntKind.i64 x2))))], mem := [some (Row.arr (9 : Nat) Ty.str x3 false), some (Row.box (9 : Nat) (some Ty.str) [C.sc (Go.Value.string x4)] false)], nx := (2 : Nat) }
theorem e128 (a0 : List (ByteArray × Bool × List ByteArray) × PUnit) (a1 : ByteArray) : callG W0 (callW W0) (cutW W0) 128 [inj ty31 a0, inj Ty.str a1] = l128_4 a0.fst (↑(List.length a0.fst) : Int) (0 : Int) a1 [] := by kernel_rfl
theorem q128_4 (x0 : List (ByteArray × Bool × List ByteArray)) (x1 : Int) (x2 : Int) (x3 : ByteArray) (x4 : List ByteArray) : cutG W0 (callW W0) (cutW W0) n128 td128_4 { fr := [((5 : Nat), F.a (A.c (C.ow (1 : Nat) (List.length x4)))), ((6 : Nat), F.a (A.c (C.cl (149 : Nat) [Pt.own (0 : Nat) (0 : Nat) (0 : Nat)]))), ((11 : Nat), F.a (A.c (C.sl ty35 x0))), ((12 : Nat), F.a (A.c (C.sc (Go.Value.int Go.IntKind.i64 x1)))), ((13 : Nat), F.a (A.c (C.sc (Go.Value.int Go.IntKind.i64 x2))))], mem := [some (Row.box (9 : Nat) (some Ty.str) [C.sc (Go.Value.string x3)] false), some (Row.arr (9 : Nat) Ty.str x4 false)], nx := (2 : Nat) } = ifs (decide (x2 < x1) = true) (ifs ((0 : Int) ≤ x2) (Option.bind x0[Int.toNat x2]? fun r => Option.bind (cR (nat_lit 149) [RT.d Ty.bool] [inj Ty.str r.fst, A.c (C.pt (Pt.sh Ty.str x3 (0 : Nat)))]) fun r_1 => ifs (r_1 = true) (ifs ((List.length x4 + (1 : Nat)) * nat_lit 16 ≤ (140737488355328 : Nat)) (l128_4v1 x0 x1 (Go.IntKind.wrap Go.IntKind.i64 (x2 + (1 : Int))) (List.take (List.length x4) x4 ++ [r.fst]) x3) none) (l128_4v1 x0 x1 (Go.IntKind.wrap Go.IntKind.i64 (x2 + (1 : Int))) x4 x3)) none) (some (injRs [RT.own (9 : Go.TypeId) Ty.str] (List.take (List.length x4) x4))) := by kernel_rfl
theorem q128_4v1 (x0 : List (ByteArray × Bool × List ByteArray)) (x1 : Int) (x2 : Int) (x3 : List ByteArray) (x4 : ByteArray) : cutG W0 (callW W0) (cutW W0) n128 td128_4 { fr := [((5 : Nat), F.a (A.c (C.ow (0 : Nat) (List.length x3)))), ((6 : Nat), F.a (A.c (C.cl (149 : Nat) [Pt.own (1 : Nat) (0 : Nat) (0 : Nat)]))), ((11 : Nat), F.a (A.c (C.sl ty35 x0))), ((12 : Nat), F.a (A.c (C.sc (Go.Value.int Go.IntKind.i64 x1)))), ((13 : Nat), F.a (A.c (C.sc (Go.Value.int Go.IntKind.i64 x2))))], mem := [some (Row.arr (9 : Nat) Ty.str x3 false), some (Row.box (9 : Nat) (some Ty.str) [C.sc (Go.Value.string x4)] false)], nx := (2 : Nat) } = ifs (decide (x2 < x1) = true) (ifs ((0 : Int) ≤ x2) (Option.bind x0[Int.toNat x2]? fun r => Option.bind (cR (nat_lit 149) [RT.d Ty.bool] [inj Ty.str r.fst, A.c (C.pt (Pt.sh Ty.str x4 (0 : Nat)))]) fun r_1 => ifs (r_1 = true) (ifs ((List.length x3 + (1 : Nat)) * nat_lit 16 ≤ (140737488355328 : Nat)) (l128_4v1 x0 x1 (Go.IntKind.wrap Go.IntKind.i64 (x2 + (1 : Int))) (List.take (List.length x3) x3 ++ [r.fst]) x4) none) (l128_4v1 x0 x1 (Go.IntKind.wrap Go.IntKind.i64 (x2 + (1 : Int))) x3 x4)) none) (some (injRs [RT.own (9 : Go.TypeId) Ty.str] (List.take (List.length x3) x3))) := by kernel_rfl
theorem e89 (a0 : List (ByteArray × Bool × List ByteArray) × PUnit) (a1 : ByteArray × Bool × List ByteArray) : callG W0 (callW W0) (cutW W0) 89 [inj ty31 a0, inj ty35 a1] = Option.bind (cR (nat_lit 55) [RT.d (Ty.int Go.IntKind.i64), RT.d Ty.bool] [inj ty31 (a0.fst, ()), inj Ty.str a1.fst]) fun r => Option.bind (cR (nat_lit 43) [RT.own (35 : Go.TypeId) ty35] [inj (Ty.sl ty35) a0.fst]) fun r_1 => ifs (r.snd = true) (Option.bind (cR (nat_lit 56) [RT.d ty35] [inj ty35 a1]) fun r_2 => ifs ((0 : Int) ≤ r.fst ∧ r.fst < (↑(List.length r_1) : Int)) (Option.bind r_1[Int.toNat r.fst]? fun r_3 => some (injRs [RT.d ty31] (List.take (List.length r_1) (List.set r_1 (Int.toNat r.fst) r_2), ()))) none) (Option.bind (cR (nat_lit 56) [RT.d ty35] [inj ty35 a1]) fun r_2 => Option.bind (cR (nat_lit 127) [RT.own (35 : Go.TypeId) ty35] [inj (Ty.sl ty35) (List.take (List.length r_1) r_1), inj (Ty.int Go.IntKind.i64) r.fst, inj (Ty.sl ty35) [r_2]]) fun r => some (injRs [RT.d ty31] (List.take (List.length r) r, ()))) := by kernel_rfl
theorem e92 (a0 : List (ByteArray × Bool × List ByteArray) × PUnit) (a1 : ByteArray) : callG W0 (callW W0) (cutW W0) 92 [inj ty31 a0, inj Ty.str a1] = Option.bind (cR (nat_lit 88) [RT.d Ty.str] [inj Ty.str a1]) fun r => Option.bind (cR (nat_lit 87) [RT.d Ty.bool] [inj ty31 (a0.fst, ()), inj Ty.str r]) fun r => ifs ((!r) = true) (some (injRs [RT.d (Ty.int Go.IntKind.i64)] (9 : Int))) (ifs (decide ((↑(List.length a0.fst) : Int) ≥ (500 : Int)) = true) (some (injRs [RT.d (Ty.int Go.IntKind.i64)] (4 : Int))) (some (injRs [RT.d (Ty.int Go.IntKind.i64)] (0 : Int)))) := by kernel_rfl
theorem e49 (a0 : List (ByteArray × Bool × List ByteArray) × PUnit) (a1 : ByteArray) : callG W0 (callW W0) (cutW W0) 49 [inj ty31 a0, inj Ty.str a1] = Option.bind (cR (nat_lit 83) [RT.d Ty.bool] [inj Ty.str a1]) fun r => ifs ((!r) = true) (some (injRs [RT.d ty31, RT.d (Ty.int Go.IntKind.i64)] (([], ()), (8 : Int)))) (Option.bind (cR (nat_lit 17) [RT.d ty35, RT.d Ty.bool] [inj ty31 (a0.fst, ()), inj Ty.str a1]) fun r => ifs (r.snd = true) (some (injRs [RT.d ty31, RT.d (Ty.int Go.IntKind.i64)] (([], ()), (10 : Int)))) (Option.bind (cR (nat_lit 92) [RT.d (Ty.int Go.IntKind.i64)] [inj ty31 (a0.fst, ()), inj Ty.str a1]) fun r => ifs ((r != (0 : Int)) = true) (some (injRs [RT.d ty31, RT.d (Ty.int Go.IntKind.i64)] (([], ()), r))) (Option.bind (cR (nat_lit 89) [RT.d ty31] [inj ty31 (a0.fst, ()), inj ty35 (a1, true, [])]) fun r => some (injRs [RT.d ty31, RT.d (Ty.int Go.IntKind.i64)] ((r.fst, ()), (0 : Int)))))) := by kernel_rfl
theorem e53 (a0 : List (ByteArray × Bool × List ByteArray) × PUnit) (a1 : ByteArray) (a2 : List ByteArray) : callG W0 (callW W0) (cutW W0) 53 [inj ty31 a0, inj Ty.str a1, inj (Ty.sl Ty.str) a2] = Option.bind (cR (nat_lit 83) [RT.d Ty.bool] [inj Ty.str a1]) fun r => ifs ((!r) = true) (some (injRs [RT.d ty31, RT.d (Ty.int Go.IntKind.i64)] (([], ()), (8 : Int)))) (Option.bind (cR (nat_lit 17) [RT.d ty35, RT.d Ty.bool] [inj ty31 (a0.fst, ()), inj Ty.str a1]) fun r => ifs (r.fst.snd.fst = true) (some (injRs [RT.d ty31, RT.d (Ty.int Go.IntKind.i64)] (([], ()), (11 : Int)))) (Option.bind (cR (nat_lit 84) [RT.d (Ty.int Go.IntKind.i64)] [inj (Ty.sl Ty.str) a2]) fun r_1 => ifs ((r_1 != (0 : Int)) = true) (some (injRs [RT.d ty31, RT.d (Ty.int Go.IntKind.i64)] (([], ()), r_1))) (Option.bind (cR (nat_lit 92) [RT.d (Ty.int Go.IntKind.i64)] [inj ty31 (a0.fst, ()), inj Ty.str a1]) fun r_2 => ifs ((r_2 != (0 : Int)) = true) (ifs ((!r.snd) = true) (some (injRs [RT.d ty31, RT.d (Ty.int Go.IntKind.i64)] (([], ()), r_2))) (Option.bind (cR (nat_lit 89) [RT.d ty31] [inj ty31 (a0.fst, ()), inj ty35 (a1, false, a2)]) fun r => some (injRs [RT.d ty31, RT.d (Ty.int Go.IntKind.i64)] ((r.fst, ()), (0 : Int))))) (Option.bind (cR (nat_lit 89) [RT.d ty31] [inj ty31 (a0.fst, ()), inj ty35 (a1, false, a2)]) fun r => some (injRs [RT.d ty31, RT.d (Ty.int Go.IntKind.i64)] ((r.fst, ()), (0 : Int))))))) := by kernel_rfl
theorem e94 (a0 : List (ByteArray × Bool × List ByteArray) × PUnit) (a1 : ByteArray) : callG W0 (callW W0) (cutW W0) 94 [inj ty31 a0, inj Ty.str a1] = Option.bind (cR (nat_lit 43) [RT.own (35 : Go.TypeId) ty35] [inj (Ty.sl ty35) a0.fst]) fun r => Option.bind (cR (nat_lit 129) [RT.own (35 : Go.TypeId) ty35] [inj (Ty.sl ty35) (List.take (List.length r) r), A.c (C.cl (130 : Nat) [Pt.sh Ty.str a1 (0 : Nat)])]) fun r => some (injRs [RT.d ty31] (List.take (List.length r) r, ())) := by kernel_rfl
theorem e93 (a0 : List (ByteArray × Bool × List ByteArray) × PUnit) (a1 : ByteArray) : callG W0 (callW W0) (cutW W0) 93 [inj ty31 a0, inj Ty.str a1] = Option.bind (cR (nat_lit 83) [RT.d Ty.bool] [inj Ty.str a1]) fun r => ifs ((!r) = true) (some (injRs [RT.d ty31, RT.d (Ty.int Go.IntKind.i64)] (([], ()), (8 : Int)))) (Option.bind (cR (nat_lit 17) [RT.d ty35, RT.d Ty.bool] [inj ty31 (a0.fst, ()), inj Ty.str a1]) fun r => ifs ((!r.snd) = true) (some (injRs [RT.d ty31, RT.d (Ty.int Go.IntKind.i64)] (([], ()), (9 : Int)))) (ifs (r.fst.snd.fst = true) (Option.bind (cR (nat_lit 128) [RT.own (9 : Go.TypeId) Ty.str] [inj ty31 (a0.fst, ()), inj Ty.str a1]) fun r => ifs (decide ((↑(List.length r) : Int) > (0 : Int)) = true) (some (injRs [RT.d ty31, RT.d (Ty.int Go.IntKind.i64)] (([], ()), (12 : Int)))) (Option.bind (cR (nat_lit 94) [RT.d ty31] [inj ty31 (a0.fst, ()), inj Ty.str a1]) fun r => some (injRs [RT.d ty31, RT.d (Ty.int Go.IntKind.i64)] ((r.fst, ()), (0 : Int))))) (Option.bind (cR (nat_lit 94) [RT.d ty31] [inj ty31 (a0.fst, ()), inj Ty.str a1]) fun r => some (injRs [RT.d ty31, RT.d (Ty.int Go.IntKind.i64)] ((r.fst, ()), (0 : Int)))))) := by kernel_rfl
theorem e51 (a0 : List (ByteArray × Bool × List ByteArray) × PUnit) (a1 : ByteArray) (a2 : ByteArray) : callG W0 (callW W0) (cutW W0) 51 [inj ty31 a0, inj Ty.str a1, inj Ty.str a2] = Option.bind (cR (nat_lit 83) [RT.d Ty.bool] [inj Ty.str a1]) fun r => ifs ((!r) = false) (Option.bind (cR (nat_lit 83) [RT.d Ty.bool] [inj Ty.str a2]) fun r => ifs ((!r) = true) (some (injRs [RT.d ty31, RT.d (Ty.int Go.IntKind.i64)] (([], ()), (8 : Int)))) (Option.bind (cR (nat_lit 17) [RT.d ty35, RT.d Ty.bool] [inj ty31 (a0.fst, ()), inj Ty.str a1]) fun r => Option.bind (cR (nat_lit 17) [RT.d ty35, RT.d Ty.bool] [inj ty31 (a0.fst, ()), inj Ty.str a2]) fun r_1 => ifs ((!r.snd) = true) (some (injRs [RT.d ty31, RT.d (Ty.int Go.IntKind.i64)] (([], ()), (9 : Int)))) (ifs (r.fst.snd.fst = true) (some (injRs [RT.d ty31, RT.d (Ty.int Go.IntKind.i64)] (([], ()), (11 : Int)))) (ifs (r_1.snd = true) (some (injRs [RT.d ty31, RT.d (Ty.int Go.IntKind.i64)] (([], ()), (10 : Int)))) (Option.bind (cR (nat_lit 88) [RT.d Ty.str] [inj Ty.str a2]) fun r_2 => Option.bind (cR (nat_lit 87) [RT.d Ty.bool] [inj ty31 (a0.fst, ()), inj Ty.str r_2]) fun r_3 => ifs ((!r_3) = true) (some (injRs [RT.d ty31, RT.d (Ty.int Go.IntKind.i64)] (([], ()), (9 : Int)))) (Option.bind (cR (nat_lit 94) [RT.d ty31] [inj ty31 (a0.fst, ()), inj Ty.str a1]) fun r_4 => Option.bind (cR (nat_lit 89) [RT.d ty31] [inj ty31 (r_4.fst, ()), inj ty35 (a2, r.fst.snd)]) fun r => some (injRs [RT.d ty31, RT.d (Ty.int Go.IntKind.i64)] ((r.fst, ()), (0 : Int))))))))) (some (injRs [RT.d ty31, RT.d (Ty.int Go.IntKind.i64)] (([], ()), (8 : Int)))) := by kernel_rfl
end Go.Proofs.YtabhngbpkfdeiaaGreatDoor.Tb
end
section
/- What each function comes to on data: printed equations. No condition. -/
set_option linter.unusedVariables false
set_option maxRecDepth 100000
namespace Go.Proofs.YtabhngbpkfdeiaaGreatDoor.Tb
open Go Go.Proofs.YtabhngbpkfdeiaaGreatDoor.Ab
theorem e68 (a0 : Int × ByteArray × ByteArray × Int × List ByteArray × List ByteArray) (a1 : Int × ByteArray × ByteArray × Int × List ByteArray × List ByteArray) : callG W0 (callW W0) (cutW W0) 68 [inj ty40 a0, inj ty40 a1] = ifs ((a0.fst == (6 : Int)) = true) (ifs ((a1.fst == (6 : Int)) = true) (ifs ((!ByteArray.toList a0.snd.fst == ByteArray.toList a1.snd.fst) = false) (Option.bind (cR (nat_lit 42) [RT.d (Ty.int Go.IntKind.i64)] [inj ty40 a0]) fun r => ifs ((r != (0 : Int)) = false) (Option.bind (cR (nat_lit 42) [RT.d (Ty.int Go.IntKind.i64)] [inj ty40 a1]) fun r => ifs ((r != (0 : Int)) = true) (some (injRs [RT.d ty40, RT.d ty40, RT.d Ty.bool] (((0 : Int), { data := #[] }, { data := #[] }, (0 : Int), [], []), ((0 : Int), { data := #[] }, { data := #[] }, (0 : Int), [], []), false))) (Option.bind (cR (nat_lit 69) [RT.d ty40] [inj ty40 a0]) fun r => Option.bind (cR (nat_lit 69) [RT.d ty40] [inj ty40 a1]) fun r_1 => ifs (decide (Go.IntKind.wrap Go.IntKind.i64 (r_1.snd.snd.snd.fst - (↑(List.length r.snd.snd.snd.snd.snd) : Int)) > r.snd.snd.snd.fst) = true) (some (injRs [RT.d ty40, RT.d ty40, RT.d Ty.bool] ((r_1.fst, r_1.snd.fst, r_1.snd.snd.fst, Go.IntKind.wrap Go.IntKind.i64 (r_1.snd.snd.snd.fst - Go.IntKind.wrap Go.IntKind.i64 ((↑(List.length r.snd.snd.snd.snd.snd) : Int) - (↑(List.length r.snd.snd.snd.snd.fst) : Int))), r_1.snd.snd.snd.snd), r, true))) (ifs (decide (Go.IntKind.wrap Go.IntKind.i64 (r.snd.snd.snd.fst - (↑(List.length r_1.snd.snd.snd.snd.fst) : Int)) > r_1.snd.snd.snd.fst) = true) (some (injRs [RT.d ty40, RT.d ty40, RT.d Ty.bool] (r_1, (r.fst, r.snd.fst, r.snd.snd.fst, Go.IntKind.wrap Go.IntKind.i64 (r.snd.snd.snd.fst + Go.IntKind.wrap Go.IntKind.i64 ((↑(List.length r_1.snd.snd.snd.snd.snd) : Int) - (↑(List.length r_1.snd.snd.snd.snd.fst) : Int))), r.snd.snd.snd.snd), true))) (some (injRs [RT.d ty40, RT.d ty40, RT.d Ty.bool] (((0 : Int), { data := #[] }, { data := #[] }, (0 : Int), [], []), ((0 : Int), { data := #[] }, { data := #[] }, (0 : Int), [], []), false)))))) (some (injRs [RT.d ty40, RT.d ty40, RT.d Ty.bool] (((0 : Int), { data := #[] }, { data := #[] }, (0 : Int), [], []), ((0 : Int), { data := #[] }, { data := #[] }, (0 : Int), [], []), false)))) (some (injRs [RT.d ty40, RT.d ty40, RT.d Ty.bool] (((0 : Int), { data := #[] }, { data := #[] }, (0 : Int), [], []), ((0 : Int), { data := #[] }, { data := #[] }, (0 : Int), [], []), false)))) (some (injRs [RT.d ty40, RT.d ty40, RT.d Ty.bool] (((0 : Int), { data := #[] }, { data := #[] }, (0 : Int), [], []), ((0 : Int), { data := #[] }, { data := #[] }, (0 : Int), [], []), false)))) (some (injRs [RT.d ty40, RT.d ty40, RT.d Ty.bool] (((0 : Int), { data := #[] }, { data := #[] }, (0 : Int), [], []), ((0 : Int), { data := #[] }, { data := #[] }, (0 : Int), [], []), false))) := by kernel_rfl
end Go.Proofs.YtabhngbpkfdeiaaGreatDoor.Tb
end
section
/- What each function comes to on data: printed equations. No condition. -/
set_option linter.unusedVariables false
set_option maxRecDepth 100000
namespace Go.Proofs.YtabhngbpkfdeiaaGreatDoor.Tb
open Go Go.Proofs.YtabhngbpkfdeiaaGreatDoor.Ab
noncomputable def td131_2 : List Item := (findT (code Tryz.f131) [] 2).getD []
noncomputable def l131_2 (x0 : List (Int × List ByteArray × List ByteArray)) (x1 : List (Int × List ByteArray × List ByteArray)) (x2 : Int) (x3 : Int) : Option (List RV) := cutW W0 n131 td131_2 { fr := [((0 : Nat), F.a (A.c (C.sl ty43 x0))), ((5 : Nat), F.a (A.c (C.sl ty43 x1))), ((6 : Nat), F.a (A.c (C.sc (Go.Value.int Go.IntKind.i64 x2)))), ((7 : Nat), F.a (A.c (C.sc (Go.Value.int Go.IntKind.i64 x3))))], mem := [], nx := (0 : Nat) }
theorem e131 (a0 : List (Int × List ByteArray × List ByteArray)) : callG W0 (callW W0) (cutW W0) 131 [inj (Ty.sl ty43) a0] = l131_2 a0 a0 (↑(List.length a0) : Int) (0 : Int) := by kernel_rfl
theorem q131_2 (x0 : List (Int × List ByteArray × List ByteArray)) (x1 : List (Int × List ByteArray × List ByteArray)) (x2 : Int) (x3 : Int) : cutG W0 (callW W0) (cutW W0) n131 td131_2 { fr := [((0 : Nat), F.a (A.c (C.sl ty43 x0))), ((5 : Nat), F.a (A.c (C.sl ty43 x1))), ((6 : Nat), F.a (A.c (C.sc (Go.Value.int Go.IntKind.i64 x2)))), ((7 : Nat), F.a (A.c (C.sc (Go.Value.int Go.IntKind.i64 x3))))], mem := [], nx := (0 : Nat) } = ifs (decide (x3 < x2) = true) (ifs ((0 : Int) ≤ x3) (Option.bind x1[Int.toNat x3]? fun r => ifs (decide (r.fst < (0 : Int)) = false) (ifs ((Go.IntKind.wrap Go.IntKind.i64 ((↑(List.length r.snd.fst) : Int) + (↑(List.length r.snd.snd) : Int)) == (0 : Int)) = false) (ifs (decide (x3 > (0 : Int)) = true) (ifs ((0 : Int) ≤ Go.IntKind.wrap Go.IntKind.i64 (x3 - (1 : Int))) (Option.bind x0[Int.toNat (Go.IntKind.wrap Go.IntKind.i64 (x3 - (1 : Int)))]? fun r_1 => ifs ((0 : Int) ≤ Go.IntKind.wrap Go.IntKind.i64 (x3 - (1 : Int))) (Option.bind x0[Int.toNat (Go.IntKind.wrap Go.IntKind.i64 (x3 - (1 : Int)))]? fun r_2 => ifs (decide (Go.IntKind.wrap Go.IntKind.i64 (r.fst - (↑(List.length r_1.snd.fst) : Int)) ≤ r_2.fst) = true) (some (injRs [RT.d (Ty.int Go.IntKind.i64)] (6 : Int))) (l131_2 x0 x1 x2 (Go.IntKind.wrap Go.IntKind.i64 (x3 + (1 : Int))))) none) none) (l131_2 x0 x1 x2 (Go.IntKind.wrap Go.IntKind.i64 (x3 + (1 : Int))))) (some (injRs [RT.d (Ty.int Go.IntKind.i64)] (6 : Int)))) (some (injRs [RT.d (Ty.int Go.IntKind.i64)] (6 : Int)))) none) (some (injRs [RT.d (Ty.int Go.IntKind.i64)] (0 : Int))) := by kernel_rfl
noncomputable def td95_7 : List Item := (findT (code Tryz.f95) [] 7).getD []
noncomputable def l95_7 (x0 : List ByteArray) (x1 : Int) (x2 : List (Int × List ByteArray × List ByteArray)) (x3 : Int) (x4 : Int) (x5 : List ByteArray) : Option (List RV) := cutW W0 n95 td95_7 { fr := [((0 : Nat), F.a (A.c (C.sl Ty.str x0))), ((7 : Nat), F.a (A.c (C.ow (0 : Nat) (List.length x5)))), ((8 : Nat), F.a (A.c (C.sc (Go.Value.int Go.IntKind.i64 x1)))), ((16 : Nat), F.a (A.c (C.sl ty43 x2))), ((17 : Nat), F.a (A.c (C.sc (Go.Value.int Go.IntKind.i64 x3)))), ((18 : Nat), F.a (A.c (C.sc (Go.Value.int Go.IntKind.i64 x4))))], mem := [some (Row.arr (9 : Nat) Ty.str x5 false)], nx := (1 : Nat) }
theorem e95 (a0 : List ByteArray) (a1 : List (Int × List ByteArray × List ByteArray)) : callG W0 (callW W0) (cutW W0) 95 [inj (Ty.sl Ty.str) a0, inj (Ty.sl ty43) a1] = Option.bind (cR (nat_lit 131) [RT.d (Ty.int Go.IntKind.i64)] [inj (Ty.sl ty43) a1]) fun r => ifs ((r != (0 : Int)) = true) (some (injRs [RT.own (9 : Go.TypeId) Ty.str, RT.d (Ty.int Go.IntKind.i64)] ([], r))) (l95_7 a0 (0 : Int) a1 (↑(List.length a1) : Int) (0 : Int) []) := by kernel_rfl
theorem q95_7 (x0 : List ByteArray) (x1 : Int) (x2 : List (Int × List ByteArray × List ByteArray)) (x3 : Int) (x4 : Int) (x5 : List ByteArray) : cutG W0 (callW W0) (cutW W0) n95 td95_7 { fr := [((0 : Nat), F.a (A.c (C.sl Ty.str x0))), ((7 : Nat), F.a (A.c (C.ow (0 : Nat) (List.length x5)))), ((8 : Nat), F.a (A.c (C.sc (Go.Value.int Go.IntKind.i64 x1)))), ((16 : Nat), F.a (A.c (C.sl ty43 x2))), ((17 : Nat), F.a (A.c (C.sc (Go.Value.int Go.IntKind.i64 x3)))), ((18 : Nat), F.a (A.c (C.sc (Go.Value.int Go.IntKind.i64 x4))))], mem := [some (Row.arr (9 : Nat) Ty.str x5 false)], nx := (1 : Nat) } = ifs (decide (x4 < x3) = true) (ifs ((0 : Int) ≤ x4) (Option.bind x2[Int.toNat x4]? fun r => ifs (decide (r.fst > (↑(List.length x0) : Int)) = false) (ifs (decide ((↑(List.length r.snd.fst) : Int) > Go.IntKind.wrap Go.IntKind.i64 ((↑(List.length x0) : Int) - r.fst)) = false) (ifs ((0 : Int) ≤ Go.IntKind.wrap Go.IntKind.i64 (r.fst + (↑(List.length r.snd.fst) : Int)) ∧ Go.IntKind.wrap Go.IntKind.i64 (r.fst + (↑(List.length r.snd.fst) : Int)) ≤ (↑(List.length x0) : Int)) (ifs ((0 : Int) ≤ r.fst ∧ r.fst ≤ Go.IntKind.wrap Go.IntKind.i64 (r.fst + (↑(List.length r.snd.fst) : Int))) (Option.bind (cR (nat_lit 63) [RT.d Ty.bool] [inj (Ty.sl Ty.str) (List.drop (Int.toNat r.fst) (List.take (Int.toNat (Go.IntKind.wrap Go.IntKind.i64 (r.fst + (↑(List.length r.snd.fst) : Int)))) x0)), inj (Ty.sl Ty.str) r.snd.fst]) fun r_1 => ifs ((!r_1) = true) (some (injRs [RT.own (9 : Go.TypeId) Ty.str, RT.d (Ty.int Go.IntKind.i64)] ([], (13 : Int)))) (ifs ((0 : Int) ≤ r.fst ∧ r.fst ≤ (↑(List.length x0) : Int)) (ifs ((0 : Int) ≤ x1 ∧ x1 ≤ r.fst) (ifs ((List.length x5 + List.length (List.drop (Int.toNat x1) (List.take (Int.toNat r.fst) x0))) * nat_lit 16 ≤ (140737488355328 : Nat)) (ifs ((List.length (List.take (List.length x5) x5 ++ List.drop (Int.toNat x1) (List.take (Int.toNat r.fst) x0)) + List.length r.snd.snd) * nat_lit 16 ≤ (140737488355328 : Nat)) (l95_7 x0 (Go.IntKind.wrap Go.IntKind.i64 (r.fst + (↑(List.length r.snd.fst) : Int))) x2 x3 (Go.IntKind.wrap Go.IntKind.i64 (x4 + (1 : Int))) (List.take (List.length (List.take (List.length x5) x5 ++ List.drop (Int.toNat x1) (List.take (Int.toNat r.fst) x0))) (List.take (List.length x5) x5 ++ List.drop (Int.toNat x1) (List.take (Int.toNat r.fst) x0)) ++ r.snd.snd)) none) none) none) none)) none) none) (some (injRs [RT.own (9 : Go.TypeId) Ty.str, RT.d (Ty.int Go.IntKind.i64)] ([], (13 : Int))))) (some (injRs [RT.own (9 : Go.TypeId) Ty.str, RT.d (Ty.int Go.IntKind.i64)] ([], (13 : Int))))) none) (ifs ((0 : Int) ≤ (↑(List.length x0) : Int) ∧ (↑(List.length x0) : Int) ≤ (↑(List.length x0) : Int)) (ifs ((0 : Int) ≤ x1 ∧ x1 ≤ (↑(List.length x0) : Int)) (ifs ((List.length x5 + List.length (List.drop (Int.toNat x1) (List.take (Int.toNat (↑(List.length x0) : Int)) x0))) * nat_lit 16 ≤ (140737488355328 : Nat)) (some (injRs [RT.own (9 : Go.TypeId) Ty.str, RT.d (Ty.int Go.IntKind.i64)] (List.take (List.length (List.take (List.length x5) x5 ++ List.drop (Int.toNat x1) (List.take (Int.toNat (↑(List.length x0) : Int)) x0))) (List.take (List.length x5) x5 ++ List.drop (Int.toNat x1) (List.take (Int.toNat (↑(List.length x0) : Int)) x0)), (0 : Int)))) none) none) none) := by kernel_rfl
theorem e50 (a0 : List (ByteArray × Bool × List ByteArray) × PUnit) (a1 : ByteArray) (a2 : Bool) : callG W0 (callW W0) (cutW W0) 50 [inj ty31 a0, inj Ty.str a1, inj Ty.bool a2] = Option.bind (cR (nat_lit 17) [RT.d ty35, RT.d Ty.bool] [inj ty31 (a0.fst, ()), inj Ty.str a1]) fun r => ifs ((!r.snd) = true) (some (injRs [RT.d ty31, RT.d (Ty.int Go.IntKind.i64)] (([], ()), (9 : Int)))) (ifs ((!r.fst.snd.fst == a2) = true) (some (injRs [RT.d ty31, RT.d (Ty.int Go.IntKind.i64)] (([], ()), (11 : Int)))) (ifs (decide ((↑(List.length r.fst.snd.snd) : Int) > (0 : Int)) = true) (some (injRs [RT.d ty31, RT.d (Ty.int Go.IntKind.i64)] (([], ()), (13 : Int)))) (Option.bind (cR (nat_lit 93) [RT.d ty31, RT.d (Ty.int Go.IntKind.i64)] [inj ty31 (a0.fst, ()), inj Ty.str a1]) fun r => some (injRs [RT.d ty31, RT.d (Ty.int Go.IntKind.i64)] ((r.fst.fst, ()), r.snd))))) := by kernel_rfl
theorem e52 (a0 : List (ByteArray × Bool × List ByteArray) × PUnit) (a1 : Int × ByteArray × ByteArray × Int × List ByteArray × List ByteArray) : callG W0 (callW W0) (cutW W0) 52 [inj ty31 a0, inj ty40 a1] = Option.bind (cR (nat_lit 17) [RT.d ty35, RT.d Ty.bool] [inj ty31 (a0.fst, ()), inj Ty.str a1.snd.fst]) fun r => ifs ((!r.snd) = true) (some (injRs [RT.d ty31, RT.d (Ty.int Go.IntKind.i64)] (([], ()), (9 : Int)))) (ifs (r.fst.snd.fst = true) (some (injRs [RT.d ty31, RT.d (Ty.int Go.IntKind.i64)] (([], ()), (11 : Int)))) (Option.bind (cR (nat_lit 95) [RT.own (9 : Go.TypeId) Ty.str, RT.d (Ty.int Go.IntKind.i64)] [inj (Ty.sl Ty.str) r.fst.snd.snd, inj (Ty.sl ty43) [a1.snd.snd.snd]]) fun r => ifs ((r.snd != (0 : Int)) = true) (some (injRs [RT.d ty31, RT.d (Ty.int Go.IntKind.i64)] (([], ()), r.snd))) (Option.bind (cR (nat_lit 53) [RT.d ty31, RT.d (Ty.int Go.IntKind.i64)] [inj ty31 (a0.fst, ()), inj Ty.str a1.snd.fst, inj (Ty.sl Ty.str) (List.take (List.length r.fst) r.fst)]) fun r => some (injRs [RT.d ty31, RT.d (Ty.int Go.IntKind.i64)] ((r.fst.fst, ()), r.snd))))) := by kernel_rfl
theorem e15 (a0 : List (ByteArray × Bool × List ByteArray) × PUnit) (a1 : Int × ByteArray × ByteArray × Int × List ByteArray × List ByteArray) : callG W0 (callW W0) (cutW W0) 15 [inj ty31 a0, inj ty40 a1] = Option.bind (cR (nat_lit 42) [RT.d (Ty.int Go.IntKind.i64)] [inj ty40 a1]) fun r => ifs ((r != (0 : Int)) = true) (some (injRs [RT.d ty31, RT.d (Ty.int Go.IntKind.i64)] (([], ()), r))) (ifs ((a1.fst == (1 : Int)) = true) (Option.bind (cR (nat_lit 49) [RT.d ty31, RT.d (Ty.int Go.IntKind.i64)] [inj ty31 (a0.fst, ()), inj Ty.str a1.snd.fst]) fun r => some (injRs [RT.d ty31, RT.d (Ty.int Go.IntKind.i64)] ((r.fst.fst, ()), r.snd))) (ifs ((a1.fst == (2 : Int)) = true) (Option.bind (cR (nat_lit 50) [RT.d ty31, RT.d (Ty.int Go.IntKind.i64)] [inj ty31 (a0.fst, ()), inj Ty.str a1.snd.fst, inj Ty.bool (a1.fst == (2 : Int))]) fun r => some (injRs [RT.d ty31, RT.d (Ty.int Go.IntKind.i64)] ((r.fst.fst, ()), r.snd))) (ifs ((a1.fst == (4 : Int)) = true) (Option.bind (cR (nat_lit 50) [RT.d ty31, RT.d (Ty.int Go.IntKind.i64)] [inj ty31 (a0.fst, ()), inj Ty.str a1.snd.fst, inj Ty.bool (a1.fst == (2 : Int))]) fun r => some (injRs [RT.d ty31, RT.d (Ty.int Go.IntKind.i64)] ((r.fst.fst, ()), r.snd))) (ifs ((a1.fst == (5 : Int)) = true) (Option.bind (cR (nat_lit 51) [RT.d ty31, RT.d (Ty.int Go.IntKind.i64)] [inj ty31 (a0.fst, ()), inj Ty.str a1.snd.fst, inj Ty.str a1.snd.snd.fst]) fun r => some (injRs [RT.d ty31, RT.d (Ty.int Go.IntKind.i64)] ((r.fst.fst, ()), r.snd))) (ifs ((a1.fst == (6 : Int)) = true) (Option.bind (cR (nat_lit 52) [RT.d ty31, RT.d (Ty.int Go.IntKind.i64)] [inj ty31 (a0.fst, ()), inj ty40 a1]) fun r => some (injRs [RT.d ty31, RT.d (Ty.int Go.IntKind.i64)] ((r.fst.fst, ()), r.snd))) (Option.bind (cR (nat_lit 17) [RT.d ty35, RT.d Ty.bool] [inj ty31 (a0.fst, ()), inj Ty.str a1.snd.fst]) fun r => ifs (r.snd = true) (some (injRs [RT.d ty31, RT.d (Ty.int Go.IntKind.i64)] (([], ()), (10 : Int)))) (Option.bind (cR (nat_lit 53) [RT.d ty31, RT.d (Ty.int Go.IntKind.i64)] [inj ty31 (a0.fst, ()), inj Ty.str a1.snd.fst, inj (Ty.sl Ty.str) []]) fun r => some (injRs [RT.d ty31, RT.d (Ty.int Go.IntKind.i64)] ((r.fst.fst, ()), r.snd))))))))) := by kernel_rfl
theorem e46 (a0 : List (ByteArray × Bool × List ByteArray) × PUnit) (a1 : ByteArray × Bool × List ByteArray) : callG W0 (callW W0) (cutW W0) 46 [inj ty31 a0, inj ty35 a1] = Option.bind (cR (nat_lit 83) [RT.d Ty.bool] [inj Ty.str a1.fst]) fun r => ifs ((!r) = true) (some (injRs [RT.d ty31, RT.d (Ty.int Go.IntKind.i64)] (([], ()), (8 : Int)))) (Option.bind (cR (nat_lit 17) [RT.d ty35, RT.d Ty.bool] [inj ty31 (a0.fst, ()), inj Ty.str a1.fst]) fun r => Option.bind (cR (nat_lit 84) [RT.d (Ty.int Go.IntKind.i64)] [inj (Ty.sl Ty.str) a1.snd.snd]) fun r_1 => ifs (r.snd = true) (some (injRs [RT.d ty31, RT.d (Ty.int Go.IntKind.i64)] (([], ()), (10 : Int)))) (Option.bind (cR (nat_lit 88) [RT.d Ty.str] [inj Ty.str a1.fst]) fun r => Option.bind (cR (nat_lit 87) [RT.d Ty.bool] [inj ty31 (a0.fst, ()), inj Ty.str r]) fun r => ifs ((!r) = true) (some (injRs [RT.d ty31, RT.d (Ty.int Go.IntKind.i64)] (([], ()), (9 : Int)))) (ifs ((r_1 != (0 : Int)) = true) (some (injRs [RT.d ty31, RT.d (Ty.int Go.IntKind.i64)] (([], ()), r_1))) (ifs (a1.snd.fst = true) (ifs (decide ((↑(List.length a1.snd.snd) : Int) > (0 : Int)) = true) (some (injRs [RT.d ty31, RT.d (Ty.int Go.IntKind.i64)] (([], ()), (6 : Int)))) (Option.bind (cR (nat_lit 89) [RT.d ty31] [inj ty31 (a0.fst, ()), inj ty35 a1]) fun r => some (injRs [RT.d ty31, RT.d (Ty.int Go.IntKind.i64)] ((r.fst, ()), (0 : Int))))) (Option.bind (cR (nat_lit 89) [RT.d ty31] [inj ty31 (a0.fst, ()), inj ty35 a1]) fun r => some (injRs [RT.d ty31, RT.d (Ty.int Go.IntKind.i64)] ((r.fst, ()), (0 : Int)))))))) := by kernel_rfl
noncomputable def td160_1 : List Item := (findT (code Tryz.f160) [] 1).getD []
noncomputable def l160_1 (x0 : Nat) (x1 : Int) (x2 : Int) (x3 : Int) (x4 : Int) (x5 : List (ByteArray × Bool × List ByteArray)) : Option (List RV) := cutW W0 n160 td160_1 { fr := [((0 : Nat), F.a (A.c (C.ow (0 : Nat) x0))), ((1 : Nat), F.a (A.c (C.sc (Go.Value.int Go.IntKind.i64 x1)))), ((2 : Nat), F.a (A.c (C.sc (Go.Value.int Go.IntKind.i64 x2)))), ((3 : Nat), F.a (A.c (C.sc (Go.Value.int Go.IntKind.i64 x3)))), ((10 : Nat), F.a (A.c (C.sc (Go.Value.int Go.IntKind.i64 x4))))], mem := [some (Row.arr (35 : Nat) ty35 x5 false)], nx := (1 : Nat) }
theorem e160 (b0 : List (ByteArray × Bool × List ByteArray)) (a1 : Int) (a2 : Int) (a3 : Int) : callG W0 (callW W0) (cutW W0) 160 [A.c (C.ow (0 : Nat) (List.length b0)), inj (Ty.int Go.IntKind.i64) a1, inj (Ty.int Go.IntKind.i64) a2, inj (Ty.int Go.IntKind.i64) a3, A.c (C.cl (45 : Nat) []), A.ag [C.sl ty35 b0]] = l160_1 (List.length b0) a1 a2 a3 (0 : Int) b0 := by kernel_rfl
theorem q160_1 (x0 : Nat) (x1 : Int) (x2 : Int) (x3 : Int) (x4 : Int) (x5 : List (ByteArray × Bool × List ByteArray)) : cutG W0 (callW W0) (cutW W0) n160 td160_1 { fr := [((0 : Nat), F.a (A.c (C.ow (0 : Nat) x0))), ((1 : Nat), F.a (A.c (C.sc (Go.Value.int Go.IntKind.i64 x1)))), ((2 : Nat), F.a (A.c (C.sc (Go.Value.int Go.IntKind.i64 x2)))), ((3 : Nat), F.a (A.c (C.sc (Go.Value.int Go.IntKind.i64 x3)))), ((10 : Nat), F.a (A.c (C.sc (Go.Value.int Go.IntKind.i64 x4))))], mem := [some (Row.arr (35 : Nat) ty35 x5 false)], nx := (1 : Nat) } = ifs (decide (x4 < x3) = true) (ifs ((0 : Int) ≤ Go.IntKind.wrap Go.IntKind.i64 (x2 + x4) ∧ Go.IntKind.wrap Go.IntKind.i64 (x2 + x4) < (↑x0 : Int)) (Option.bind x5[Int.toNat (Go.IntKind.wrap Go.IntKind.i64 (x2 + x4))]? fun r => ifs ((0 : Int) ≤ Go.IntKind.wrap Go.IntKind.i64 (x1 + x4) ∧ Go.IntKind.wrap Go.IntKind.i64 (x1 + x4) < (↑x0 : Int)) (Option.bind x5[Int.toNat (Go.IntKind.wrap Go.IntKind.i64 (x1 + x4))]? fun r_1 => ifs ((0 : Int) ≤ Go.IntKind.wrap Go.IntKind.i64 (x1 + x4) ∧ Go.IntKind.wrap Go.IntKind.i64 (x1 + x4) < (↑x0 : Int)) (Option.bind x5[Int.toNat (Go.IntKind.wrap Go.IntKind.i64 (x1 + x4))]? fun r_2 => ifs ((0 : Int) ≤ Go.IntKind.wrap Go.IntKind.i64 (x2 + x4) ∧ Go.IntKind.wrap Go.IntKind.i64 (x2 + x4) < (↑x0 : Int)) (Option.bind (List.set x5 (Int.toNat (Go.IntKind.wrap Go.IntKind.i64 (x1 + x4))) r)[Int.toNat (Go.IntKind.wrap Go.IntKind.i64 (x2 + x4))]? fun r_3 => l160_1 x0 x1 x2 x3 (Go.IntKind.wrap Go.IntKind.i64 (x4 + (1 : Int))) (List.set (List.set x5 (Int.toNat (Go.IntKind.wrap Go.IntKind.i64 (x1 + x4))) r) (Int.toNat (Go.IntKind.wrap Go.IntKind.i64 (x2 + x4))) r_1)) none) none) none) none) (some (injRs [] () ++ injRs [RT.d (Ty.pair Ty.unit (Ty.sl ty35))] ((), x5))) := by kernel_rfl
noncomputable def td144_2 : List Item := (findT (code Tryz.f144) [] 2).getD []
noncomputable def l144_2 (x0 : Nat) (x1 : Int) (x2 : Int) (x3 : Int) (x4 : List (ByteArray × Bool × List ByteArray)) : Option (List RV) := cutW W0 n144 td144_2 { fr := [((0 : Nat), F.a (A.c (C.ow (0 : Nat) x0))), ((2 : Nat), F.a (A.c (C.sc (Go.Value.int Go.IntKind.i64 x1)))), ((4 : Nat), F.a (A.c (C.cl (45 : Nat) []))), ((10 : Nat), F.a (A.c (C.sc (Go.Value.int Go.IntKind.i64 x2)))), ((11 : Nat), F.a (A.c (C.sc (Go.Value.int Go.IntKind.i64 x3))))], mem := [some (Row.arr (35 : Nat) ty35 x4 false)], nx := (1 : Nat) }
theorem e144 (b0 : List (ByteArray × Bool × List ByteArray)) (a1 : Int) (a2 : Int) (a3 : Int) : callG W0 (callW W0) (cutW W0) 144 [A.c (C.ow (0 : Nat) (List.length b0)), inj (Ty.int Go.IntKind.i64) a1, inj (Ty.int Go.IntKind.i64) a2, inj (Ty.int Go.IntKind.i64) a3, A.c (C.cl (45 : Nat) []), A.ag [C.sl ty35 b0]] = l144_2 (List.length b0) a2 (Go.IntKind.wrap Go.IntKind.i64 (a2 - a1)) (Go.IntKind.wrap Go.IntKind.i64 (a3 - a2)) b0 := by kernel_rfl
theorem q144_2 (x0 : Nat) (x1 : Int) (x2 : Int) (x3 : Int) (x4 : List (ByteArray × Bool × List ByteArray)) : cutG W0 (callW W0) (cutW W0) n144 td144_2 { fr := [((0 : Nat), F.a (A.c (C.ow (0 : Nat) x0))), ((2 : Nat), F.a (A.c (C.sc (Go.Value.int Go.IntKind.i64 x1)))), ((4 : Nat), F.a (A.c (C.cl (45 : Nat) []))), ((10 : Nat), F.a (A.c (C.sc (Go.Value.int Go.IntKind.i64 x2)))), ((11 : Nat), F.a (A.c (C.sc (Go.Value.int Go.IntKind.i64 x3))))], mem := [some (Row.arr (35 : Nat) ty35 x4 false)], nx := (1 : Nat) } = ifs ((x2 != x3) = true) (ifs (decide (x2 > x3) = true) (Option.bind (cR2 (nat_lit 160) [] [Ty.pair Ty.unit (Ty.sl ty35)] [A.c (C.ow (0 : Nat) x0), inj (Ty.int Go.IntKind.i64) (Go.IntKind.wrap Go.IntKind.i64 (x1 - x2)), inj (Ty.int Go.IntKind.i64) x1, inj (Ty.int Go.IntKind.i64) x3, A.c (C.cl (45 : Nat) []), inj (Ty.pair Ty.unit (Ty.sl ty35)) ((), x4)]) fun r => l144_2 x0 x1 (Go.IntKind.wrap Go.IntKind.i64 (x2 - x3)) x3 r.snd.snd) (Option.bind (cR2 (nat_lit 160) [] [Ty.pair Ty.unit (Ty.sl ty35)] [A.c (C.ow (0 : Nat) x0), inj (Ty.int Go.IntKind.i64) (Go.IntKind.wrap Go.IntKind.i64 (x1 - x2)), inj (Ty.int Go.IntKind.i64) (Go.IntKind.wrap Go.IntKind.i64 (Go.IntKind.wrap Go.IntKind.i64 (x1 + x3) - x2)), inj (Ty.int Go.IntKind.i64) x2, A.c (C.cl (45 : Nat) []), inj (Ty.pair Ty.unit (Ty.sl ty35)) ((), x4)]) fun r => l144_2 x0 x1 x2 (Go.IntKind.wrap Go.IntKind.i64 (x3 - x2)) r.snd.snd)) (Option.bind (cR2 (nat_lit 160) [] [Ty.pair Ty.unit (Ty.sl ty35)] [A.c (C.ow (0 : Nat) x0), inj (Ty.int Go.IntKind.i64) (Go.IntKind.wrap Go.IntKind.i64 (x1 - x2)), inj (Ty.int Go.IntKind.i64) x1, inj (Ty.int Go.IntKind.i64) x2, A.c (C.cl (45 : Nat) []), inj (Ty.pair Ty.unit (Ty.sl ty35)) ((), x4)]) fun r => some (injRs [] () ++ injRs [RT.d (Ty.pair Ty.unit (Ty.sl ty35))] ((), r.snd.snd))) := by kernel_rfl
noncomputable def td122_1 : List Item := (findT (code Tryz.f122) [] 1).getD []
noncomputable def l122_1 (x0 : Nat) (x1 : Int) (x2 : Int) (x3 : Int) (x4 : List (ByteArray × Bool × List ByteArray)) : Option (List RV) := cutW W0 n122 td122_1 { fr := [((0 : Nat), F.a (A.c (C.ow (0 : Nat) x0))), ((1 : Nat), F.a (A.c (C.sc (Go.Value.int Go.IntKind.i64 x1)))), ((2 : Nat), F.a (A.c (C.sc (Go.Value.int Go.IntKind.i64 x2)))), ((3 : Nat), F.a (A.c (C.cl (45 : Nat) []))), ((8 : Nat), F.a (A.c (C.sc (Go.Value.int Go.IntKind.i64 x3))))], mem := [some (Row.arr (35 : Nat) ty35 x4 false)], nx := (1 : Nat) }
noncomputable def td122_4 : List Item := (findT (code Tryz.f122) [] 4).getD []
noncomputable def l122_4 (x0 : Nat) (x1 : Int) (x2 : Int) (x3 : Int) (x4 : Int) (x5 : List (ByteArray × Bool × List ByteArray)) : Option (List RV) := cutW W0 n122 td122_4 { fr := [((0 : Nat), F.a (A.c (C.ow (0 : Nat) x0))), ((1 : Nat), F.a (A.c (C.sc (Go.Value.int Go.IntKind.i64 x1)))), ((2 : Nat), F.a (A.c (C.sc (Go.Value.int Go.IntKind.i64 x2)))), ((3 : Nat), F.a (A.c (C.cl (45 : Nat) []))), ((8 : Nat), F.a (A.c (C.sc (Go.Value.int Go.IntKind.i64 x3)))), ((9 : Nat), F.a (A.c (C.sc (Go.Value.int Go.IntKind.i64 x4))))], mem := [some (Row.arr (35 : Nat) ty35 x5 false)], nx := (1 : Nat) }
theorem e122 (b0 : List (ByteArray × Bool × List ByteArray)) (a1 : Int) (a2 : Int) : callG W0 (callW W0) (cutW W0) 122 [A.c (C.ow (0 : Nat) (List.length b0)), inj (Ty.int Go.IntKind.i64) a1, inj (Ty.int Go.IntKind.i64) a2, A.c (C.cl (45 : Nat) []), A.ag [C.sl ty35 b0]] = l122_1 (List.length b0) a1 a2 (Go.IntKind.wrap Go.IntKind.i64 (a1 + (1 : Int))) b0 := by kernel_rfl
theorem q122_1 (x0 : Nat) (x1 : Int) (x2 : Int) (x3 : Int) (x4 : List (ByteArray × Bool × List ByteArray)) : cutG W0 (callW W0) (cutW W0) n122 td122_1 { fr := [((0 : Nat), F.a (A.c (C.ow (0 : Nat) x0))), ((1 : Nat), F.a (A.c (C.sc (Go.Value.int Go.IntKind.i64 x1)))), ((2 : Nat), F.a (A.c (C.sc (Go.Value.int Go.IntKind.i64 x2)))), ((3 : Nat), F.a (A.c (C.cl (45 : Nat) []))), ((8 : Nat), F.a (A.c (C.sc (Go.Value.int Go.IntKind.i64 x3))))], mem := [some (Row.arr (35 : Nat) ty35 x4 false)], nx := (1 : Nat) } = ifs (decide (x3 < x2) = true) (l122_4 x0 x1 x2 x3 x3 x4) (some (injRs [] () ++ injRs [RT.d (Ty.pair Ty.unit (Ty.sl ty35))] ((), x4))) := by kernel_rfl
theorem q122_4 (x0 : Nat) (x1 : Int) (x2 : Int) (x3 : Int) (x4 : Int) (x5 : List (ByteArray × Bool × List ByteArray)) : cutG W0 (callW W0) (cutW W0) n122 td122_4 { fr := [((0 : Nat), F.a (A.c (C.ow (0 : Nat) x0))), ((1 : Nat), F.a (A.c (C.sc (Go.Value.int Go.IntKind.i64 x1)))), ((2 : Nat), F.a (A.c (C.sc (Go.Value.int Go.IntKind.i64 x2)))), ((3 : Nat), F.a (A.c (C.cl (45 : Nat) []))), ((8 : Nat), F.a (A.c (C.sc (Go.Value.int Go.IntKind.i64 x3)))), ((9 : Nat), F.a (A.c (C.sc (Go.Value.int Go.IntKind.i64 x4))))], mem := [some (Row.arr (35 : Nat) ty35 x5 false)], nx := (1 : Nat) } = ifs (decide (x4 > x1) = true) (ifs ((0 : Int) ≤ x4 ∧ x4 < (↑x0 : Int)) (Option.bind x5[Int.toNat x4]? fun r => ifs ((0 : Int) ≤ Go.IntKind.wrap Go.IntKind.i64 (x4 - (1 : Int)) ∧ Go.IntKind.wrap Go.IntKind.i64 (x4 - (1 : Int)) < (↑x0 : Int)) (Option.bind x5[Int.toNat (Go.IntKind.wrap Go.IntKind.i64 (x4 - (1 : Int)))]? fun r_1 => Option.bind (cR (nat_lit 45) [RT.d (Ty.int Go.IntKind.i64)] [inj ty35 r, inj ty35 r_1]) fun r => ifs (decide (r < (0 : Int)) = true) (ifs ((0 : Int) ≤ Go.IntKind.wrap Go.IntKind.i64 (x4 - (1 : Int)) ∧ Go.IntKind.wrap Go.IntKind.i64 (x4 - (1 : Int)) < (↑x0 : Int)) (Option.bind x5[Int.toNat (Go.IntKind.wrap Go.IntKind.i64 (x4 - (1 : Int)))]? fun r => ifs ((0 : Int) ≤ x4 ∧ x4 < (↑x0 : Int)) (Option.bind x5[Int.toNat x4]? fun r_2 => ifs ((0 : Int) ≤ x4 ∧ x4 < (↑x0 : Int)) (Option.bind x5[Int.toNat x4]? fun r_3 => ifs ((0 : Int) ≤ Go.IntKind.wrap Go.IntKind.i64 (x4 - (1 : Int)) ∧ Go.IntKind.wrap Go.IntKind.i64 (x4 - (1 : Int)) < (↑x0 : Int)) (Option.bind (List.set x5 (Int.toNat x4) r)[Int.toNat (Go.IntKind.wrap Go.IntKind.i64 (x4 - (1 : Int)))]? fun r_4 => l122_4 x0 x1 x2 x3 (Go.IntKind.wrap Go.IntKind.i64 (x4 - (1 : Int))) (List.set (List.set x5 (Int.toNat x4) r) (Int.toNat (Go.IntKind.wrap Go.IntKind.i64 (x4 - (1 : Int)))) r_2)) none) none) none) none) (l122_1 x0 x1 x2 (Go.IntKind.wrap Go.IntKind.i64 (x3 + (1 : Int))) x5)) none) none) (l122_1 x0 x1 x2 (Go.IntKind.wrap Go.IntKind.i64 (x3 + (1 : Int))) x5) := by kernel_rfl
noncomputable def td123_3 : List Item := (findT (code Tryz.f123) [] 3).getD []
noncomputable def l123_3 (x0 : Nat) (x1 : Int) (x2 : Int) (x3 : Int) (x4 : List (ByteArray × Bool × List ByteArray)) : Option (List RV) := cutW W0 n123 td123_3 { fr := [((0 : Nat), F.a (A.c (C.ow (0 : Nat) x0))), ((1 : Nat), F.a (A.c (C.sc (Go.Value.int Go.IntKind.i64 x1)))), ((4 : Nat), F.a (A.c (C.cl (45 : Nat) []))), ((10 : Nat), F.a (A.c (C.sc (Go.Value.int Go.IntKind.i64 x2)))), ((11 : Nat), F.a (A.c (C.sc (Go.Value.int Go.IntKind.i64 x3))))], mem := [some (Row.arr (35 : Nat) ty35 x4 false)], nx := (1 : Nat) }
noncomputable def td123_15 : List Item := (findT (code Tryz.f123) [] 15).getD []
noncomputable def l123_15 (x0 : Nat) (x1 : Int) (x2 : Int) (x3 : Int) (x4 : List (ByteArray × Bool × List ByteArray)) : Option (List RV) := cutW W0 n123 td123_15 { fr := [((0 : Nat), F.a (A.c (C.ow (0 : Nat) x0))), ((2 : Nat), F.a (A.c (C.sc (Go.Value.int Go.IntKind.i64 x1)))), ((4 : Nat), F.a (A.c (C.cl (45 : Nat) []))), ((14 : Nat), F.a (A.c (C.sc (Go.Value.int Go.IntKind.i64 x2)))), ((15 : Nat), F.a (A.c (C.sc (Go.Value.int Go.IntKind.i64 x3))))], mem := [some (Row.arr (35 : Nat) ty35 x4 false)], nx := (1 : Nat) }
noncomputable def td123_33 : List Item := (findT (code Tryz.f123) [] 33).getD []
noncomputable def l123_33 (x0 : Nat) (x1 : Int) (x2 : Int) (x3 : Int) (x4 : Int) (x5 : Int) (x6 : Int) (x7 : Int) (x8 : Int) (x9 : List (ByteArray × Bool × List ByteArray)) : Option (List RV) := cutW W0 n123 td123_33 { fr := [((0 : Nat), F.a (A.c (C.ow (0 : Nat) x0))), ((1 : Nat), F.a (A.c (C.sc (Go.Value.int Go.IntKind.i64 x1)))), ((2 : Nat), F.a (A.c (C.sc (Go.Value.int Go.IntKind.i64 x2)))), ((3 : Nat), F.a (A.c (C.sc (Go.Value.int Go.IntKind.i64 x3)))), ((4 : Nat), F.a (A.c (C.cl (45 : Nat) []))), ((18 : Nat), F.a (A.c (C.sc (Go.Value.int Go.IntKind.i64 x4)))), ((19 : Nat), F.a (A.c (C.sc (Go.Value.int Go.IntKind.i64 x5)))), ((20 : Nat), F.a (A.c (C.sc (Go.Value.int Go.IntKind.i64 x6)))), ((21 : Nat), F.a (A.c (C.sc (Go.Value.int Go.IntKind.i64 x7)))), ((22 : Nat), F.a (A.c (C.sc (Go.Value.int Go.IntKind.i64 x8))))], mem := [some (Row.arr (35 : Nat) ty35 x9 false)], nx := (1 : Nat) }
noncomputable def td123_9 : List Item := (findT (code Tryz.f123) [] 9).getD []
noncomputable def l123_9 (x0 : Nat) (x1 : Int) (x2 : Int) (x3 : List (ByteArray × Bool × List ByteArray)) : Option (List RV) := cutW W0 n123 td123_9 { fr := [((0 : Nat), F.a (A.c (C.ow (0 : Nat) x0))), ((10 : Nat), F.a (A.c (C.sc (Go.Value.int Go.IntKind.i64 x1)))), ((13 : Nat), F.a (A.c (C.sc (Go.Value.int Go.IntKind.i64 x2))))], mem := [some (Row.arr (35 : Nat) ty35 x3 false)], nx := (1 : Nat) }
noncomputable def td123_21 : List Item := (findT (code Tryz.f123) [] 21).getD []
noncomputable def l123_21 (x0 : Nat) (x1 : Int) (x2 : Int) (x3 : List (ByteArray × Bool × List ByteArray)) : Option (List RV) := cutW W0 n123 td123_21 { fr := [((0 : Nat), F.a (A.c (C.ow (0 : Nat) x0))), ((14 : Nat), F.a (A.c (C.sc (Go.Value.int Go.IntKind.i64 x1)))), ((17 : Nat), F.a (A.c (C.sc (Go.Value.int Go.IntKind.i64 x2))))], mem := [some (Row.arr (35 : Nat) ty35 x3 false)], nx := (1 : Nat) }
theorem e123 (b0 : List (ByteArray × Bool × List ByteArray)) (a1 : Int) (a2 : Int) (a3 : Int) : callG W0 (callW W0) (cutW W0) 123 [A.c (C.ow (0 : Nat) (List.length b0)), inj (Ty.int Go.IntKind.i64) a1, inj (Ty.int Go.IntKind.i64) a2, inj (Ty.int Go.IntKind.i64) a3, A.c (C.cl (45 : Nat) []), A.ag [C.sl ty35 b0]] = ifs ((Go.IntKind.wrap Go.IntKind.i64 (a2 - a1) == (1 : Int)) = true) (l123_3 (List.length b0) a1 a2 a3 b0) (ifs ((Go.IntKind.wrap Go.IntKind.i64 (a3 - a2) == (1 : Int)) = true) (l123_15 (List.length b0) a2 a1 a2 b0) (ifs (decide (a2 > Go.IntKind.wrap Go.IntKind.i64 (Int.fdiv (Go.IntKind.wrap Go.IntKind.u64 (Go.IntKind.wrap Go.IntKind.i64 (a1 + a3))) ((2 : Int) ^ min (Int.toNat (1 : Int)) (Go.IntKind.bits Go.IntKind.u64)))) = true) (l123_33 (List.length b0) a1 a2 a3 (Go.IntKind.wrap Go.IntKind.i64 (Int.fdiv (Go.IntKind.wrap Go.IntKind.u64 (Go.IntKind.wrap Go.IntKind.i64 (a1 + a3))) ((2 : Int) ^ min (Int.toNat (1 : Int)) (Go.IntKind.bits Go.IntKind.u64)))) (Go.IntKind.wrap Go.IntKind.i64 (Go.IntKind.wrap Go.IntKind.i64 (Int.fdiv (Go.IntKind.wrap Go.IntKind.u64 (Go.IntKind.wrap Go.IntKind.i64 (a1 + a3))) ((2 : Int) ^ min (Int.toNat (1 : Int)) (Go.IntKind.bits Go.IntKind.u64))) + a2)) (Go.IntKind.wrap Go.IntKind.i64 (Go.IntKind.wrap Go.IntKind.i64 (Go.IntKind.wrap Go.IntKind.i64 (Int.fdiv (Go.IntKind.wrap Go.IntKind.u64 (Go.IntKind.wrap Go.IntKind.i64 (a1 + a3))) ((2 : Int) ^ min (Int.toNat (1 : Int)) (Go.IntKind.bits Go.IntKind.u64))) + a2) - a3)) (Go.IntKind.wrap Go.IntKind.i64 (Int.fdiv (Go.IntKind.wrap Go.IntKind.u64 (Go.IntKind.wrap Go.IntKind.i64 (a1 + a3))) ((2 : Int) ^ min (Int.toNat (1 : Int)) (Go.IntKind.bits Go.IntKind.u64)))) (Go.IntKind.wrap Go.IntKind.i64 (Go.IntKind.wrap Go.IntKind.i64 (Go.IntKind.wrap Go.IntKind.i64 (Int.fdiv (Go.IntKind.wrap Go.IntKind.u64 (Go.IntKind.wrap Go.IntKind.i64 (a1 + a3))) ((2 : Int) ^ min (Int.toNat (1 : Int)) (Go.IntKind.bits Go.IntKind.u64))) + a2) - (1 : Int))) b0) (l123_33 (List.length b0) a1 a2 a3 (Go.IntKind.wrap Go.IntKind.i64 (Int.fdiv (Go.IntKind.wrap Go.IntKind.u64 (Go.IntKind.wrap Go.IntKind.i64 (a1 + a3))) ((2 : Int) ^ min (Int.toNat (1 : Int)) (Go.IntKind.bits Go.IntKind.u64)))) (Go.IntKind.wrap Go.IntKind.i64 (Go.IntKind.wrap Go.IntKind.i64 (Int.fdiv (Go.IntKind.wrap Go.IntKind.u64 (Go.IntKind.wrap Go.IntKind.i64 (a1 + a3))) ((2 : Int) ^ min (Int.toNat (1 : Int)) (Go.IntKind.bits Go.IntKind.u64))) + a2)) a1 a2 (Go.IntKind.wrap Go.IntKind.i64 (Go.IntKind.wrap Go.IntKind.i64 (Go.IntKind.wrap Go.IntKind.i64 (Int.fdiv (Go.IntKind.wrap Go.IntKind.u64 (Go.IntKind.wrap Go.IntKind.i64 (a1 + a3))) ((2 : Int) ^ min (Int.toNat (1 : Int)) (Go.IntKind.bits Go.IntKind.u64))) + a2) - (1 : Int))) b0))) := by kernel_rfl
theorem q123_3 (x0 : Nat) (x1 : Int) (x2 : Int) (x3 : Int) (x4 : List (ByteArray × Bool × List ByteArray)) : cutG W0 (callW W0) (cutW W0) n123 td123_3 { fr := [((0 : Nat), F.a (A.c (C.ow (0 : Nat) x0))), ((1 : Nat), F.a (A.c (C.sc (Go.Value.int Go.IntKind.i64 x1)))), ((4 : Nat), F.a (A.c (C.cl (45 : Nat) []))), ((10 : Nat), F.a (A.c (C.sc (Go.Value.int Go.IntKind.i64 x2)))), ((11 : Nat), F.a (A.c (C.sc (Go.Value.int Go.IntKind.i64 x3))))], mem := [some (Row.arr (35 : Nat) ty35 x4 false)], nx := (1 : Nat) } = ifs (decide (x2 < x3) = true) (ifs ((0 : Int) ≤ Go.IntKind.wrap Go.IntKind.i64 (Int.fdiv (Go.IntKind.wrap Go.IntKind.u64 (Go.IntKind.wrap Go.IntKind.i64 (x2 + x3))) ((2 : Int) ^ min (Int.toNat (1 : Int)) (Go.IntKind.bits Go.IntKind.u64))) ∧ Go.IntKind.wrap Go.IntKind.i64 (Int.fdiv (Go.IntKind.wrap Go.IntKind.u64 (Go.IntKind.wrap Go.IntKind.i64 (x2 + x3))) ((2 : Int) ^ min (Int.toNat (1 : Int)) (Go.IntKind.bits Go.IntKind.u64))) < (↑x0 : Int)) (Option.bind x4[Int.toNat (Go.IntKind.wrap Go.IntKind.i64 (Int.fdiv (Go.IntKind.wrap Go.IntKind.u64 (Go.IntKind.wrap Go.IntKind.i64 (x2 + x3))) ((2 : Int) ^ min (Int.toNat (1 : Int)) (Go.IntKind.bits Go.IntKind.u64))))]? fun r => ifs ((0 : Int) ≤ x1 ∧ x1 < (↑x0 : Int)) (Option.bind x4[Int.toNat x1]? fun r_1 => Option.bind (cR (nat_lit 45) [RT.d (Ty.int Go.IntKind.i64)] [inj ty35 r, inj ty35 r_1]) fun r => ifs (decide (r < (0 : Int)) = true) (l123_3 x0 x1 (Go.IntKind.wrap Go.IntKind.i64 (Go.IntKind.wrap Go.IntKind.i64 (Int.fdiv (Go.IntKind.wrap Go.IntKind.u64 (Go.IntKind.wrap Go.IntKind.i64 (x2 + x3))) ((2 : Int) ^ min (Int.toNat (1 : Int)) (Go.IntKind.bits Go.IntKind.u64))) + (1 : Int))) x3 x4) (l123_3 x0 x1 x2 (Go.IntKind.wrap Go.IntKind.i64 (Int.fdiv (Go.IntKind.wrap Go.IntKind.u64 (Go.IntKind.wrap Go.IntKind.i64 (x2 + x3))) ((2 : Int) ^ min (Int.toNat (1 : Int)) (Go.IntKind.bits Go.IntKind.u64)))) x4)) none) none) (l123_9 x0 x2 x1 x4) := by kernel_rfl
theorem q123_15 (x0 : Nat) (x1 : Int) (x2 : Int) (x3 : Int) (x4 : List (ByteArray × Bool × List ByteArray)) : cutG W0 (callW W0) (cutW W0) n123 td123_15 { fr := [((0 : Nat), F.a (A.c (C.ow (0 : Nat) x0))), ((2 : Nat), F.a (A.c (C.sc (Go.Value.int Go.IntKind.i64 x1)))), ((4 : Nat), F.a (A.c (C.cl (45 : Nat) []))), ((14 : Nat), F.a (A.c (C.sc (Go.Value.int Go.IntKind.i64 x2)))), ((15 : Nat), F.a (A.c (C.sc (Go.Value.int Go.IntKind.i64 x3))))], mem := [some (Row.arr (35 : Nat) ty35 x4 false)], nx := (1 : Nat) } = ifs (decide (x2 < x3) = true) (ifs ((0 : Int) ≤ x1 ∧ x1 < (↑x0 : Int)) (Option.bind x4[Int.toNat x1]? fun r => ifs ((0 : Int) ≤ Go.IntKind.wrap Go.IntKind.i64 (Int.fdiv (Go.IntKind.wrap Go.IntKind.u64 (Go.IntKind.wrap Go.IntKind.i64 (x2 + x3))) ((2 : Int) ^ min (Int.toNat (1 : Int)) (Go.IntKind.bits Go.IntKind.u64))) ∧ Go.IntKind.wrap Go.IntKind.i64 (Int.fdiv (Go.IntKind.wrap Go.IntKind.u64 (Go.IntKind.wrap Go.IntKind.i64 (x2 + x3))) ((2 : Int) ^ min (Int.toNat (1 : Int)) (Go.IntKind.bits Go.IntKind.u64))) < (↑x0 : Int)) (Option.bind x4[Int.toNat (Go.IntKind.wrap Go.IntKind.i64 (Int.fdiv (Go.IntKind.wrap Go.IntKind.u64 (Go.IntKind.wrap Go.IntKind.i64 (x2 + x3))) ((2 : Int) ^ min (Int.toNat (1 : Int)) (Go.IntKind.bits Go.IntKind.u64))))]? fun r_1 => Option.bind (cR (nat_lit 45) [RT.d (Ty.int Go.IntKind.i64)] [inj ty35 r, inj ty35 r_1]) fun r => ifs ((!decide (r < (0 : Int))) = true) (l123_15 x0 x1 (Go.IntKind.wrap Go.IntKind.i64 (Go.IntKind.wrap Go.IntKind.i64 (Int.fdiv (Go.IntKind.wrap Go.IntKind.u64 (Go.IntKind.wrap Go.IntKind.i64 (x2 + x3))) ((2 : Int) ^ min (Int.toNat (1 : Int)) (Go.IntKind.bits Go.IntKind.u64))) + (1 : Int))) x3 x4) (l123_15 x0 x1 x2 (Go.IntKind.wrap Go.IntKind.i64 (Int.fdiv (Go.IntKind.wrap Go.IntKind.u64 (Go.IntKind.wrap Go.IntKind.i64 (x2 + x3))) ((2 : Int) ^ min (Int.toNat (1 : Int)) (Go.IntKind.bits Go.IntKind.u64)))) x4)) none) none) (l123_21 x0 x2 x1 x4) := by kernel_rfl
theorem q123_33 (x0 : Nat) (x1 : Int) (x2 : Int) (x3 : Int) (x4 : Int) (x5 : Int) (x6 : Int) (x7 : Int) (x8 : Int) (x9 : List (ByteArray × Bool × List ByteArray)) : cutG W0 (callW W0) (cutW W0) n123 td123_33 { fr := [((0 : Nat), F.a (A.c (C.ow (0 : Nat) x0))), ((1 : Nat), F.a (A.c (C.sc (Go.Value.int Go.IntKind.i64 x1)))), ((2 : Nat), F.a (A.c (C.sc (Go.Value.int Go.IntKind.i64 x2)))), ((3 : Nat), F.a (A.c (C.sc (Go.Value.int Go.IntKind.i64 x3)))), ((4 : Nat), F.a (A.c (C.cl (45 : Nat) []))), ((18 : Nat), F.a (A.c (C.sc (Go.Value.int Go.IntKind.i64 x4)))), ((19 : Nat), F.a (A.c (C.sc (Go.Value.int Go.IntKind.i64 x5)))), ((20 : Nat), F.a (A.c (C.sc (Go.Value.int Go.IntKind.i64 x6)))), ((21 : Nat), F.a (A.c (C.sc (Go.Value.int Go.IntKind.i64 x7)))), ((22 : Nat), F.a (A.c (C.sc (Go.Value.int Go.IntKind.i64 x8))))], mem := [some (Row.arr (35 : Nat) ty35 x9 false)], nx := (1 : Nat) } = ifs (decide (x6 < x7) = true) (ifs ((0 : Int) ≤ Go.IntKind.wrap Go.IntKind.i64 (x8 - Go.IntKind.wrap Go.IntKind.i64 (Int.fdiv (Go.IntKind.wrap Go.IntKind.u64 (Go.IntKind.wrap Go.IntKind.i64 (x6 + x7))) ((2 : Int) ^ min (Int.toNat (1 : Int)) (Go.IntKind.bits Go.IntKind.u64)))) ∧ Go.IntKind.wrap Go.IntKind.i64 (x8 - Go.IntKind.wrap Go.IntKind.i64 (Int.fdiv (Go.IntKind.wrap Go.IntKind.u64 (Go.IntKind.wrap Go.IntKind.i64 (x6 + x7))) ((2 : Int) ^ min (Int.toNat (1 : Int)) (Go.IntKind.bits Go.IntKind.u64)))) < (↑x0 : Int)) (Option.bind x9[Int.toNat (Go.IntKind.wrap Go.IntKind.i64 (x8 - Go.IntKind.wrap Go.IntKind.i64 (Int.fdiv (Go.IntKind.wrap Go.IntKind.u64 (Go.IntKind.wrap Go.IntKind.i64 (x6 + x7))) ((2 : Int) ^ min (Int.toNat (1 : Int)) (Go.IntKind.bits Go.IntKind.u64)))))]? fun r => ifs ((0 : Int) ≤ Go.IntKind.wrap Go.IntKind.i64 (Int.fdiv (Go.IntKind.wrap Go.IntKind.u64 (Go.IntKind.wrap Go.IntKind.i64 (x6 + x7))) ((2 : Int) ^ min (Int.toNat (1 : Int)) (Go.IntKind.bits Go.IntKind.u64))) ∧ Go.IntKind.wrap Go.IntKind.i64 (Int.fdiv (Go.IntKind.wrap Go.IntKind.u64 (Go.IntKind.wrap Go.IntKind.i64 (x6 + x7))) ((2 : Int) ^ min (Int.toNat (1 : Int)) (Go.IntKind.bits Go.IntKind.u64))) < (↑x0 : Int)) (Option.bind x9[Int.toNat (Go.IntKind.wrap Go.IntKind.i64 (Int.fdiv (Go.IntKind.wrap Go.IntKind.u64 (Go.IntKind.wrap Go.IntKind.i64 (x6 + x7))) ((2 : Int) ^ min (Int.toNat (1 : Int)) (Go.IntKind.bits Go.IntKind.u64))))]? fun r_1 => Option.bind (cR (nat_lit 45) [RT.d (Ty.int Go.IntKind.i64)] [inj ty35 r, inj ty35 r_1]) fun r => ifs ((!decide (r < (0 : Int))) = true) (l123_33 x0 x1 x2 x3 x4 x5 (Go.IntKind.wrap Go.IntKind.i64 (Go.IntKind.wrap Go.IntKind.i64 (Int.fdiv (Go.IntKind.wrap Go.IntKind.u64 (Go.IntKind.wrap Go.IntKind.i64 (x6 + x7))) ((2 : Int) ^ min (Int.toNat (1 : Int)) (Go.IntKind.bits Go.IntKind.u64))) + (1 : Int))) x7 x8 x9) (l123_33 x0 x1 x2 x3 x4 x5 x6 (Go.IntKind.wrap Go.IntKind.i64 (Int.fdiv (Go.IntKind.wrap Go.IntKind.u64 (Go.IntKind.wrap Go.IntKind.i64 (x6 + x7))) ((2 : Int) ^ min (Int.toNat (1 : Int)) (Go.IntKind.bits Go.IntKind.u64)))) x8 x9)) none) none) (ifs (decide (x6 < x2) = true) (ifs (decide (x2 < Go.IntKind.wrap Go.IntKind.i64 (x5 - x6)) = true) (Option.bind (cR2 (nat_lit 144) [] [Ty.pair Ty.unit (Ty.sl ty35)] [A.c (C.ow (0 : Nat) x0), inj (Ty.int Go.IntKind.i64) x6, inj (Ty.int Go.IntKind.i64) x2, inj (Ty.int Go.IntKind.i64) (Go.IntKind.wrap Go.IntKind.i64 (x5 - x6)), A.c (C.cl (45 : Nat) []), inj (Ty.pair Ty.unit (Ty.sl ty35)) ((), x9)]) fun r => ifs (decide (x1 < x6) = true) (ifs (decide (x6 < x4) = true) (Option.bind (cR2 (nat_lit 123) [] [Ty.pair Ty.unit (Ty.sl ty35)] [A.c (C.ow (0 : Nat) x0), inj (Ty.int Go.IntKind.i64) x1, inj (Ty.int Go.IntKind.i64) x6, inj (Ty.int Go.IntKind.i64) x4, A.c (C.cl (45 : Nat) []), inj (Ty.pair Ty.unit (Ty.sl ty35)) ((), r.snd.snd)]) fun r => ifs (decide (x4 < Go.IntKind.wrap Go.IntKind.i64 (x5 - x6)) = true) (ifs (decide (Go.IntKind.wrap Go.IntKind.i64 (x5 - x6) < x3) = true) (Option.bind (cR2 (nat_lit 123) [] [Ty.pair Ty.unit (Ty.sl ty35)] [A.c (C.ow (0 : Nat) x0), inj (Ty.int Go.IntKind.i64) x4, inj (Ty.int Go.IntKind.i64) (Go.IntKind.wrap Go.IntKind.i64 (x5 - x6)), inj (Ty.int Go.IntKind.i64) x3, A.c (C.cl (45 : Nat) []), inj (Ty.pair Ty.unit (Ty.sl ty35)) ((), r.snd.snd)]) fun r => some (injRs [] () ++ injRs [RT.d (Ty.pair Ty.unit (Ty.sl ty35))] ((), r.snd.snd))) (some (injRs [] () ++ injRs [RT.d (Ty.pair Ty.unit (Ty.sl ty35))] ((), r.snd.snd)))) (some (injRs [] () ++ injRs [RT.d (Ty.pair Ty.unit (Ty.sl ty35))] ((), r.snd.snd)))) (ifs (decide (x4 < Go.IntKind.wrap Go.IntKind.i64 (x5 - x6)) = true) (ifs (decide (Go.IntKind.wrap Go.IntKind.i64 (x5 - x6) < x3) = true) (Option.bind (cR2 (nat_lit 123) [] [Ty.pair Ty.unit (Ty.sl ty35)] [A.c (C.ow (0 : Nat) x0), inj (Ty.int Go.IntKind.i64) x4, inj (Ty.int Go.IntKind.i64) (Go.IntKind.wrap Go.IntKind.i64 (x5 - x6)), inj (Ty.int Go.IntKind.i64) x3, A.c (C.cl (45 : Nat) []), inj (Ty.pair Ty.unit (Ty.sl ty35)) ((), r.snd.snd)]) fun r => some (injRs [] () ++ injRs [RT.d (Ty.pair Ty.unit (Ty.sl ty35))] ((), r.snd.snd))) (some (injRs [] () ++ injRs [RT.d (Ty.pair Ty.unit (Ty.sl ty35))] ((), r.snd.snd)))) (some (injRs [] () ++ injRs [RT.d (Ty.pair Ty.unit (Ty.sl ty35))] ((), r.snd.snd))))) (ifs (decide (x4 < Go.IntKind.wrap Go.IntKind.i64 (x5 - x6)) = true) (ifs (decide (Go.IntKind.wrap Go.IntKind.i64 (x5 - x6) < x3) = true) (Option.bind (cR2 (nat_lit 123) [] [Ty.pair Ty.unit (Ty.sl ty35)] [A.c (C.ow (0 : Nat) x0), inj (Ty.int Go.IntKind.i64) x4, inj (Ty.int Go.IntKind.i64) (Go.IntKind.wrap Go.IntKind.i64 (x5 - x6)), inj (Ty.int Go.IntKind.i64) x3, A.c (C.cl (45 : Nat) []), inj (Ty.pair Ty.unit (Ty.sl ty35)) ((), r.snd.snd)]) fun r => some (injRs [] () ++ injRs [RT.d (Ty.pair Ty.unit (Ty.sl ty35))] ((), r.snd.snd))) (some (injRs [] () ++ injRs [RT.d (Ty.pair Ty.unit (Ty.sl ty35))] ((), r.snd.snd)))) (some (injRs [] () ++ injRs [RT.d (Ty.pair Ty.unit (Ty.sl ty35))] ((), r.snd.snd))))) (ifs (decide (x1 < x6) = true) (ifs (decide (x6 < x4) = true) (Option.bind (cR2 (nat_lit 123) [] [Ty.pair Ty.unit (Ty.sl ty35)] [A.c (C.ow (0 : Nat) x0), inj (Ty.int Go.IntKind.i64) x1, inj (Ty.int Go.IntKind.i64) x6, inj (Ty.int Go.IntKind.i64) x4, A.c (C.cl (45 : Nat) []), inj (Ty.pair Ty.unit (Ty.sl ty35)) ((), x9)]) fun r => ifs (decide (x4 < Go.IntKind.wrap Go.IntKind.i64 (x5 - x6)) = true) (ifs (decide (Go.IntKind.wrap Go.IntKind.i64 (x5 - x6) < x3) = true) (Option.bind (cR2 (nat_lit 123) [] [Ty.pair Ty.unit (Ty.sl ty35)] [A.c (C.ow (0 : Nat) x0), inj (Ty.int Go.IntKind.i64) x4, inj (Ty.int Go.IntKind.i64) (Go.IntKind.wrap Go.IntKind.i64 (x5 - x6)), inj (Ty.int Go.IntKind.i64) x3, A.c (C.cl (45 : Nat) []), inj (Ty.pair Ty.unit (Ty.sl ty35)) ((), r.snd.snd)]) fun r => some (injRs [] () ++ injRs [RT.d (Ty.pair Ty.unit (Ty.sl ty35))] ((), r.snd.snd))) (some (injRs [] () ++ injRs [RT.d (Ty.pair Ty.unit (Ty.sl ty35))] ((), r.snd.snd)))) (some (injRs [] () ++ injRs [RT.d (Ty.pair Ty.unit (Ty.sl ty35))] ((), r.snd.snd)))) (ifs (decide (x4 < Go.IntKind.wrap Go.IntKind.i64 (x5 - x6)) = true) (ifs (decide (Go.IntKind.wrap Go.IntKind.i64 (x5 - x6) < x3) = true) (Option.bind (cR2 (nat_lit 123) [] [Ty.pair Ty.unit (Ty.sl ty35)] [A.c (C.ow (0 : Nat) x0), inj (Ty.int Go.IntKind.i64) x4, inj (Ty.int Go.IntKind.i64) (Go.IntKind.wrap Go.IntKind.i64 (x5 - x6)), inj (Ty.int Go.IntKind.i64) x3, A.c (C.cl (45 : Nat) []), inj (Ty.pair Ty.unit (Ty.sl ty35)) ((), x9)]) fun r => some (injRs [] () ++ injRs [RT.d (Ty.pair Ty.unit (Ty.sl ty35))] ((), r.snd.snd))) (some (injRs [] () ++ injRs [RT.d (Ty.pair Ty.unit (Ty.sl ty35))] ((), x9)))) (some (injRs [] () ++ injRs [RT.d (Ty.pair Ty.unit (Ty.sl ty35))] ((), x9))))) (ifs (decide (x4 < Go.IntKind.wrap Go.IntKind.i64 (x5 - x6)) = true) (ifs (decide (Go.IntKind.wrap Go.IntKind.i64 (x5 - x6) < x3) = true) (Option.bind (cR2 (nat_lit 123) [] [Ty.pair Ty.unit (Ty.sl ty35)] [A.c (C.ow (0 : Nat) x0), inj (Ty.int Go.IntKind.i64) x4, inj (Ty.int Go.IntKind.i64) (Go.IntKind.wrap Go.IntKind.i64 (x5 - x6)), inj (Ty.int Go.IntKind.i64) x3, A.c (C.cl (45 : Nat) []), inj (Ty.pair Ty.unit (Ty.sl ty35)) ((), x9)]) fun r => some (injRs [] () ++ injRs [RT.d (Ty.pair Ty.unit (Ty.sl ty35))] ((), r.snd.snd))) (some (injRs [] () ++ injRs [RT.d (Ty.pair Ty.unit (Ty.sl ty35))] ((), x9)))) (some (injRs [] () ++ injRs [RT.d (Ty.pair Ty.unit (Ty.sl ty35))] ((), x9)))))) (ifs (decide (x1 < x6) = true) (ifs (decide (x6 < x4) = true) (Option.bind (cR2 (nat_lit 123) [] [Ty.pair Ty.unit (Ty.sl ty35)] [A.c (C.ow (0 : Nat) x0), inj (Ty.int Go.IntKind.i64) x1, inj (Ty.int Go.IntKind.i64) x6, inj (Ty.int Go.IntKind.i64) x4, A.c (C.cl (45 : Nat) []), inj (Ty.pair Ty.unit (Ty.sl ty35)) ((), x9)]) fun r => ifs (decide (x4 < Go.IntKind.wrap Go.IntKind.i64 (x5 - x6)) = true) (ifs (decide (Go.IntKind.wrap Go.IntKind.i64 (x5 - x6) < x3) = true) (Option.bind (cR2 (nat_lit 123) [] [Ty.pair Ty.unit (Ty.sl ty35)] [A.c (C.ow (0 : Nat) x0), inj (Ty.int Go.IntKind.i64) x4, inj (Ty.int Go.IntKind.i64) (Go.IntKind.wrap Go.IntKind.i64 (x5 - x6)), inj (Ty.int Go.IntKind.i64) x3, A.c (C.cl (45 : Nat) []), inj (Ty.pair Ty.unit (Ty.sl ty35)) ((), r.snd.snd)]) fun r => some (injRs [] () ++ injRs [RT.d (Ty.pair Ty.unit (Ty.sl ty35))] ((), r.snd.snd))) (some (injRs [] () ++ injRs [RT.d (Ty.pair Ty.unit (Ty.sl ty35))] ((), r.snd.snd)))) (some (injRs [] () ++ injRs [RT.d (Ty.pair Ty.unit (Ty.sl ty35))] ((), r.snd.snd)))) (ifs (decide (x4 < Go.IntKind.wrap Go.IntKind.i64 (x5 - x6)) = true) (ifs (decide (Go.IntKind.wrap Go.IntKind.i64 (x5 - x6) < x3) = true) (Option.bind (cR2 (nat_lit 123) [] [Ty.pair Ty.unit (Ty.sl ty35)] [A.c (C.ow (0 : Nat) x0), inj (Ty.int Go.IntKind.i64) x4, inj (Ty.int Go.IntKind.i64) (Go.IntKind.wrap Go.IntKind.i64 (x5 - x6)), inj (Ty.int Go.IntKind.i64) x3, A.c (C.cl (45 : Nat) []), inj (Ty.pair Ty.unit (Ty.sl ty35)) ((), x9)]) fun r => some (injRs [] () ++ injRs [RT.d (Ty.pair Ty.unit (Ty.sl ty35))] ((), r.snd.snd))) (some (injRs [] () ++ injRs [RT.d (Ty.pair Ty.unit (Ty.sl ty35))] ((), x9)))) (some (injRs [] () ++ injRs [RT.d (Ty.pair Ty.unit (Ty.sl ty35))] ((), x9))))) (ifs (decide (x4 < Go.IntKind.wrap Go.IntKind.i64 (x5 - x6)) = true) (ifs (decide (Go.IntKind.wrap Go.IntKind.i64 (x5 - x6) < x3) = true) (Option.bind (cR2 (nat_lit 123) [] [Ty.pair Ty.unit (Ty.sl ty35)] [A.c (C.ow (0 : Nat) x0), inj (Ty.int Go.IntKind.i64) x4, inj (Ty.int Go.IntKind.i64) (Go.IntKind.wrap Go.IntKind.i64 (x5 - x6)), inj (Ty.int Go.IntKind.i64) x3, A.c (C.cl (45 : Nat) []), inj (Ty.pair Ty.unit (Ty.sl ty35)) ((), x9)]) fun r => some (injRs [] () ++ injRs [RT.d (Ty.pair Ty.unit (Ty.sl ty35))] ((), r.snd.snd))) (some (injRs [] () ++ injRs [RT.d (Ty.pair Ty.unit (Ty.sl ty35))] ((), x9)))) (some (injRs [] () ++ injRs [RT.d (Ty.pair Ty.unit (Ty.sl ty35))] ((), x9)))))) := by kernel_rfl
theorem q123_9 (x0 : Nat) (x1 : Int) (x2 : Int) (x3 : List (ByteArray × Bool × List ByteArray)) : cutG W0 (callW W0) (cutW W0) n123 td123_9 { fr := [((0 : Nat), F.a (A.c (C.ow (0 : Nat) x0))), ((10 : Nat), F.a (A.c (C.sc (Go.Value.int Go.IntKind.i64 x1)))), ((13 : Nat), F.a (A.c (C.sc (Go.Value.int Go.IntKind.i64 x2))))], mem := [some (Row.arr (35 : Nat) ty35 x3 false)], nx := (1 : Nat) } = ifs (decide (x2 < Go.IntKind.wrap Go.IntKind.i64 (x1 - (1 : Int))) = true) (ifs ((0 : Int) ≤ Go.IntKind.wrap Go.IntKind.i64 (x2 + (1 : Int)) ∧ Go.IntKind.wrap Go.IntKind.i64 (x2 + (1 : Int)) < (↑x0 : Int)) (Option.bind x3[Int.toNat (Go.IntKind.wrap Go.IntKind.i64 (x2 + (1 : Int)))]? fun r => ifs ((0 : Int) ≤ x2 ∧ x2 < (↑x0 : Int)) (Option.bind x3[Int.toNat x2]? fun r_1 => ifs ((0 : Int) ≤ x2 ∧ x2 < (↑x0 : Int)) (Option.bind x3[Int.toNat x2]? fun r_2 => ifs ((0 : Int) ≤ Go.IntKind.wrap Go.IntKind.i64 (x2 + (1 : Int)) ∧ Go.IntKind.wrap Go.IntKind.i64 (x2 + (1 : Int)) < (↑x0 : Int)) (Option.bind (List.set x3 (Int.toNat x2) r)[Int.toNat (Go.IntKind.wrap Go.IntKind.i64 (x2 + (1 : Int)))]? fun r_3 => l123_9 x0 x1 (Go.IntKind.wrap Go.IntKind.i64 (x2 + (1 : Int))) (List.set (List.set x3 (Int.toNat x2) r) (Int.toNat (Go.IntKind.wrap Go.IntKind.i64 (x2 + (1 : Int)))) r_1)) none) none) none) none) (some (injRs [] () ++ injRs [RT.d (Ty.pair Ty.unit (Ty.sl ty35))] ((), x3))) := by kernel_rfl
theorem q123_21 (x0 : Nat) (x1 : Int) (x2 : Int) (x3 : List (ByteArray × Bool × List ByteArray)) : cutG W0 (callW W0) (cutW W0) n123 td123_21 { fr := [((0 : Nat), F.a (A.c (C.ow (0 : Nat) x0))), ((14 : Nat), F.a (A.c (C.sc (Go.Value.int Go.IntKind.i64 x1)))), ((17 : Nat), F.a (A.c (C.sc (Go.Value.int Go.IntKind.i64 x2))))], mem := [some (Row.arr (35 : Nat) ty35 x3 false)], nx := (1 : Nat) } = ifs (decide (x2 > x1) = true) (ifs ((0 : Int) ≤ Go.IntKind.wrap Go.IntKind.i64 (x2 - (1 : Int)) ∧ Go.IntKind.wrap Go.IntKind.i64 (x2 - (1 : Int)) < (↑x0 : Int)) (Option.bind x3[Int.toNat (Go.IntKind.wrap Go.IntKind.i64 (x2 - (1 : Int)))]? fun r => ifs ((0 : Int) ≤ x2 ∧ x2 < (↑x0 : Int)) (Option.bind x3[Int.toNat x2]? fun r_1 => ifs ((0 : Int) ≤ x2 ∧ x2 < (↑x0 : Int)) (Option.bind x3[Int.toNat x2]? fun r_2 => ifs ((0 : Int) ≤ Go.IntKind.wrap Go.IntKind.i64 (x2 - (1 : Int)) ∧ Go.IntKind.wrap Go.IntKind.i64 (x2 - (1 : Int)) < (↑x0 : Int)) (Option.bind (List.set x3 (Int.toNat x2) r)[Int.toNat (Go.IntKind.wrap Go.IntKind.i64 (x2 - (1 : Int)))]? fun r_3 => l123_21 x0 x1 (Go.IntKind.wrap Go.IntKind.i64 (x2 - (1 : Int))) (List.set (List.set x3 (Int.toNat x2) r) (Int.toNat (Go.IntKind.wrap Go.IntKind.i64 (x2 - (1 : Int)))) r_1)) none) none) none) none) (some (injRs [] () ++ injRs [RT.d (Ty.pair Ty.unit (Ty.sl ty35))] ((), x3))) := by kernel_rfl
noncomputable def td85_2 : List Item := (findT (code Tryz.f85) [] 2).getD []
noncomputable def l85_2 (x0 : Nat) (x1 : Int) (x2 : Int) (x3 : Int) (x4 : Int) (x5 : List (ByteArray × Bool × List ByteArray)) : Option (List RV) := cutW W0 n85 td85_2 { fr := [((0 : Nat), F.a (A.c (C.ow (0 : Nat) x0))), ((1 : Nat), F.a (A.c (C.sc (Go.Value.int Go.IntKind.i64 x1)))), ((2 : Nat), F.a (A.c (C.cl (45 : Nat) []))), ((6 : Nat), F.a (A.c (C.sc (Go.Value.int Go.IntKind.i64 x2)))), ((7 : Nat), F.a (A.c (C.sc (Go.Value.int Go.IntKind.i64 x3)))), ((8 : Nat), F.a (A.c (C.sc (Go.Value.int Go.IntKind.i64 x4))))], mem := [some (Row.arr (35 : Nat) ty35 x5 false)], nx := (1 : Nat) }
noncomputable def td85_7 : List Item := (findT (code Tryz.f85) [] 7).getD []
noncomputable def l85_7 (x0 : Nat) (x1 : Int) (x2 : Int) (x3 : List (ByteArray × Bool × List ByteArray)) : Option (List RV) := cutW W0 n85 td85_7 { fr := [((0 : Nat), F.a (A.c (C.ow (0 : Nat) x0))), ((1 : Nat), F.a (A.c (C.sc (Go.Value.int Go.IntKind.i64 x1)))), ((2 : Nat), F.a (A.c (C.cl (45 : Nat) []))), ((6 : Nat), F.a (A.c (C.sc (Go.Value.int Go.IntKind.i64 x2))))], mem := [some (Row.arr (35 : Nat) ty35 x3 false)], nx := (1 : Nat) }
noncomputable def td85_9 : List Item := (findT (code Tryz.f85) [] 9).getD []
noncomputable def l85_9 (x0 : Nat) (x1 : Int) (x2 : Int) (x3 : Int) (x4 : Int) (x5 : List (ByteArray × Bool × List ByteArray)) : Option (List RV) := cutW W0 n85 td85_9 { fr := [((0 : Nat), F.a (A.c (C.ow (0 : Nat) x0))), ((1 : Nat), F.a (A.c (C.sc (Go.Value.int Go.IntKind.i64 x1)))), ((2 : Nat), F.a (A.c (C.cl (45 : Nat) []))), ((6 : Nat), F.a (A.c (C.sc (Go.Value.int Go.IntKind.i64 x2)))), ((7 : Nat), F.a (A.c (C.sc (Go.Value.int Go.IntKind.i64 x3)))), ((8 : Nat), F.a (A.c (C.sc (Go.Value.int Go.IntKind.i64 x4))))], mem := [some (Row.arr (35 : Nat) ty35 x5 false)], nx := (1 : Nat) }
theorem e85 (b0 : List (ByteArray × Bool × List ByteArray)) (a1 : Int) : callG W0 (callW W0) (cutW W0) 85 [A.c (C.ow (0 : Nat) (List.length b0)), inj (Ty.int Go.IntKind.i64) a1, A.c (C.cl (45 : Nat) []), A.ag [C.sl ty35 b0]] = l85_2 (List.length b0) a1 (20 : Int) (0 : Int) (20 : Int) b0 := by kernel_rfl
theorem q85_2 (x0 : Nat) (x1 : Int) (x2 : Int) (x3 : Int) (x4 : Int) (x5 : List (ByteArray × Bool × List ByteArray)) : cutG W0 (callW W0) (cutW W0) n85 td85_2 { fr := [((0 : Nat), F.a (A.c (C.ow (0 : Nat) x0))), ((1 : Nat), F.a (A.c (C.sc (Go.Value.int Go.IntKind.i64 x1)))), ((2 : Nat), F.a (A.c (C.cl (45 : Nat) []))), ((6 : Nat), F.a (A.c (C.sc (Go.Value.int Go.IntKind.i64 x2)))), ((7 : Nat), F.a (A.c (C.sc (Go.Value.int Go.IntKind.i64 x3)))), ((8 : Nat), F.a (A.c (C.sc (Go.Value.int Go.IntKind.i64 x4))))], mem := [some (Row.arr (35 : Nat) ty35 x5 false)], nx := (1 : Nat) } = ifs (decide (x4 ≤ x1) = true) (Option.bind (cR2 (nat_lit 122) [] [Ty.pair Ty.unit (Ty.sl ty35)] [A.c (C.ow (0 : Nat) x0), inj (Ty.int Go.IntKind.i64) x3, inj (Ty.int Go.IntKind.i64) x4, A.c (C.cl (45 : Nat) []), inj (Ty.pair Ty.unit (Ty.sl ty35)) ((), x5)]) fun r => l85_2 x0 x1 x2 x4 (Go.IntKind.wrap Go.IntKind.i64 (x4 + x2)) r.snd.snd) (Option.bind (cR2 (nat_lit 122) [] [Ty.pair Ty.unit (Ty.sl ty35)] [A.c (C.ow (0 : Nat) x0), inj (Ty.int Go.IntKind.i64) x3, inj (Ty.int Go.IntKind.i64) x1, A.c (C.cl (45 : Nat) []), inj (Ty.pair Ty.unit (Ty.sl ty35)) ((), x5)]) fun r => l85_7 x0 x1 x2 r.snd.snd) := by kernel_rfl
theorem q85_7 (x0 : Nat) (x1 : Int) (x2 : Int) (x3 : List (ByteArray × Bool × List ByteArray)) : cutG W0 (callW W0) (cutW W0) n85 td85_7 { fr := [((0 : Nat), F.a (A.c (C.ow (0 : Nat) x0))), ((1 : Nat), F.a (A.c (C.sc (Go.Value.int Go.IntKind.i64 x1)))), ((2 : Nat), F.a (A.c (C.cl (45 : Nat) []))), ((6 : Nat), F.a (A.c (C.sc (Go.Value.int Go.IntKind.i64 x2))))], mem := [some (Row.arr (35 : Nat) ty35 x3 false)], nx := (1 : Nat) } = ifs (decide (x2 < x1) = true) (l85_9 x0 x1 x2 (0 : Int) (Go.IntKind.wrap Go.IntKind.i64 ((2 : Int) * x2)) x3) (some (injRs [] () ++ injRs [RT.d (Ty.pair Ty.unit (Ty.sl ty35))] ((), x3))) := by kernel_rfl
theorem q85_9 (x0 : Nat) (x1 : Int) (x2 : Int) (x3 : Int) (x4 : Int) (x5 : List (ByteArray × Bool × List ByteArray)) : cutG W0 (callW W0) (cutW W0) n85 td85_9 { fr := [((0 : Nat), F.a (A.c (C.ow (0 : Nat) x0))), ((1 : Nat), F.a (A.c (C.sc (Go.Value.int Go.IntKind.i64 x1)))), ((2 : Nat), F.a (A.c (C.cl (45 : Nat) []))), ((6 : Nat), F.a (A.c (C.sc (Go.Value.int Go.IntKind.i64 x2)))), ((7 : Nat), F.a (A.c (C.sc (Go.Value.int Go.IntKind.i64 x3)))), ((8 : Nat), F.a (A.c (C.sc (Go.Value.int Go.IntKind.i64 x4))))], mem := [some (Row.arr (35 : Nat) ty35 x5 false)], nx := (1 : Nat) } = ifs (decide (x4 ≤ x1) = true) (Option.bind (cR2 (nat_lit 123) [] [Ty.pair Ty.unit (Ty.sl ty35)] [A.c (C.ow (0 : Nat) x0), inj (Ty.int Go.IntKind.i64) x3, inj (Ty.int Go.IntKind.i64) (Go.IntKind.wrap Go.IntKind.i64 (x3 + x2)), inj (Ty.int Go.IntKind.i64) x4, A.c (C.cl (45 : Nat) []), inj (Ty.pair Ty.unit (Ty.sl ty35)) ((), x5)]) fun r => l85_9 x0 x1 x2 x4 (Go.IntKind.wrap Go.IntKind.i64 (x4 + Go.IntKind.wrap Go.IntKind.i64 ((2 : Int) * x2))) r.snd.snd) (ifs (decide (Go.IntKind.wrap Go.IntKind.i64 (x3 + x2) < x1) = true) (Option.bind (cR2 (nat_lit 123) [] [Ty.pair Ty.unit (Ty.sl ty35)] [A.c (C.ow (0 : Nat) x0), inj (Ty.int Go.IntKind.i64) x3, inj (Ty.int Go.IntKind.i64) (Go.IntKind.wrap Go.IntKind.i64 (x3 + x2)), inj (Ty.int Go.IntKind.i64) x1, A.c (C.cl (45 : Nat) []), inj (Ty.pair Ty.unit (Ty.sl ty35)) ((), x5)]) fun r => l85_7 x0 x1 (Go.IntKind.wrap Go.IntKind.i64 (x2 * (2 : Int))) r.snd.snd) (l85_7 x0 x1 (Go.IntKind.wrap Go.IntKind.i64 (x2 * (2 : Int))) x5)) := by kernel_rfl
theorem e44 (b0 : List (ByteArray × Bool × List ByteArray)) : callG W0 (callW W0) (cutW W0) 44 [A.c (C.ow (0 : Nat) (List.length b0)), A.c (C.cl (45 : Nat) []), A.ag [C.sl ty35 b0]] = Option.bind (cR2 (nat_lit 85) [] [Ty.pair Ty.unit (Ty.sl ty35)] [A.c (C.ow (0 : Nat) (List.length b0)), inj (Ty.int Go.IntKind.i64) (↑(List.length b0) : Int), A.c (C.cl (45 : Nat) []), inj (Ty.pair Ty.unit (Ty.sl ty35)) ((), b0)]) fun r => some (injRs [] () ++ injRs [RT.d (Ty.pair Ty.unit (Ty.sl ty35))] ((), r.snd.snd)) := by kernel_rfl
noncomputable def td13_7 : List Item := (findT (code Tryz.f13) [] 7).getD []
noncomputable def l13_7 (x0 : Nat) (x1 : Int) (x2 : Int) (x3 : List (ByteArray × Bool × List ByteArray)) : Option (List RV) := cutW W0 n13 td13_7 { fr := [((2 : Nat), F.a (A.c (C.pt (Pt.own (0 : Nat) (0 : Nat) (0 : Nat))))), ((5 : Nat), F.a (A.c (C.pt (Pt.own (1 : Nat) (0 : Nat) (0 : Nat))))), ((18 : Nat), F.a (A.c (C.ow (2 : Nat) x0))), ((19 : Nat), F.a (A.c (C.sc (Go.Value.int Go.IntKind.i64 x1)))), ((20 : Nat), F.a (A.c (C.sc (Go.Value.int Go.IntKind.i64 x2))))], mem := [some (Row.box (31 : Nat) (some ty31) [C.nl] false), some (Row.box (31 : Nat) (some ty31) [C.nl] false), some (Row.arr (35 : Nat) ty35 x3 false)], nx := (3 : Nat) }
noncomputable def l13_7v1 (x0 : Nat) (x1 : Int) (x2 : Int) (x3 : List (ByteArray × Bool × List ByteArray)) (x4 : List (ByteArray × Bool × List ByteArray)) : Option (List RV) := cutW W0 n13 td13_7 { fr := [((2 : Nat), F.a (A.c (C.pt (Pt.own (0 : Nat) (0 : Nat) (0 : Nat))))), ((5 : Nat), F.a (A.c (C.pt (Pt.own (1 : Nat) (0 : Nat) (0 : Nat))))), ((18 : Nat), F.a (A.c (C.ow (2 : Nat) x0))), ((19 : Nat), F.a (A.c (C.sc (Go.Value.int Go.IntKind.i64 x1)))), ((20 : Nat), F.a (A.c (C.sc (Go.Value.int Go.IntKind.i64 x2))))], mem := [some (Row.box (31 : Nat) (some ty31) [C.nl] false), some (Row.box (31 : Nat) (some ty31) [C.sl ty35 x3] false), some (Row.arr (35 : Nat) ty35 x4 false)], nx := (3 : Nat) }
theorem e13 (a0 : List (ByteArray × Bool × List ByteArray)) : callG W0 (callW W0) (cutW W0) 13 [inj (Ty.sl ty35) a0] = ifs (decide ((↑(List.length a0) : Int) > (500 : Int)) = true) (some (injRs [RT.d ty31, RT.d (Ty.int Go.IntKind.i64)] (([], ()), (4 : Int)))) (Option.bind (cR (nat_lit 43) [RT.own (35 : Go.TypeId) ty35] [inj (Ty.sl ty35) a0]) fun r => Option.bind (cR2 (nat_lit 44) [] [Ty.pair Ty.unit (Ty.sl ty35)] [A.c (C.ow (0 : Nat) (List.length r)), A.c (C.cl (45 : Nat) []), inj (Ty.pair Ty.unit (Ty.sl ty35)) ((), r)]) fun r_1 => l13_7 (List.length r) (↑(List.length r) : Int) (0 : Int) r_1.snd.snd) := by kernel_rfl
theorem q13_7 (x0 : Nat) (x1 : Int) (x2 : Int) (x3 : List (ByteArray × Bool × List ByteArray)) : cutG W0 (callW W0) (cutW W0) n13 td13_7 { fr := [((2 : Nat), F.a (A.c (C.pt (Pt.own (0 : Nat) (0 : Nat) (0 : Nat))))), ((5 : Nat), F.a (A.c (C.pt (Pt.own (1 : Nat) (0 : Nat) (0 : Nat))))), ((18 : Nat), F.a (A.c (C.ow (2 : Nat) x0))), ((19 : Nat), F.a (A.c (C.sc (Go.Value.int Go.IntKind.i64 x1)))), ((20 : Nat), F.a (A.c (C.sc (Go.Value.int Go.IntKind.i64 x2))))], mem := [some (Row.box (31 : Nat) (some ty31) [C.nl] false), some (Row.box (31 : Nat) (some ty31) [C.nl] false), some (Row.arr (35 : Nat) ty35 x3 false)], nx := (3 : Nat) } = ifs (decide (x2 < x1) = true) (ifs ((0 : Int) ≤ x2 ∧ x2 < (↑x0 : Int)) (Option.bind x3[Int.toNat x2]? fun r => Option.bind (cR (nat_lit 46) [RT.d ty31, RT.d (Ty.int Go.IntKind.i64)] [inj ty31 ([], ()), inj ty35 r]) fun r => ifs ((r.snd != (0 : Int)) = true) (some (injRs [RT.d ty31, RT.d (Ty.int Go.IntKind.i64)] (([], ()), r.snd))) (l13_7v1 x0 x1 (Go.IntKind.wrap Go.IntKind.i64 (x2 + (1 : Int))) r.fst.fst x3)) none) (some (injRs [RT.d ty31, RT.d (Ty.int Go.IntKind.i64)] (([], ()), (0 : Int)))) := by kernel_rfl
theorem q13_7v1 (x0 : Nat) (x1 : Int) (x2 : Int) (x3 : List (ByteArray × Bool × List ByteArray)) (x4 : List (ByteArray × Bool × List ByteArray)) : cutG W0 (callW W0) (cutW W0) n13 td13_7 { fr := [((2 : Nat), F.a (A.c (C.pt (Pt.own (0 : Nat) (0 : Nat) (0 : Nat))))), ((5 : Nat), F.a (A.c (C.pt (Pt.own (1 : Nat) (0 : Nat) (0 : Nat))))), ((18 : Nat), F.a (A.c (C.ow (2 : Nat) x0))), ((19 : Nat), F.a (A.c (C.sc (Go.Value.int Go.IntKind.i64 x1)))), ((20 : Nat), F.a (A.c (C.sc (Go.Value.int Go.IntKind.i64 x2))))], mem := [some (Row.box (31 : Nat) (some ty31) [C.nl] false), some (Row.box (31 : Nat) (some ty31) [C.sl ty35 x3] false), some (Row.arr (35 : Nat) ty35 x4 false)], nx := (3 : Nat) } = ifs (decide (x2 < x1) = true) (ifs ((0 : Int) ≤ x2 ∧ x2 < (↑x0 : Int)) (Option.bind x4[Int.toNat x2]? fun r => Option.bind (cR (nat_lit 46) [RT.d ty31, RT.d (Ty.int Go.IntKind.i64)] [inj ty31 (x3, ()), inj ty35 r]) fun r => ifs ((r.snd != (0 : Int)) = true) (some (injRs [RT.d ty31, RT.d (Ty.int Go.IntKind.i64)] (([], ()), r.snd))) (l13_7v1 x0 x1 (Go.IntKind.wrap Go.IntKind.i64 (x2 + (1 : Int))) r.fst.fst x4)) none) (some (injRs [RT.d ty31, RT.d (Ty.int Go.IntKind.i64)] ((x3, ()), (0 : Int)))) := by kernel_rfl
theorem e5 (a0 : List (ByteArray × Bool × List ByteArray)) (a1 : Int × ByteArray × ByteArray × Int × List ByteArray × List ByteArray) (a2 : Int × ByteArray × ByteArray × Int × List ByteArray × List ByteArray) : callG W0 (callW W0) (cutW W0) 5 [inj (Ty.sl ty35) a0, inj ty40 a1, inj ty40 a2] = Option.bind (cR (nat_lit 19) [RT.d Ty.bool] [inj (Ty.sl ty35) a0]) fun r => ifs ((!r) = false) (Option.bind (cR (nat_lit 20) [RT.d Ty.bool] [inj (Ty.sl ty40) [a1, a2]]) fun r => ifs ((!r) = true) (Option.bind (cR (nat_lit 28) [RT.d Ty.bool] []) fun r => some (injRs [RT.d Ty.bool] r)) (Option.bind (cR (nat_lit 13) [RT.d ty31, RT.d (Ty.int Go.IntKind.i64)] [inj (Ty.sl ty35) a0]) fun r => Option.bind (cR (nat_lit 21) [RT.d ty31, RT.d (Ty.int Go.IntKind.i64)] [inj ty31 (r.fst.fst, ()), inj (Ty.sl ty40) [a1, a2]]) fun r_1 => Option.bind (cR (nat_lit 29) [RT.d ty40, RT.d ty40, RT.d (Ty.int Go.IntKind.i64)] [inj ty40 a1, inj ty40 a2]) fun r_2 => ifs ((r.snd != (0 : Int)) = false) (ifs ((r_1.snd != (0 : Int)) = false) (ifs ((r_2.snd.snd != (0 : Int)) = true) (Option.bind (cR (nat_lit 28) [RT.d Ty.bool] []) fun r => some (injRs [RT.d Ty.bool] r)) (Option.bind (cR (nat_lit 21) [RT.d ty31, RT.d (Ty.int Go.IntKind.i64)] [inj ty31 (r.fst.fst, ()), inj (Ty.sl ty40) [r_2.fst, r_2.snd.fst]]) fun r => Option.bind (cR (nat_lit 29) [RT.d ty40, RT.d ty40, RT.d (Ty.int Go.IntKind.i64)] [inj ty40 r_2.fst, inj ty40 r_2.snd.fst]) fun r_3 => Option.bind (cR (nat_lit 28) [RT.d Ty.bool] []) fun r_4 => ifs (r_4 = true) (ifs ((r.snd == (0 : Int)) = true) (Option.bind (cR (nat_lit 26) [RT.d Ty.bool] [inj ty31 (r_1.fst.fst, ()), inj ty31 (r.fst.fst, ())]) fun r => ifs (r = true) (ifs ((r_3.snd.snd == (0 : Int)) = true) (Option.bind (cR (nat_lit 30) [RT.d Ty.bool] [inj (Ty.sl ty40) [r_3.fst, r_3.snd.fst], inj (Ty.sl ty40) [a1, a2]]) fun r => some (injRs [RT.d Ty.bool] r)) (some (injRs [RT.d Ty.bool] false))) (some (injRs [RT.d Ty.bool] false))) (some (injRs [RT.d Ty.bool] false))) (some (injRs [RT.d Ty.bool] false)))) (Option.bind (cR (nat_lit 28) [RT.d Ty.bool] []) fun r => some (injRs [RT.d Ty.bool] r))) (Option.bind (cR (nat_lit 28) [RT.d Ty.bool] []) fun r => some (injRs [RT.d Ty.bool] r)))) (Option.bind (cR (nat_lit 28) [RT.d Ty.bool] []) fun r => some (injRs [RT.d Ty.bool] r)) := by kernel_rfl
end Go.Proofs.YtabhngbpkfdeiaaGreatDoor.Tb
end
section
/- What some functions of the program and of the references come to, in plain words: which lists are light, the same. Conditions: lengths as they stand in each statement. -/
set_option linter.unusedVariables false
set_option linter.unusedSimpArgs false
namespace Go.Proofs.YtabhngbpkfdeiaaGreatDoor.Sp
open Go Go.Proofs.YtabhngbpkfdeiaaGreatDoor.Ab Go.Proofs.YtabhngbpkfdeiaaGreatDoor.Tb

abbrev Txt := ByteArray
abbrev Prm := Int × Txt × Txt × Int × List Txt × List Txt
instance prmDec1 : DecidableEq (Txt × Int × List Txt × List Txt) := inferInstance
instance prmDec : DecidableEq Prm := inferInstance
abbrev top : Nat := 9223372036854775807
def fits (n : Int) : Prop := -9223372036854775808 ≤ n ∧ n ≤ 9223372036854775807

theorem wr (n : Int) (h : -9223372036854775808 ≤ n ∧ n ≤ 9223372036854775807) : IntKind.i64.wrap n = n := IntWalk.i64_in n h
theorem wrS {i k : Nat} (h : i < k) (hk : k ≤ top) : IntKind.i64.wrap ((i : Int) + 1) = ((i + 1 : Nat) : Int) := by
  rw [wr _ ⟨by omega, by simp only [top] at hk; omega⟩]; omega
theorem ifs_pos {α : Type} {c : Prop} [Decidable c] {a b : α} (h : c) : ifs c a b = a := by simp [ifs, h]
theorem ifs_neg {α : Type} {c : Prop} [Decidable c] {a b : α} (h : ¬ c) : ifs c a b = b := by simp [ifs, h]
theorem bytes_eq {s t : Txt} : s.toList = t.toList ↔ s = t := by
  constructor
  · intro h
    have e : ∀ x : Txt, x.toList = x.data.toList := fun x => ByteArray.toList_eq x
    rw [e, e] at h
    cases s; cases t
    simp only [ByteArray.mk.injEq]
    exact Array.toList_inj.1 h
  · rintro rfl; rfl
theorem bat {s t : Txt} : (s.toList == t.toList) = decide (s = t) := by
  rw [Bool.eq_iff_iff, beq_iff_eq, decide_eq_true_eq, bytes_eq]

/-- A loop over a list's places: 'i' to its end. -/
theorem upTo {k : Nat} {C : Nat → Prop} (h : ∀ i, i < k → C (i + 1) → C i) (h0 : C k) : ∀ i, i ≤ k → C i := by
  intro i hi
  obtain ⟨d, rfl⟩ : ∃ d, k = i + d := ⟨k - i, by omega⟩
  clear hi
  induction d generalizing i with
  | zero => exact h0
  | succ d ih =>
    refine h i (by omega) (ih (i + 1) (fun j hj => ?_) ?_)
    · exact h j (by omega)
    · rw [show i + 1 + d = i + (d + 1) by omega]; exact h0

/-! ### rafterlaw03.Light -/
def light3 (l : List Txt) : Bool := l.all (fun s => decide (s.size ≤ 300)) && decide (l.length ≤ 60)
theorem light3_loop (l : List Txt) (hl : l.length ≤ top) : ∀ i : Nat, i ≤ l.length → l10_2 l i = some (injRs [RT.d .bool] ((l.drop i).all (fun s => decide (s.size ≤ 300)) && decide (l.length ≤ 60))) := by
  refine upTo (fun i hi ih => ?_) ?_
  · refine cutG_step ((q10_2 l i).trans ?_)
    rw [ifs_pos (by simpa using hi), ifs_pos (by omega), Int.toNat_natCast, List.getElem?_eq_getElem hi, Option.bind_some, wrS hi hl, ih, List.drop_eq_getElem_cons hi, List.all_cons]
    by_cases h : l[i].size ≤ 300
    · rw [ifs_neg (by simp; omega)]; simp [h]
    · rw [ifs_pos (by simp; omega)]; simp [h]
  · refine cutG_step ((q10_2 l l.length).trans ?_)
    rw [ifs_neg (by simp)]
    exact congrArg (fun b => some (injRs [RT.d .bool] b)) (by rw [List.drop_length, List.all_nil, Bool.true_and, decide_eq_decide]; omega)
theorem light3_ok (l : List Txt) (hl : l.length ≤ top) : cR 10 [RT.d .bool] [inj (.sl .str) l] = some (light3 l) :=
  callT_of ((e10 l).trans (by rw [show (0 : Int) = ((0 : Nat) : Int) from rfl, light3_loop l hl 0 (Nat.zero_le _)]; rfl))

/-! ### Lists of texts that are the same -/
theorem drop_eq {α : Type} {a b : List α} {i : Nat} (ha : i < a.length) (hb : i < b.length) : a.drop i = b.drop i ↔ a[i] = b[i] ∧ a.drop (i + 1) = b.drop (i + 1) := by
  rw [List.drop_eq_getElem_cons ha, List.drop_eq_getElem_cons hb, List.cons.injEq]
theorem same1_loop (a b : List Txt) (ha : a.length ≤ top) (hab : a.length = b.length) : ∀ i : Nat, i ≤ a.length → l18_4 a b i = some (injRs [RT.d .bool] (decide (a.drop i = b.drop i))) := by
  refine upTo (fun i hi ih => ?_) ?_
  · refine cutG_step ((q18_4 a b i).trans ?_)
    have hb : i < b.length := by omega
    rw [ifs_pos (by simpa using hi), ifs_pos (by omega), Int.toNat_natCast, List.getElem?_eq_getElem hi, Option.bind_some, ifs_pos (by omega), List.getElem?_eq_getElem hb, Option.bind_some, wrS hi ha, ih, bat]
    by_cases h : a[i] = b[i]
    · rw [ifs_neg (by simp [h])]; simp only [drop_eq hi hb, h, true_and]
    · rw [ifs_pos (by simp [h])]; simp only [drop_eq hi hb, h, false_and, decide_false]
  · refine cutG_step ((q18_4 a b a.length).trans ?_)
    rw [ifs_neg (by simp)]
    simp [hab]
theorem same1_ok (a b : List Txt) (ha : a.length ≤ top) : cR 18 [RT.d .bool] [inj (.sl .str) a, inj (.sl .str) b] = some (decide (a = b)) := by
  refine callT_of ((e18 a b).trans ?_)
  by_cases h : a.length = b.length
  · rw [ifs_neg (by simp [h]), show (0 : Int) = ((0 : Nat) : Int) from rfl, same1_loop a b ha h 0 (Nat.zero_le _)]; rfl
  · rw [ifs_pos (by simp; omega), decide_eq_false (fun e => h (by rw [e]))]
theorem slEq_loop (a b : List Txt) (ha : a.length ≤ top) (hab : a.length = b.length) : ∀ i : Nat, i ≤ a.length → l102_4 a b a.length i = some (injRs [RT.d .bool] (decide (a.drop i = b.drop i))) := by
  refine upTo (fun i hi ih => ?_) ?_
  · refine cutG_step ((q102_4 a b a.length i).trans ?_)
    have hb : i < b.length := by omega
    rw [ifs_pos (by simpa using hi), ifs_pos (by omega), Int.toNat_natCast, List.getElem?_eq_getElem hi, Option.bind_some, ifs_pos (by omega), List.getElem?_eq_getElem hb, Option.bind_some, wrS hi ha, ih, bat]
    by_cases h : a[i] = b[i]
    · rw [ifs_neg (by simp [h])]; simp only [drop_eq hi hb, h, true_and]
    · rw [ifs_pos (by simp [h])]; simp only [drop_eq hi hb, h, false_and, decide_false]
  · refine cutG_step ((q102_4 a b a.length a.length).trans ?_)
    rw [ifs_neg (by simp)]
    simp [hab]
theorem slEq_ok (a b : List Txt) (ha : a.length ≤ top) : cR 102 [RT.d .bool] [inj (.sl .str) a, inj (.sl .str) b] = some (decide (a = b)) := by
  refine callT_of ((e102 a b).trans ?_)
  by_cases h : a.length = b.length
  · rw [ifs_neg (by simp [h]), show (0 : Int) = ((0 : Nat) : Int) from rfl, slEq_loop a b ha h 0 (Nat.zero_le _)]; rfl
  · rw [ifs_pos (by simp; omega), decide_eq_false (fun e => h (by rw [e]))]
theorem lsame_ok (a b : List Txt) (ha : a.length ≤ top) : cR 63 [RT.d .bool] [inj (.sl .str) a, inj (.sl .str) b] = some (decide (a = b)) :=
  callT_of ((e63 a b).trans (by rw [slEq_ok a b ha]; rfl))

/-! ### Steps: which are light, which are the same -/
end Go.Proofs.YtabhngbpkfdeiaaGreatDoor.Sp
end
section
/- What some functions of the program and of the references come to, in plain words: names, lines, paths, which steps may be. Conditions: lengths as they stand in each statement. -/
set_option linter.unusedVariables false
set_option linter.unusedSimpArgs false
namespace Go.Proofs.YtabhngbpkfdeiaaGreatDoor.Sp
open Go Go.Proofs.YtabhngbpkfdeiaaGreatDoor.Ab Go.Proofs.YtabhngbpkfdeiaaGreatDoor.Tb Go.Proofs.YtabhngbpkfdeiaaGreatDoor.EText

/-! ### What the library's functions hand back -/
theorem nright_ok (s : Txt) (hs : s.size ≤ top) : cR 119 [RT.d .bool] [inj .str s] = some (rightB s) :=
  callT_of (by show (if s.size ≤ 9223372036854775807 then some [RV.d (inj .bool (rightB s))] else none) = _; rw [if_pos hs]; rfl)
theorem lright_ok (s : Txt) (hs : s.size ≤ top) : cR 121 [RT.d .bool] [inj .str s] = some (lineB s) :=
  callT_of (by show (if s.size ≤ 9223372036854775807 then some [RV.d (inj .bool (lineB s))] else none) = _; rw [if_pos hs]; rfl)
theorem split_ok (s t : Txt) (hs : s.size < 4294967281) (ht : 1 ≤ t.size) : cR 117 [RT.own 9 .str] [inj .str s, inj .str t] = some (splitL s t) :=
  callT_of (by show (if s.size < 4294967281 ∧ 1 ≤ t.size then some [RV.own 9 .str (splitL s t)] else none) = _; rw [if_pos ⟨hs, ht⟩]; rfl)
theorem clone_ok (l : List Txt) (hl : l.length * 16 ≤ 140737488355328) : cR 54 [RT.own 9 .str] [inj (.sl .str) l] = some l :=
  callT_of (by show (if l.length * 16 ≤ 140737488355328 then some [RV.own 9 .str l] else none) = _; rw [if_pos hl]; rfl)
theorem decodeGo_tail (s : Txt) (pos : Nat) (h : pos < s.size) : Lib.decodeGo (s.extract pos s.size) = Utf8.decode s pos := by
  unfold Lib.decodeGo
  rw [if_neg (by rw [Lib.tail_size]; omega), Lib.tail_decode, Nat.add_zero]
theorem decode_ok (s : Txt) : cR 81 [RT.d (.int .i32), RT.d (.int .i64)] [inj .str s] = some (((Lib.decodeGo s).1 : Int), ((Lib.decodeGo s).2 : Int)) :=
  callT_of rfl

/-! ### Names: rafterref02.Right -/
theorem letter_loop (c : Nat) (s : Txt) (hs : s.size ≤ top) : ∀ i : Nat, i ≤ s.size → l80_3 c s i = some (injRs [RT.d .bool] ((s.data.toList.drop i).any fun b => decide (b.toNat = c))) := by
  have hlen : s.data.toList.length = s.size := (Lib.size_eq s).symm
  refine upTo (fun i hi ih => ?_) ?_
  · refine cutG_step ((q80_3 c s i).trans ?_)
    have hi' : i < s.data.toList.length := by omega
    rw [ifs_pos (by simpa using hi), ifs_pos (by omega), Int.toNat_natCast, show s[i]? = some s[i] from Go.ByteArray.getElem?_lt' s i hi, Option.bind_some, wrS hi hs, ih, List.drop_eq_getElem_cons hi', List.any_cons]
    have e : s.data.toList[i] = s[i] := rfl
    rw [e]
    by_cases h : s[i].toNat = c
    · rw [ifs_pos (by simp [h])]; simp [h]
    · rw [ifs_neg (by simp; omega)]; simp [h]
  · refine cutG_step ((q80_3 c s s.size).trans ?_)
    rw [ifs_neg (by simp), List.drop_of_length_le (by omega)]
    rfl
def letters : Txt := { data := #[97, 98, 99, 100, 101, 102, 103, 104, 105, 106, 107, 108, 109, 110, 111, 112, 113, 114, 115, 116, 117, 118, 119, 120, 121, 122, 48, 49, 50, 51, 52, 53, 54, 55, 56, 57, 46, 95, 45] }
theorem letter_all : ∀ c, c ∈ List.range 256 → (letters.data.toList.any fun b => decide (b.toNat = c)) = okRune c := by decide +kernel
theorem letter_ok (b : UInt8) : cR 80 [RT.d .bool] [inj (.int .u8) (b.toNat : Int)] = some (okRune b.toNat) := by
  refine callT_of ((e80 b.toNat).trans ?_)
  rw [← letter_all b.toNat (by rw [List.mem_range]; exact b.toNat_lt)]
  exact (letter_loop b.toNat letters (by decide) 0 (Nat.zero_le _))

/-- Are all bytes from pos on such as stand in names? -/
def okB (s : Txt) (pos : Nat) : Bool := (s.data.toList.drop pos).all fun c => okRune c.toNat
theorem data_len (s : Txt) : s.data.toList.length = s.size := (Lib.size_eq s).symm
theorem okB_step (s : Txt) (pos : Nat) (h : pos < s.size) : okB s pos = (okRune (s[pos]'h).toNat && okB s (pos + 1)) := by
  unfold okB
  have h' : pos < s.data.toList.length := by rw [data_len]; exact h
  rw [List.drop_eq_getElem_cons h', List.all_cons]
  rfl
theorem okB_end (s : Txt) (pos : Nat) (h : s.size ≤ pos) : okB s pos = true := by
  unfold okB
  rw [List.drop_of_length_le (by rw [data_len]; exact h)]
  rfl
theorem okRune_high (r : Nat) (h : 128 ≤ r) : okRune r = false := by
  unfold okRune
  simp
  omega
theorem idx_ok (s : Txt) : ∀ (f pos : Nat), s.size - pos ≤ f → decide (Lib.idxFuncFrom (fun r => !okRune r) true s f pos < 0) = okB s pos
  | 0, pos, h => by
    rw [okB_end s pos (by omega)]
    rfl
  | f + 1, pos, h => by
    unfold Lib.idxFuncFrom
    by_cases hp : pos < s.size
    · rw [if_pos hp, okB_step s pos hp]
      by_cases ha : (s[pos]'hp).toNat < 128
      · rw [decode_ascii s pos hp ha]
        by_cases ho : okRune (s[pos]'hp).toNat = true
        · rw [if_neg (by simp [ho])]
          rw [idx_ok s f (pos + 1) (by omega), ho]
          rfl
        · rw [if_pos (by simp [ho])]
          simp [ho]
      · have hd := decode_high s pos hp (by omega)
        rw [if_pos (by simp [okRune_high _ hd.1]), okRune_high _ (by omega)]
        simp
    · rw [if_neg hp, okB_end s pos (by omega)]
      rfl
theorem nil_size (s : Txt) : s.toList = [] ↔ s.size = 0 := by
  rw [ByteArray.toList_eq, ← data_len]
  exact List.eq_nil_iff_length_eq_zero
theorem right_eq (s : Txt) : rightB s = (okB s 0 && decide (1 ≤ s.size) && decide (s.size ≤ 40) && !(s.toList == [46]) && !(s.toList == [46, 46])) := by
  unfold rightB
  rw [show Lib.idxFunc (fun r => !okRune r) true s = Lib.idxFuncFrom (fun r => !okRune r) true s s.size 0 from rfl, idx_ok s s.size 0 (by omega)]
  have hs := nil_size s
  by_cases h1 : s.size = 0
  · rw [hs.2 h1]; simp [h1]
  · have h2 : ¬ s.toList = [] := fun h => h1 (hs.1 h)
    rw [beq_eq_false_iff_ne.2 h2, decide_eq_true (show 1 ≤ s.size by omega)]
    cases okB s 0 <;> simp [Bool.and_comm, Bool.and_assoc]
theorem right2_loop (s : Txt) (hs : s.size ≤ top) : ∀ i : Nat, i ≤ s.size → l38_2 s i = some (injRs [RT.d .bool] (okB s i && decide (1 ≤ s.size) && decide (s.size ≤ 40) && !(s.toList == [46]) && !(s.toList == [46, 46]))) := by
  refine upTo (fun i hi ih => ?_) ?_
  · refine cutG_step ((q38_2 s i).trans ?_)
    rw [ifs_pos (by simpa using hi), ifs_pos (by omega), Int.toNat_natCast, show s[i]? = some s[i] from Go.ByteArray.getElem?_lt' s i hi, Option.bind_some, letter_ok, Option.bind_some, wrS hi hs, ih, okB_step s i hi]
    cases okRune s[i].toNat <;> rfl
  · refine cutG_step ((q38_2 s s.size).trans ?_)
    rw [ifs_neg (by simp), okB_end s _ (Nat.le_refl _)]
    have e1 : ByteArray.toList { data := #[(46 : UInt8)] } = [46] := by decide +kernel
    have e2 : ByteArray.toList { data := #[(46 : UInt8), (46 : UInt8)] } = [46, 46] := by decide +kernel
    rw [e1, e2]
    simp only [ifs]
    by_cases h1 : 1 ≤ s.size
    · have h1' : (1 : Int) ≤ s.size := by omega
      by_cases h2 : s.size ≤ 40
      · have h2' : (s.size : Int) ≤ 40 := by omega
        cases h3 : s.toList == [46] <;> simp [h1, h2, h1', h2', h3]
      · have h2' : ¬ (s.size : Int) ≤ 40 := by omega
        simp [h1, h2, h1', h2']
    · have h1' : ¬ (1 : Int) ≤ s.size := by omega
      simp [h1, h1']
theorem right2_ok (s : Txt) (hs : s.size ≤ top) : cR 38 [RT.d .bool] [inj .str s] = some (rightB s) :=
  callT_of ((e38 s).trans (by rw [show (0 : Int) = ((0 : Nat) : Int) from rfl, right2_loop s hs 0 (Nat.zero_le _), right_eq]))

/-! ### Lines -/
theorem okFrom_fuel (s : Txt) : ∀ (f g pos : Nat), s.size - pos ≤ f → s.size - pos ≤ g → okFrom s f pos = okFrom s g pos
  | 0, g, pos, hf, hg => by rw [okFrom_end s 0 pos (by omega), okFrom_end s g pos (by omega)]
  | f + 1, 0, pos, hf, hg => by rw [okFrom_end s _ pos (by omega), okFrom_end s _ pos (by omega)]
  | f + 1, g + 1, pos, hf, hg => by
    unfold okFrom
    split
    · split
      · rfl
      · have := Lib.width_pos s pos
        exact okFrom_fuel s f g _ (by omega) (by omega)
    · rfl
theorem right3_loop (s : Txt) (hs : s.size ≤ 1000) : ∀ (d pos : Nat), pos ≤ s.size → s.size - pos ≤ d → l39_4 s pos = some (injRs [RT.d .bool] (Lib.validD (s.data.toList.drop pos) && okFrom s (s.size - pos) pos))
  | d, pos, hp, hd => by
    refine cutG_step ((q39_4 s pos).trans ?_)
    by_cases h : pos < s.size
    · obtain ⟨d, rfl⟩ : ∃ e, d = e + 1 := ⟨d - 1, by omega⟩
      rw [ifs_pos (by simpa using h), ifs_pos (by omega), ifs_pos (by omega), Int.toNat_natCast, Int.toNat_natCast, decode_ok, Option.bind_some, decodeGo_tail s pos h]
      have hne : s.data.toList.drop pos ≠ [] := fun e => by have := congrArg List.length e; rw [List.length_drop, data_len] at this; simp at this; omega
      have hD : Lib.decodeL (s.data.toList.drop pos) = Utf8.decode s pos := Lib.decodeL_drop s pos
      have hw := Lib.width_pos s pos
      have hle := Lib.decodeL_le _ hne
      rw [hD, List.length_drop, data_len] at hle
      rw [Lib.validD_step _ hne, hD, List.drop_drop]
      have ih := fun hK => right3_loop s hs d (pos + (Utf8.decode s pos).2) hK (by omega)
      have hf : okFrom s (s.size - pos) pos = if (Utf8.decode s pos).1 < 32 ∧ (Utf8.decode s pos).1 ≠ 9 then false else okFrom s (s.size - (pos + (Utf8.decode s pos).2)) (pos + (Utf8.decode s pos).2) := by
        obtain ⟨g, hg⟩ : ∃ g, s.size - pos = g + 1 := ⟨s.size - pos - 1, by omega⟩
        rw [hg, okFrom, if_pos h]
        split
        · rfl
        · exact okFrom_fuel s _ _ _ (by omega) (by omega)
      rw [hf]
      have ih := ih (by omega)
      have hwr : IntKind.i64.wrap ((pos : Int) + ((Utf8.decode s pos).2 : Int)) = ((pos + (Utf8.decode s pos).2 : Nat) : Int) := by rw [wr _ ⟨by omega, by omega⟩]; omega
      simp only [hwr, ih, ifs]
      generalize Utf8.decode s pos = D at *
      obtain ⟨R, K⟩ := D
      simp only
      by_cases c1 : R = 65533
      · have c1' : (R : Int) = 65533 := by omega
        by_cases c2 : K = 1
        · have c2' : (K : Int) = 1 := by omega
          simp [c1, c2]
        · have c2' : ¬ (K : Int) = 1 := by omega
          have c3 : ¬ (65533 : Int) < 32 := by omega
          simp [c1, c2]
          exact fun e => absurd e c2'
      · have c1' : ¬ (R : Int) = 65533 := by omega
        by_cases c3 : R < 32
        · have c3' : (R : Int) < 32 := by omega
          by_cases c4 : R = 9
          · simp [c4]
          · have c4' : ¬ (R : Int) = 9 := by omega
            simp [c1, c1', c3, c3', c4, c4']
        · have c3' : ¬ (R : Int) < 32 := by omega
          simp [c1, c1', c3, c3']
    · have : pos = s.size := by omega
      subst this
      rw [ifs_neg (by simp), List.drop_of_length_le (by rw [data_len]; omega), okFrom_end s _ _ (by omega)]
      rfl
theorem right3_ok (s : Txt) (hs : s.size ≤ top) : cR 39 [RT.d .bool] [inj .str s] = some (lineB s) := by
  refine callT_of ((e39 s).trans ?_)
  unfold lineB
  by_cases h : s.size ≤ 200
  · rw [ifs_neg (by simp; omega), show (0 : Int) = ((0 : Nat) : Int) from rfl, right3_loop s (by omega) s.size 0 (by omega) (by omega)]
    simp [h]
  · rw [ifs_pos (by simp; omega)]
    simp [h]

theorem lchk1_ok (s : Txt) (hs : s.size ≤ top) : cR 120 [RT.d .bool] [inj .str s] = some (!lineB s) :=
  callT_of ((e120 s).trans (by rw [lright_ok s hs]; rfl))
theorem prt1_ok (s : Txt) (hs : s.size ≤ top) : cR 118 [RT.d .bool] [inj .str s] = some (!rightB s) :=
  callT_of ((e118 s).trans (by rw [nright_ok s hs]; rfl))

/-- What every list of texts is. -/
def LOk (l : List Txt) : Prop := l.length ≤ top ∧ ∀ s ∈ l, s.size ≤ top

theorem ixfA_loop (l : List Txt) (hl : LOk l) : ∀ i : Nat, i ≤ l.length → ∃ r : Int, l136a_2 l l.length i = some (injRs [RT.d (.int .i64)] r) ∧ decide (r ≥ 0) = (l.drop i).any (fun s => !lineB s) := by
  refine upTo (fun i hi ih => ?_) ?_
  · obtain ⟨r, hr, he⟩ := ih
    rw [List.drop_eq_getElem_cons hi, List.any_cons]
    cases h : lineB l[i] with
    | true =>
      refine ⟨r, cutG_step ((q136a_2 l l.length i).trans ?_), by rw [he]; simp⟩
      rw [ifs_pos (by simpa using hi), ifs_pos (by omega), Int.toNat_natCast, List.getElem?_eq_getElem hi, Option.bind_some, lchk1_ok _ (hl.2 _ (List.getElem_mem hi)), Option.bind_some, h, ifs_neg (by simp), wrS hi hl.1, hr]
    | false =>
      refine ⟨i, cutG_step ((q136a_2 l l.length i).trans ?_), by simp⟩
      rw [ifs_pos (by simpa using hi), ifs_pos (by omega), Int.toNat_natCast, List.getElem?_eq_getElem hi, Option.bind_some, lchk1_ok _ (hl.2 _ (List.getElem_mem hi)), Option.bind_some, h, ifs_pos (by simp)]
  · refine ⟨-1, cutG_step ((q136a_2 l l.length l.length).trans ?_), by simp⟩
    rw [ifs_neg (by simp)]
theorem cofA_ok (l : List Txt) (hl : LOk l) : cR 106 [RT.d .bool] [inj (.sl .str) l, A.c (C.cl 120 [])] = some (l.any fun s => !lineB s) := by
  obtain ⟨r, hr, he⟩ := ixfA_loop l hl 0 (Nat.zero_le _)
  refine callT_of ((e106a l).trans ?_)
  have hx : cR 136 [RT.d (.int .i64)] [inj (.sl .str) l, A.c (C.cl 120 [])] = some r := callT_of ((e136a l).trans hr)
  rw [hx, Option.bind_some, he, List.drop_zero]
theorem ixfB_loop (l : List Txt) (hl : LOk l) : ∀ i : Nat, i ≤ l.length → ∃ r : Int, l136b_2 l l.length i = some (injRs [RT.d (.int .i64)] r) ∧ decide (r ≥ 0) = (l.drop i).any (fun s => !rightB s) := by
  refine upTo (fun i hi ih => ?_) ?_
  · obtain ⟨r, hr, he⟩ := ih
    rw [List.drop_eq_getElem_cons hi, List.any_cons]
    cases h : rightB l[i] with
    | true =>
      refine ⟨r, cutG_step ((q136b_2 l l.length i).trans ?_), by rw [he]; simp⟩
      rw [ifs_pos (by simpa using hi), ifs_pos (by omega), Int.toNat_natCast, List.getElem?_eq_getElem hi, Option.bind_some, prt1_ok _ (hl.2 _ (List.getElem_mem hi)), Option.bind_some, h, ifs_neg (by simp), wrS hi hl.1, hr]
    | false =>
      refine ⟨i, cutG_step ((q136b_2 l l.length i).trans ?_), by simp⟩
      rw [ifs_pos (by simpa using hi), ifs_pos (by omega), Int.toNat_natCast, List.getElem?_eq_getElem hi, Option.bind_some, prt1_ok _ (hl.2 _ (List.getElem_mem hi)), Option.bind_some, h, ifs_pos (by simp)]
  · refine ⟨-1, cutG_step ((q136b_2 l l.length l.length).trans ?_), by simp⟩
    rw [ifs_neg (by simp)]
theorem cofB_ok (l : List Txt) (hl : LOk l) : cR 106 [RT.d .bool] [inj (.sl .str) l, A.c (C.cl 118 [])] = some (l.any fun s => !rightB s) := by
  obtain ⟨r, hr, he⟩ := ixfB_loop l hl 0 (Nat.zero_le _)
  refine callT_of ((e106b l).trans ?_)
  have hx : cR 136 [RT.d (.int .i64)] [inj (.sl .str) l, A.c (C.cl 118 [])] = some r := callT_of ((e136b l).trans hr)
  rw [hx, Option.bind_some, he, List.drop_zero]

/-- Which lines may be a file's. -/
def checkL (l : List Txt) : Int := if l.length > 2000 then 4 else if l.all lineB then 0 else 6
theorem any_not {α : Type} (l : List α) (p : α → Bool) : (l.any fun x => !p x) = !l.all p := by
  induction l with
  | nil => rfl
  | cons a l ih => simp only [List.any_cons, List.all_cons, ih, Bool.not_and]
theorem lcheck_ok (l : List Txt) (hl : LOk l) : cR 84 [RT.d (.int .i64)] [inj (.sl .str) l] = some (checkL l) := by
  refine callT_of ((e84 l).trans ?_)
  unfold checkL
  by_cases h : l.length > 2000
  · rw [ifs_pos (by simp; omega), if_pos h]
  · rw [ifs_neg (by simp; omega), if_neg h, cofA_ok l hl, Option.bind_some, any_not]
    cases l.all lineB <;> rfl
theorem check3_loop (l : List Txt) (hl : LOk l) : ∀ i : Nat, i ≤ l.length → l11_4 l i = some (injRs [RT.d (.int .i64)] (if (l.drop i).all lineB then 0 else 6)) := by
  refine upTo (fun i hi ih => ?_) ?_
  · refine cutG_step ((q11_4 l i).trans ?_)
    rw [ifs_pos (by simpa using hi), ifs_pos (by omega), Int.toNat_natCast, List.getElem?_eq_getElem hi, Option.bind_some, right3_ok _ (hl.2 _ (List.getElem_mem hi)), Option.bind_some, wrS hi hl.1, ih, List.drop_eq_getElem_cons hi, List.all_cons]
    cases lineB l[i] <;> rfl
  · refine cutG_step ((q11_4 l l.length).trans ?_)
    rw [ifs_neg (by simp), List.drop_length]
    rfl
theorem check3_ok (l : List Txt) (hl : LOk l) : cR 11 [RT.d (.int .i64)] [inj (.sl .str) l] = some (checkL l) := by
  refine callT_of ((e11 l).trans ?_)
  unfold checkL
  by_cases h : l.length > 2000
  · rw [ifs_pos (by simp; omega), if_pos h]
  · rw [ifs_neg (by simp; omega), if_neg h]
    exact check3_loop l hl 0 (Nat.zero_le _)

end Go.Proofs.YtabhngbpkfdeiaaGreatDoor.Sp
end
