/- Proved: what name.Right, slices.Clone, name.Set, name.some, name.Minus and name.Both answer, for texts and lists of any make whose cells take fewer than 2^47 bytes. -/
import Derived.Test.YtnegeacpfkcecaaProg
import Derived.Test.YtnegeacpfkcecaaWWords
import Derived.Test.YtnegeacpfkcecaaWMore
import Derived.Test.YtnegeacpfkcecaaShelf
import Derived.Test.YtnegeacpfkcecaaEGen
import Derived.Test.YtnegeacpfkcecaaXHasx1
import Derived.WalkKit
import Derived.Lib.Hide
import Derived.KernelRfl
import Derived.RowKit3
import Derived.BigQuiet
import Derived.Deep.QuietTactic
namespace Go.Proofs.Ytnegeacpfkcecaa.EName
open Go.Shelf Go.RowKit Go.Lib Go.Proofs.YtnegeacpfkcecaaW.PrintWords Go.Proofs.Ytnegeacpfkcecaa.EGen
set_option linter.unusedSimpArgs false

/-- May a rune stand in a name? -/
def okRune (r : Nat) : Bool := decide (97 ≤ r) && decide (r ≤ 122) || decide (48 ≤ r) && decide (r ≤ 57) || r == 46 || r == 95 || r == 45

theorem right1_pred (w : World) : PredAt Try.prog 68 #[] encR (fun r => !okRune r) w := by
  intro W r _
  unfold FnGives encR
  go_enter Try.func68, Try.ntmps68
  go_wp2
  all_goals
    go_ret
    refine ⟨?_, 0, rfl⟩
    refine congrArg (fun b => Ending.returned (Value.bool b)) ?_
    unfold okRune
    rw [Bool.eq_iff_iff]
    simp
    omega

def rightB (s : ByteArray) : Bool := !(s.toList == []) && decide (s.size ≤ 40) && !(s.toList == [46]) && !(s.toList == [46, 46]) && decide (Lib.idxFunc (fun r => !okRune r) true s < 0)

theorem name_Right_calls (s : ByteArray) (w : World) (hs : s.size ≤ 9223372036854775807) :
    Calls Try.prog 36 #[.string s] w fun e w' => e = .returned (.bool (rightB s)) ∧ Below w.heap.size w w' := by
  have e68 := enters_of Try.func68 (by kernel_rfl) rfl
  have hI := fun W => Try.strings_IndexFunc 68 #[] e68 _ s W (right1_pred W)
  generalize hx : Lib.idxFunc (fun r => !okRune r) true s = x at hI
  have Hx := Lib.hid hx
  clear hx
  by_cases h1 : s.toList = []
  · go_enter Try.func36, Try.ntmps36
    go_wp2
    go_ret
    exact ⟨by simp [rightB, h1], Below.refl _ _⟩
  by_cases h2 : s.size ≤ 40
  · by_cases h3 : s.toList = [46]
    · go_enter Try.func36, Try.ntmps36
      go_wp2
      go_ret
      exact ⟨by simp [rightB, h3], Below.refl _ _⟩
    by_cases h4 : s.toList = [46, 46]
    · go_enter Try.func36, Try.ntmps36
      go_wp2
      go_ret
      exact ⟨by simp [rightB, h4], Below.refl _ _⟩
    go_enter Try.func36, Try.ntmps36
    go_wp2_with (go_at_call 69; refine (hI _).mono ?_; rintro e w' ⟨rfl, hb⟩)
    go_ret
    exact ⟨by simp [rightB, h1, h2, h3, h4, Hx.out], hb⟩
  · go_enter Try.func36, Try.ntmps36
    go_wp2
    go_ret
    exact ⟨by simp [rightB, h2], Below.refl _ _⟩

theorem info9 : (Try.prog.info? 9).map (fun i => (i.zero, i.size, i.bytes)) = some (some (.string ⟨#[]⟩), 1, 16) := by kernel_rfl

theorem clone_calls (A0 : Option Addr) (c0 : Nat) (l0 : List ByteArray) (w : World) (hr0 : Kd.C Kd.string w A0 l0.length l0) (hl : l0.length * 16 ≤ 140737488355328) :
    Calls Try.prog 52 #[.slice A0 l0.length c0] w fun e w' => ∃ v0_ : Value, e = .returned v0_ ∧ Kd.R Kd.string 9 w' w.heap.size (fun _ => True) v0_ l0 ∧ Below w.heap.size w w' := by
  have q22 : ∀ (w : World) (a : Option Addr) (n c n' c' : Nat), (binOp .eql 22 (.slice a n c) (.slice none n' c')).run Try.prog w = .ok (.bool a.isNone) w := fun w a n c n' c' => Lib.run_eql_slice_nil w _ _ a n c n' c' Try.underlying22
  rcases A0 with _ | ad
  · have h0 : l0 = [] := by
      rcases l0 with _ | ⟨x, l⟩
      · rfl
      · obtain ⟨ad, h, _⟩ := hr0.2.2 (by simp)
        cases h
    subst h0
    clear hr0
    go_enter Try.func52, Try.ntmps52
    go_wp2
    go_ret
    exact ⟨_, rfl, Kd.R_nil _ _ _ _ _, Below.refl _ _⟩
  · have HR0 := Aside0.mk hr0
    clear hr0
    go_enter Try.func52, Try.ntmps52
    go_wp2_with (first | ((with_reducible refine gate_dst (N := 5) rfl ?_); refine Kd.R_lit Kd.string w.heap.size 9 ?hg (N := 5) ?hd (xs := ([] : List ByteArray)) (inner := []) (ok := fun _ => True) (okp := fun _ => True) ?hr ?hp (fun _ hk => hk) trivial (Below.refl _ _) (Nat.le_refl _) (by simp) ?_; (case hd => rfl); (case hg => rfl); (case hr => first | (go_simp; done) | (go_simp; rfl)); (case hp => exact (Reps.none _ _)); intro v2 w2 ho hb hg_ hnew_; clear hg_ hnew_; have HO := Aside0.mk ho; have HB := Aside0.mk hb; clear ho hb) | ((with_reducible refine gate_builtin (b := .append) (xs := #[.tmp 5, .tmp 6]) rfl ?_); at_builtin; refine Kd.R_append_rows Kd.string (w0 := w) w.heap.size rfl (.tmp 5) (.tmp 6) 22 9 (.string ⟨#[]⟩) 16 rfl Try.underlying22 info9 rfl (by decide) (by omega) v2 [] l0 _ _ _ (fun _ => True) (fun _ => False) rfl rfl HO.out (Kd.C_below HR0.out HB.out) (fun _ _ h => h) (fun _ h => h.elim) (fun _ _ => trivial) HB.out HB.out.size (by simpa using hl) ?_; intro v3 w3 ho3 hb3 hg3 hat3; have HO3 := Aside0.mk ho3; have HB3 := Aside0.mk hb3; clear ho3 hb3 hg3 hat3))
    go_ret
    exact ⟨_, rfl, HO3.out, HB3.out⟩

def bs (x : ByteArray) : List UInt8 := x.data.toList
def unbs (l : List UInt8) : ByteArray := ⟨l.toArray⟩
theorem unbs_bs (x : ByteArray) : unbs (bs x) = x := by simp [unbs, bs]
theorem bs_unbs (x : List UInt8) : bs (unbs x) = x := by simp [unbs, bs]
theorem enc_bs (l : List ByteArray) : (l.map bs).map encStr = l.map Value.string := by
  rw [List.map_map]
  apply List.map_congr_left
  intro x _
  show Value.string (unbs (bs x)) = _
  rw [unbs_bs]
theorem enc_unbs (l : List (List UInt8)) : l.map encStr = (l.map unbs).map Value.string := by
  rw [List.map_map]
  rfl
def sortB (l : List (List UInt8)) : List (List UInt8) := l.mergeSort fun x y => decide (x ≤ y)
def setB (l : List ByteArray) : List (List UInt8) := Lib.compact (sortB (l.map bs))
def setL (l : List ByteArray) : List ByteArray := (setB l).map unbs

theorem setL_nil : setL [] = [] := by simp [setL, setB, sortB, Lib.compact, Lib.compactUpTo]

theorem set_calls (A0 : Option Addr) (c0 : Nat) (l0 : List ByteArray) (w : World) (hr0 : Kd.C Kd.string w A0 l0.length l0) (hl : l0.length * 16 ≤ 140737488355328) :
    Calls Try.prog 39 #[.slice A0 l0.length c0] w fun e w' => ∃ v0_ : Value, e = .returned v0_ ∧ Kd.R Kd.string 9 w' w.heap.size (fun _ => True) v0_ (setL l0) ∧ Below w.heap.size w w' := by
  go_enter Try.func39, Try.ntmps39
  go_wp2_with fail
  refine (clone_calls _ _ _ _ hr0 hl).mono ?_
  rintro e w1 ⟨v, rfl, HR, HB⟩
  have ho := Kd.own_of_R HR
  rcases ho.2 with ⟨rfl, hn⟩ | ⟨g, cap, cur, rfl, hb, hh, hn, hc, hs, ht⟩
  · have h0 : l0 = [] := List.eq_nil_of_length_eq_zero hn
    subst h0
    have HB' := Lib.hid HB
    clear HB HR ho hn hr0 hl
    go_wp2_with fail
    refine (Try.slices_Sort_string_none _ _ _).mono ?_
    rintro e w' ⟨rfl, rfl⟩
    go_wp2_with (go_at_call 72; refine (Try.slices_Compact_string_empty _ _ _).mono ?_; rintro e w' ⟨rfl, rfl⟩)
    go_ret
    exact ⟨_, rfl, by rw [setL_nil]; exact Kd.R_nil _ _ _ _ _, HB'.out⟩
  · have hs : cur.size = cap := by simpa using hs
    have hH : Sort.Holds encStr w1 g 0 (l0.map bs).toArray := own_holds (base := w.heap.size) (e := 9) (n := l0.length) (cap := cap) (by rw [enc_bs]; exact ho)
    have hg : g < w1.heap.size := (Array.getElem?_eq_some_iff.1 hh).1
    have hS := Try.slices_Sort_string g 0 cap (l0.map bs) w1 hH hg (by rw [List.length_map]; omega)
    rw [List.length_map] at hS
    have hlen : (sortB (l0.map bs)).length = l0.length := by simp [sortB]
    have HS := Lib.hid hS
    have HH := Lib.hid hH
    have HG := Lib.hid hg
    have HLEN := Lib.hid hlen
    have HB' := Lib.hid HB
    have HX := Lib.hid (And.intro hh (And.intro hb (And.intro hc (And.intro hs hn))))
    clear HB HR ho hr0 hl hS hH hg hlen hh hb hc hs hn ht
    go_wp2_with fail
    refine HS.out.mono ?_
    rintro e w2 ⟨rfl, n, os, hw2⟩
    have hH2 : Sort.Holds encStr w2 g 0 (sortB (l0.map bs)).toArray := by
      rw [hw2]
      exact Sort.holds_grow _ _ _ _ _ _ (by simpa using HG.out) (Sort.holds_putRow _ _ _ _ _ _ (Sort.holds_ahead _ _ _ _ _ _ HH.out) (by simp [HLEN.out]))
    have hC := Try.slices_Compact_string g 0 cap (sortB (l0.map bs)) w2 hH2 (by have := HX.out.2.2.1; have := HX.out.2.2.2.2; have := HLEN.out; simp only [maxLen] at *; omega) (by have := HX.out.2.2.2.2; have := HLEN.out; omega)
    rw [HLEN.out] at hC
    have HC := Lib.hid hC
    have HW2 := Lib.hid hw2
    clear hC hw2 hH2
    go_wp2_with fail
    refine HC.out.mono ?_
    rintro e w3 ⟨rfl, q, hw3⟩
    have HW3 := Lib.hid hw3
    clear hw3
    go_wp2
    go_ret
    obtain ⟨hh, hb, hc, hs, hn⟩ := HX.out
    have hg1 : w1.grownBy w2 (some g) := by
      rw [HW2.out]
      exact World.grownBy.trans (b := Sort.putRow encStr (Sort.ahead w1 n) g 0 (sortB (l0.map bs)).toArray) ⟨rfl, rfl, rfl, by simp, fun k hk hne => (putRow_grown (enc := encStr) (Sort.ahead w1 n) g 0 (sortB (l0.map bs)).toArray).block k hk hne⟩ (grow_grown _ _ _)
    have hh2 : ∃ cur2, w2.heap[g]? = some (.cells cur2 9 (0, 0)) ∧ cur2.size = cap := by
      rw [HW2.out, Sort.heap_grow_old _ _ (by simpa using HG.out), putRow_heap, if_pos rfl]
      refine ⟨_, by rw [Sort.heap_ahead, hh]; rfl, by simp [Sort.putCells, hs]⟩
    obtain ⟨cur2, hh2, hs2⟩ := hh2
    have hg2 : w2.grownBy w3 (some g) := by
      rw [HW3.out]
      exact ⟨rfl, rfl, rfl, by simp, fun k hk hne => (putRow_grown (enc := encStr) (Sort.ahead w2 q) g 0 _).block k hk hne⟩
    have hcl : (Lib.compact (sortB (l0.map bs))).length ≤ (sortB (l0.map bs)).length := by
      unfold Lib.compact Lib.compactUpTo
      rw [List.length_map]
      exact Nat.le_trans (List.length_filter_le _ _) (by simp)
    refine ⟨_, rfl, Kd.R_of_own ?_ (fun _ _ => trivial), ?_⟩
    · have h3 := own_putRow (enc := encStr) (w := Sort.ahead w2 q) (base := w.heap.size) (m := (Lib.compact (sortB (l0.map bs))).length) hh2 hb hc hs2 (Lib.compact (sortB (l0.map bs)) ++ List.replicate (l0.length - (Lib.compact (sortB (l0.map bs))).length) []) (by have := HLEN.out; simp; omega) (by simp)
      rw [HW3.out]
      rw [List.take_left, enc_unbs] at h3
      show World.ownsRow _ _ _ _ _ (setL l0).length _
      have e1 : (setL l0).length = (Lib.compact (sortB (l0.map bs))).length := by simp [setL, setB]
      rw [e1]
      exact h3
    · exact (HB'.out.grown hg1 HB'.out.size (fun k hk => by injection hk with hk; omega)).grown hg2 (Nat.le_trans HB'.out.size hg1.size) (fun k hk => by injection hk with hk; omega)

instance : Inhabited ByteArray := ⟨⟨#[]⟩⟩

theorem some1_gives (g : Nat) (lb : Array Value) (eg : ∀ (args : Array Value) (w : World), (callFunc g args).run Try.prog w = .ok (.enter g args) w) (x : ByteArray) (r : Bool) (B : Nat) (W : World) (hc : W.cell? ⟨B, 0, none⟩ = some (.func (.func g) #[] lb)) (hp : FnGives Try.prog g lb #[.string x] (.bool r) W) :
    FnGives Try.prog 89 #[.pointer (some ⟨B, 0, none⟩)] #[.string x] (.bool (!r)) W := by
  show Calls Try.prog 89 #[.string x, .pointer (some ⟨B, 0, none⟩)] W _
  unfold FnGives at hp
  have HP := Lib.hid hp
  clear hp
  go_enter Try.func89, Try.ntmps89
  go_wp2_with (go_at_fn g; refine HP.out.mono ?_; rintro e w' ⟨rfl, q, rfl⟩)
  go_ret
  exact ⟨rfl, _, rfl⟩

theorem delete_empty (a : Option Addr) (c : Nat) (fv : Value) (w : World) : Calls Try.prog 88 #[.slice a 0 c, fv] w fun e w' => e = .returned (.slice a 0 c) ∧ w' = w := by
  go_enter Try.func88, Try.ntmps88
  go_wp2_with fail
  refine (Try.slices_IndexFunc_empty (α := ByteArray) _ _ _ _).mono ?_
  rintro e w' ⟨rfl, rfl⟩
  go_wp2
  go_ret
  exact ⟨rfl, rfl⟩

theorem below_putRow {α : Type} [Inhabited α] (enc : α → Value) {w w1 : World} (h : Below w.heap.size w w1) (g : Nat) (hg : w.heap.size ≤ g) (n : Nat) (dk : Array α) : Below w.heap.size w (Sort.putRow enc (Sort.ahead w1 n) g 0 dk) :=
  h.grown (w' := Sort.putRow enc (Sort.ahead w1 n) g 0 dk) ⟨rfl, rfl, rfl, by simp, fun k hk hne => (putRow_grown (enc := enc) (Sort.ahead w1 n) g 0 dk).block k hk hne⟩ h.size (fun k hk => by injection hk with hk; omega)
theorem sortWorld_below {α : Type} [Inhabited α] (enc : α → Value) {w w1 : World} (h : Below w.heap.size w w1) (g : Nat) (hg : w.heap.size ≤ g) (n : Nat) (dk : Array α) (os : Array Obj) : Below w.heap.size w (sortWorld enc w1 g 0 n dk os) :=
  (below_putRow enc h g hg n dk).grown (grow_grown _ os none) (by simpa using h.size) (fun k hk => by cases hk)

theorem some_calls (A0 : Option Addr) (c0 : Nat) (l0 : List ByteArray) (g : Nat) (lb : Array Value) (eg : ∀ (args : Array Value) (w : World), (callFunc g args).run Try.prog w = .ok (.enter g args) w) (p : ByteArray → Bool) (w : World) (hr0 : Kd.C Kd.string w A0 l0.length l0) (hl : l0.length * 16 ≤ 140737488355328)
    (hp : ∀ (W : World) (x : ByteArray), Below w.heap.size w W → FnGives Try.prog g lb #[.string x] (.bool (p x)) W) :
    Calls Try.prog 74 #[.slice A0 l0.length c0, .func (.func g) #[] lb] w fun e w' => ∃ v0_ : Value, e = .returned v0_ ∧ Kd.R Kd.string 9 w' w.heap.size (fun _ => True) v0_ ((setL l0).filter p) ∧ Below w.heap.size w w' := by
  have HP := Lib.hid hp
  have HR0 := Lib.hid hr0
  have HL := Lib.hid hl
  clear hp hr0 hl
  go_enter Try.func74, Try.ntmps74
  go_wp2_with fail
  refine (set_calls _ _ _ _ (Kd.C_below HR0.out (below_alloc (Below.refl _ _) _)) HL.out).mono ?_
  rintro e w1 ⟨v, rfl, HR, HB⟩
  have hz : (w.alloc (Obj.cells #[Value.func (Fn.func g) #[] lb] 58)).heap.size = w.heap.size + 1 := by simp
  have hcell : w1.cell? ⟨w.heap.size, 0, none⟩ = some (.func (.func g) #[] lb) := by
    rw [HB.cell (by rw [hz]; exact Nat.lt_succ_self _)]
    exact (blk_cell (blk_new w _) 0).trans rfl
  have hBw : Below w.heap.size w w1 := below_step (below_alloc (Below.refl _ _) _) HB
  have ho := Kd.own_of_R HR
  rw [hz] at ho
  have hgive : ∀ (W : World) (x : ByteArray), Below w1.heap.size w1 W → FnGives Try.prog 89 #[.pointer (some ⟨w.heap.size, 0, none⟩)] #[.string x] (.bool (!p x)) W := fun W x hW =>
    some1_gives g lb eg x (p x) w.heap.size W ((hW.cell (World.block_lt_of_cell? w1 _ hcell)).trans hcell) (HP.out W x (below_step hBw hW))
  have e89 := enters_of Try.func89 (by kernel_rfl) rfl
  rcases ho.2 with ⟨rfl, hn⟩ | ⟨g1, cap, cur, rfl, hb, hh, hn, hc, hs, ht⟩
  · have h0 : setL l0 = [] := List.eq_nil_of_length_eq_zero hn
    have H0 := Lib.hid h0
    have HBW := Lib.hid hBw
    clear h0 hBw hn hgive hcell hz HB HR ho e89 eg
    go_wp2_with (go_at_call 88; refine (delete_empty _ _ _ _).mono ?_; rintro e w' ⟨rfl, rfl⟩)
    go_ret
    exact ⟨_, rfl, by rw [H0.out]; exact Kd.R_nil _ _ _ _ _, HBW.out⟩
  · have hs : cur.size = cap := by simpa using hs
    have hH : Sort.Holds Value.string w1 g1 0 (setL l0).toArray := own_holds (base := w.heap.size + 1) (e := 9) (n := (setL l0).length) (cap := cap) ho
    have hg : g1 < w1.heap.size := (Array.getElem?_eq_some_iff.1 hh).1
    have hpo : PredOver Try.prog 89 #[.pointer (some ⟨w.heap.size, 0, none⟩)] Value.string (fun x => !p x) g1 0 (setL l0).toArray.size w1 := by
      intro n os dk x hdk
      refine some1_gives g lb eg x (p x) w.heap.size _ ?_ (HP.out _ x (sortWorld_below _ hBw g1 (by omega) n dk os))
      have h2 := sortWorld_below Value.string (w := w.alloc (.cells #[.func (.func g) #[] lb] 58)) (HB) g1 (by rw [hz]; exact hb) n dk os
      rw [h2.cell (p := ⟨w.heap.size, 0, none⟩) (by rw [hz]; exact Nat.lt_succ_self _)]
      exact (blk_cell (blk_new w _) 0).trans rfl
    have hD := Try.slices_DeleteFunc Value.string (fun _ => rfl) (fun x => !p x) 89 #[.pointer (some ⟨w.heap.size, 0, none⟩)] e89 ⟨#[]⟩ (fun _ => by kernel_rfl) g1 0 cap (setL l0).toArray w1 (fun W x hW => hgive W x hW) hpo hH (by simp only [maxLen] at hc; simp; omega) (by simpa using hn)
    have hfl : (((setL l0).toArray.toList.filter fun x => !!p x)) = (setL l0).filter p := by simp
    rw [hfl] at hD
    simp only [List.size_toArray] at hD
    have HD := Lib.hid hD
    have HBW := Lib.hid hBw
    have HX := Lib.hid (And.intro hh (And.intro hb (And.intro hc (And.intro hs hn))))
    clear hD hfl hpo hg hH hs hBw hgive hcell hz HB HR ho e89 eg hh hb hc hn ht
    go_wp2_with (go_at_call 88; refine HD.out.mono ?_; rintro e w2 ⟨rfl, q, hw2⟩)
    have HW2 := Lib.hid hw2
    clear hw2
    go_wp2
    go_ret
    obtain ⟨hh, hb, hc, hs, hn⟩ := HX.out
    have hfl : ((setL l0).filter p).length ≤ (setL l0).length := List.length_filter_le _ _
    refine ⟨_, rfl, Kd.R_of_own ?_ (fun _ _ => trivial), ?_⟩
    · have h3 := own_putRow (enc := Value.string) (w := Sort.ahead w1 q) (base := w.heap.size) (m := ((setL l0).filter p).length) hh (by omega) hc hs ((setL l0).filter p ++ List.replicate ((setL l0).length - ((setL l0).filter p).length) ⟨#[]⟩) (by simp; omega) (by simp)
      rw [List.take_left] at h3
      exact h3
    · (try rw [HW2.out])
      exact below_putRow Value.string HBW.out g1 (by omega) q _

def hasB (l : List ByteArray) (s : ByteArray) : Bool := l.any fun x => decide (s.toList = x.toList)

theorem wrap_up {i : Int} {n : Nat} (h0 : 0 ≤ i) (h : i < (n : Int)) (hn : n ≤ 140737488355328) : wrap64 (i + 1) = i + 1 := by
  unfold wrap64
  omega

theorem index_f (l : List ByteArray) (s : ByteArray) (hn : l.length ≤ 140737488355328) (d : Nat) : ∀ (k : Nat) (i : Int), 0 ≤ i → i ≤ l.length → (l.length : Int) - i = d → d < k →
    ∃ r : Int, XHas.slices_Index_string_string.l0 k l s (l.length : Int) i = some r ∧ decide (r ≥ 0) = (l.drop i.toNat).any fun x => decide (s.toList = x.toList) := by
  induction d with
  | zero =>
    intro k i h0 h1 hd hk
    obtain ⟨k, rfl⟩ : ∃ m, k = m + 1 := ⟨k - 1, by omega⟩
    refine ⟨-1, by simp only [XHas.slices_Index_string_string.l0]; rw [if_neg (by omega)], ?_⟩
    rw [List.drop_of_length_le (by omega)]
    rfl
  | succ d ih =>
    intro k i h0 h1 hd hk
    obtain ⟨k, rfl⟩ : ∃ m, k = m + 1 := ⟨k - 1, by omega⟩
    have hlt : i < (l.length : Int) := by omega
    have hget : l.drop i.toNat = rdOf ByteArray.empty l i :: l.drop (i.toNat + 1) := by
      rw [List.drop_eq_getElem_cons (by omega), rdOf, List.getD_eq_getElem?_getD, List.getElem?_eq_getElem (by omega)]
      rfl
    by_cases hs : s.toList = (rdOf ByteArray.empty l i).toList
    · refine ⟨i, by simp only [XHas.slices_Index_string_string.l0]; rw [if_pos hlt, if_pos h0, if_pos hlt, if_pos hs], ?_⟩
      rw [hget]
      simp [hs]
      omega
    · obtain ⟨r, hr, hb⟩ := ih k (i + 1) (by omega) (by omega) (by omega) (by omega)
      refine ⟨r, by simp only [XHas.slices_Index_string_string.l0]; rw [if_pos hlt, if_pos h0, if_pos hlt, if_neg hs, wrap_up h0 hlt hn]; exact hr, ?_⟩
      rw [hb, hget, show (i + 1).toNat = i.toNat + 1 by omega, List.any_cons]
      simp [hs]

theorem has_f (l : List ByteArray) (s : ByteArray) (hn : l.length ≤ 140737488355328) : XHas.name_Has.f (l.length + 1) l s = some (hasB l s) := by
  obtain ⟨r, hr, hb⟩ := index_f l s hn l.length (l.length + 1) 0 (by omega) (by omega) (by omega) (by omega)
  unfold XHas.name_Has.f XHas.slices_Contains_string_string.f XHas.slices_Index_string_string.f
  rw [hr]
  simp only [Option.bind_some, Option.some.injEq]
  rw [hb]
  rfl

theorem has_calls (A : Option Addr) (c : Nat) (l : List ByteArray) (s : ByteArray) (w : World) (hr : Kd.C Kd.string w A l.length l) (hc : l.length ≤ c) (hn : l.length ≤ 140737488355328) :
    Calls Try.prog 45 #[.slice A l.length c, .string s] w fun e w' => e = .returned (.bool (hasB l s)) ∧ Drawn0 w w' :=
  XHas.name_Has.calls _ A c l s _ w hr hc (has_f l s hn)

/-- A box that holds a slice that is read. -/
def BoxS (w : World) (B : Nat) (l : List ByteArray) : Prop := ∃ A c, w.cell? ⟨B, 0, none⟩ = some (.slice A l.length c) ∧ l.length ≤ c ∧ Kd.C Kd.string w A l.length l
theorem BoxS.below {w W : World} {B : Nat} {l : List ByteArray} (h : BoxS w B l) (hb : Below w.heap.size w W) : BoxS W B l := by
  obtain ⟨A, c, h1, h2, h3⟩ := h
  exact ⟨A, c, (hb.cell (World.block_lt_of_cell? w _ h1)).trans h1, h2, Kd.C_below h3 hb⟩

theorem minus1_gives (l : List ByteArray) (hn : l.length ≤ 140737488355328) (x : ByteArray) (B : Nat) (W : World) (hc : BoxS W B l) :
    FnGives Try.prog 75 #[.pointer (some ⟨B, 0, none⟩)] #[.string x] (.bool (!hasB l x)) W := by
  show Calls Try.prog 75 #[.string x, .pointer (some ⟨B, 0, none⟩)] W _
  obtain ⟨A, c, h1, h2, h3⟩ := hc
  have H := Lib.hid (has_calls A c l x W h3 h2 hn)
  clear h2 h3 hn
  go_enter Try.func75, Try.ntmps75
  go_wp2_with (go_at_call 45; refine H.out.mono ?_; rintro e w' ⟨rfl, ⟨q, rfl⟩⟩)
  go_ret
  exact ⟨rfl, _, rfl⟩

theorem both1_gives (l : List ByteArray) (hn : l.length ≤ 140737488355328) (x : ByteArray) (B : Nat) (W : World) (hc : BoxS W B l) :
    FnGives Try.prog 76 #[.pointer (some ⟨B, 0, none⟩)] #[.string x] (.bool (hasB l x)) W := by
  show Calls Try.prog 76 #[.string x, .pointer (some ⟨B, 0, none⟩)] W _
  obtain ⟨A, c, h1, h2, h3⟩ := hc
  have H := Lib.hid (has_calls A c l x W h3 h2 hn)
  clear h2 h3 hn
  go_enter Try.func76, Try.ntmps76
  go_wp2_with (go_at_call 45; refine H.out.mono ?_; rintro e w' ⟨rfl, ⟨q, rfl⟩⟩)
  go_ret
  exact ⟨rfl, _, rfl⟩

theorem boxS_new (w : World) (A : Option Addr) (c : Nat) (l : List ByteArray) (hr : Kd.C Kd.string w A l.length l) (hc : l.length ≤ c) (t : TypeId) : BoxS (w.alloc (.cells #[.slice A l.length c] t)) w.heap.size l :=
  ⟨A, c, (blk_cell (blk_new w _) 0).trans rfl, hc, Kd.C_below hr (below_alloc (Below.refl _ _) _)⟩

theorem minus_calls (A0 : Option Addr) (c0 : Nat) (l0 : List ByteArray) (A1 : Option Addr) (c1 : Nat) (l1 : List ByteArray) (w : World) (hr0 : Kd.C Kd.string w A0 l0.length l0) (hl : l0.length * 16 ≤ 140737488355328) (hr1 : Kd.C Kd.string w A1 l1.length l1) (hc1 : l1.length ≤ c1) (hn : l1.length ≤ 140737488355328) :
    Calls Try.prog 41 #[.slice A0 l0.length c0, .slice A1 l1.length c1] w fun e w' => ∃ v0_ : Value, e = .returned v0_ ∧ Kd.R Kd.string 9 w' w.heap.size (fun _ => True) v0_ ((setL l0).filter fun s => !hasB l1 s) ∧ Below w.heap.size w w' := by
  have e75 := enters_of Try.func75 (by kernel_rfl) rfl
  have hb := below_alloc (Below.refl w.heap.size w) (.cells #[.slice A1 l1.length c1] 22)
  have hS := some_calls A0 c0 l0 75 #[.pointer (some ⟨w.heap.size, 0, none⟩)] e75 (fun s => !hasB l1 s) (w.alloc (.cells #[.slice A1 l1.length c1] 22)) (Kd.C_below hr0 hb) hl (fun W x hW => minus1_gives l1 hn x _ W ((boxS_new w A1 c1 l1 hr1 hc1 22).below hW))
  have HS := Lib.hid hS
  have HB := Lib.hid hb
  clear hS hr0 hl hr1 hc1 hn e75 hb
  go_enter Try.func41, Try.ntmps41
  go_wp2_with (go_at_call 74; refine HS.out.mono ?_; rintro e w2 ⟨v, rfl, HR, hb2⟩)
  go_ret
  exact ⟨_, rfl, Kd.R_lower HR HB.out.size, below_step HB.out hb2⟩

theorem both_calls (A0 : Option Addr) (c0 : Nat) (l0 : List ByteArray) (A1 : Option Addr) (c1 : Nat) (l1 : List ByteArray) (w : World) (hr0 : Kd.C Kd.string w A0 l0.length l0) (hl : l0.length * 16 ≤ 140737488355328) (hr1 : Kd.C Kd.string w A1 l1.length l1) (hc1 : l1.length ≤ c1) (hn : l1.length ≤ 140737488355328) :
    Calls Try.prog 42 #[.slice A0 l0.length c0, .slice A1 l1.length c1] w fun e w' => ∃ v0_ : Value, e = .returned v0_ ∧ Kd.R Kd.string 9 w' w.heap.size (fun _ => True) v0_ ((setL l0).filter fun s => hasB l1 s) ∧ Below w.heap.size w w' := by
  have e76 := enters_of Try.func76 (by kernel_rfl) rfl
  have hb := below_alloc (Below.refl w.heap.size w) (.cells #[.slice A1 l1.length c1] 22)
  have hS := some_calls A0 c0 l0 76 #[.pointer (some ⟨w.heap.size, 0, none⟩)] e76 (fun s => hasB l1 s) (w.alloc (.cells #[.slice A1 l1.length c1] 22)) (Kd.C_below hr0 hb) hl (fun W x hW => both1_gives l1 hn x _ W ((boxS_new w A1 c1 l1 hr1 hc1 22).below hW))
  have HS := Lib.hid hS
  have HB := Lib.hid hb
  clear hS hr0 hl hr1 hc1 hn e76 hb
  go_enter Try.func42, Try.ntmps42
  go_wp2_with (go_at_call 74; refine HS.out.mono ?_; rintro e w2 ⟨v, rfl, HR, hb2⟩)
  go_ret
  exact ⟨_, rfl, Kd.R_lower HR HB.out.size, below_step HB.out hb2⟩

end Go.Proofs.Ytnegeacpfkcecaa.EName
