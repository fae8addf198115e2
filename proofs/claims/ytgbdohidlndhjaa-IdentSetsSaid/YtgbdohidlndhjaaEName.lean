/- Proved: what name.Right, slices.Clone, name.Set, strings.Cut and strings.IndexByte answer, for texts and lists of any make whose cells take fewer than 2^47 bytes. Condition of strings.Cut: a text shorter than 4294967281 bytes; a whole number in internal/bytealg.MaxLen (EGlob). -/
import Derived.Test.YtgbdohidlndhjaaProg
import Derived.Test.YtgbdohidlndhjaaWWords
import Derived.Test.YtgbdohidlndhjaaWMore
import Derived.Test.YtgbdohidlndhjaaShelf
import Derived.Test.YtgbdohidlndhjaaEGen
import Derived.Test.YtgbdohidlndhjaaEGlob
import Derived.WalkKit
import Derived.WalkSpells
import Derived.Lib.Hide
import Derived.KernelRfl
import Derived.RowKit3
import Derived.BigQuiet
import Derived.Deep.QuietTactic
namespace Go.Proofs.Ytgbdohidlndhjaa.EName
open Go.Shelf Go.RowKit Go.Lib Go.Proofs.YtgbdohidlndhjaaW.PrintWords Go.Proofs.Ytgbdohidlndhjaa.EGen
set_option linter.unusedSimpArgs false

/-- May a rune stand in a name? -/
def okRune (r : Nat) : Bool := decide (97 ≤ r) && decide (r ≤ 122) || decide (48 ≤ r) && decide (r ≤ 57) || r == 46 || r == 95 || r == 45

theorem right1_pred (w : World) : PredAt Try.prog 43 #[] encR (fun r => !okRune r) w := by
  intro W r _
  unfold FnGives encR
  go_enter Try.func43, Try.ntmps43
  go_wp2
  all_goals
    go_ret
    refine ⟨?_, 0, rfl⟩
    refine congrArg (fun b => Ending.returned (Value.bool b)) ?_
    unfold okRune
    rw [Bool.eq_iff_iff]
    simp
    omega

def rightB (s : ByteArray) : Bool := !(s.toList == []) && decide (s.size ≤ 40) && !(s.toList == [46]) && !(s.toList == [46, 46]) && decide (Lib.idxFunc (fun r => !okRune r) true s < 0)

theorem name_Right_calls (s : ByteArray) (w : World) (hs : s.size ≤ 9223372036854775807) :
    Calls Try.prog 30 #[.string s] w fun e w' => e = .returned (.bool (rightB s)) ∧ Below w.heap.size w w' := by
  have e68 := enters_of Try.func43 (by kernel_rfl) rfl
  have hI := fun W => Try.strings_IndexFunc 43 #[] e68 _ s W (right1_pred W)
  generalize hx : Lib.idxFunc (fun r => !okRune r) true s = x at hI
  have Hx := Lib.hid hx
  clear hx
  by_cases h1 : s.toList = []
  · go_enter Try.func30, Try.ntmps30
    go_wp2
    go_ret
    exact ⟨by simp [rightB, h1], Below.refl _ _⟩
  by_cases h2 : s.size ≤ 40
  · by_cases h3 : s.toList = [46]
    · go_enter Try.func30, Try.ntmps30
      go_wp2
      go_ret
      exact ⟨by simp [rightB, h3], Below.refl _ _⟩
    by_cases h4 : s.toList = [46, 46]
    · go_enter Try.func30, Try.ntmps30
      go_wp2
      go_ret
      exact ⟨by simp [rightB, h4], Below.refl _ _⟩
    go_enter Try.func30, Try.ntmps30
    go_wp2_with (go_at_call 44; refine (hI _).mono ?_; rintro e w' ⟨rfl, hb⟩)
    go_ret
    exact ⟨by simp [rightB, h1, h2, h3, h4, Hx.out], hb⟩
  · go_enter Try.func30, Try.ntmps30
    go_wp2
    go_ret
    exact ⟨by simp [rightB, h2], Below.refl _ _⟩

theorem info9 : (Try.prog.info? 9).map (fun i => (i.zero, i.size, i.bytes)) = some (some (.string ⟨#[]⟩), 1, 16) := by kernel_rfl

theorem clone_calls (A0 : Option Addr) (c0 : Nat) (l0 : List ByteArray) (w : World) (hr0 : Kd.C Kd.string w A0 l0.length l0) (hl : l0.length * 16 ≤ 140737488355328) :
    Calls Try.prog 55 #[.slice A0 l0.length c0] w fun e w' => ∃ v0_ : Value, e = .returned v0_ ∧ Kd.R Kd.string 9 w' w.heap.size (fun _ => True) v0_ l0 ∧ Below w.heap.size w w' := by
  have q22 : ∀ (w : World) (a : Option Addr) (n c n' c' : Nat), (binOp .eql 35 (.slice a n c) (.slice none n' c')).run Try.prog w = .ok (.bool a.isNone) w := fun w a n c n' c' => Lib.run_eql_slice_nil w _ _ a n c n' c' Try.underlying35
  rcases A0 with _ | ad
  · have h0 : l0 = [] := by
      rcases l0 with _ | ⟨x, l⟩
      · rfl
      · obtain ⟨ad, h, _⟩ := hr0.2.2 (by simp)
        cases h
    subst h0
    clear hr0
    go_enter Try.func55, Try.ntmps55
    go_wp2
    go_ret
    exact ⟨_, rfl, Kd.R_nil _ _ _ _ _, Below.refl _ _⟩
  · have HR0 := Aside0.mk hr0
    clear hr0
    go_enter Try.func55, Try.ntmps55
    go_wp2_with (first | ((with_reducible refine gate_dst (N := 5) rfl ?_); refine Kd.R_lit Kd.string w.heap.size 9 ?hg (N := 5) ?hd (xs := ([] : List ByteArray)) (inner := []) (ok := fun _ => True) (okp := fun _ => True) ?hr ?hp (fun _ hk => hk) trivial (Below.refl _ _) (Nat.le_refl _) (by simp) ?_; (case hd => rfl); (case hg => rfl); (case hr => first | (go_simp; done) | (go_simp; rfl)); (case hp => exact (Reps.none _ _)); intro v2 w2 ho hb hg_ hnew_; clear hg_ hnew_; have HO := Aside0.mk ho; have HB := Aside0.mk hb; clear ho hb) | ((with_reducible refine gate_builtin (b := .append) (xs := #[.tmp 5, .tmp 6]) rfl ?_); at_builtin; refine Kd.R_append_rows Kd.string (w0 := w) w.heap.size rfl (.tmp 5) (.tmp 6) 35 9 (.string ⟨#[]⟩) 16 rfl Try.underlying35 info9 rfl (by decide) (by omega) v2 [] l0 _ _ _ (fun _ => True) (fun _ => False) rfl rfl HO.out (Kd.C_below HR0.out HB.out) (fun _ _ h => h) (fun _ h => h.elim) (fun _ _ => trivial) HB.out HB.out.size (by simpa using hl) ?_; intro v3 w3 ho3 hb3 hg3 hat3; have HO3 := Aside0.mk ho3; have HB3 := Aside0.mk hb3; clear ho3 hb3 hg3 hat3))
    go_ret
    exact ⟨_, rfl, HO3.out, HB3.out⟩

def bs (x : ByteArray) : List UInt8 := x.data.toList
def unbs (l : List UInt8) : ByteArray := ⟨l.toArray⟩
theorem unbs_bs (x : ByteArray) : unbs (bs x) = x := by simp [unbs, bs]
theorem bs_unbs (x : List UInt8) : bs (unbs x) = x := by simp [unbs, bs]
theorem enc_bs (l : List ByteArray) : (l.map bs).map encStr = l.map Value.string := by
  rw [List.map_map]
  apply List.map_congr_left
  intro x _
  show Value.string (unbs (bs x)) = _
  rw [unbs_bs]
theorem enc_unbs (l : List (List UInt8)) : l.map encStr = (l.map unbs).map Value.string := by
  rw [List.map_map]
  rfl
def sortB (l : List (List UInt8)) : List (List UInt8) := l.mergeSort fun x y => decide (x ≤ y)
def setB (l : List ByteArray) : List (List UInt8) := Lib.compact (sortB (l.map bs))
def setL (l : List ByteArray) : List ByteArray := (setB l).map unbs

theorem setL_nil : setL [] = [] := by simp [setL, setB, sortB, Lib.compact, Lib.compactUpTo]

theorem set_calls (A0 : Option Addr) (c0 : Nat) (l0 : List ByteArray) (w : World) (hr0 : Kd.C Kd.string w A0 l0.length l0) (hl : l0.length * 16 ≤ 140737488355328) :
    Calls Try.prog 42 #[.slice A0 l0.length c0] w fun e w' => ∃ v0_ : Value, e = .returned v0_ ∧ Kd.R Kd.string 9 w' w.heap.size (fun _ => True) v0_ (setL l0) ∧ Below w.heap.size w w' := by
  go_enter Try.func42, Try.ntmps42
  go_wp2_with fail
  refine (clone_calls _ _ _ _ hr0 hl).mono ?_
  rintro e w1 ⟨v, rfl, HR, HB⟩
  have ho := Kd.own_of_R HR
  rcases ho.2 with ⟨rfl, hn⟩ | ⟨g, cap, cur, rfl, hb, hh, hn, hc, hs, ht⟩
  · have h0 : l0 = [] := List.eq_nil_of_length_eq_zero hn
    subst h0
    have HB' := Lib.hid HB
    clear HB HR ho hn hr0 hl
    go_wp2_with fail
    refine (Try.slices_Sort_string_none _ _ _).mono ?_
    rintro e w' ⟨rfl, rfl⟩
    go_wp2_with (go_at_call 57; refine (Try.slices_Compact_string_empty _ _ _).mono ?_; rintro e w' ⟨rfl, rfl⟩)
    go_ret
    exact ⟨_, rfl, by rw [setL_nil]; exact Kd.R_nil _ _ _ _ _, HB'.out⟩
  · have hs : cur.size = cap := by simpa using hs
    have hH : Sort.Holds encStr w1 g 0 (l0.map bs).toArray := own_holds (base := w.heap.size) (e := 9) (n := l0.length) (cap := cap) (by rw [enc_bs]; exact ho)
    have hg : g < w1.heap.size := (Array.getElem?_eq_some_iff.1 hh).1
    have hS := Try.slices_Sort_string g 0 cap (l0.map bs) w1 hH hg (by rw [List.length_map]; omega)
    rw [List.length_map] at hS
    have hlen : (sortB (l0.map bs)).length = l0.length := by simp [sortB]
    have HS := Lib.hid hS
    have HH := Lib.hid hH
    have HG := Lib.hid hg
    have HLEN := Lib.hid hlen
    have HB' := Lib.hid HB
    have HX := Lib.hid (And.intro hh (And.intro hb (And.intro hc (And.intro hs hn))))
    clear HB HR ho hr0 hl hS hH hg hlen hh hb hc hs hn ht
    go_wp2_with fail
    refine HS.out.mono ?_
    rintro e w2 ⟨rfl, n, os, hw2⟩
    have hH2 : Sort.Holds encStr w2 g 0 (sortB (l0.map bs)).toArray := by
      rw [hw2]
      exact Sort.holds_grow _ _ _ _ _ _ (by simpa using HG.out) (Sort.holds_putRow _ _ _ _ _ _ (Sort.holds_ahead _ _ _ _ _ _ HH.out) (by simp [HLEN.out]))
    have hC := Try.slices_Compact_string g 0 cap (sortB (l0.map bs)) w2 hH2 (by have := HX.out.2.2.1; have := HX.out.2.2.2.2; have := HLEN.out; simp only [maxLen] at *; omega) (by have := HX.out.2.2.2.2; have := HLEN.out; omega)
    rw [HLEN.out] at hC
    have HC := Lib.hid hC
    have HW2 := Lib.hid hw2
    clear hC hw2 hH2
    go_wp2_with fail
    refine HC.out.mono ?_
    rintro e w3 ⟨rfl, q, hw3⟩
    have HW3 := Lib.hid hw3
    clear hw3
    go_wp2
    go_ret
    obtain ⟨hh, hb, hc, hs, hn⟩ := HX.out
    have hg1 : w1.grownBy w2 (some g) := by
      rw [HW2.out]
      exact World.grownBy.trans (b := Sort.putRow encStr (Sort.ahead w1 n) g 0 (sortB (l0.map bs)).toArray) ⟨rfl, rfl, rfl, by simp, fun k hk hne => (putRow_grown (enc := encStr) (Sort.ahead w1 n) g 0 (sortB (l0.map bs)).toArray).block k hk hne⟩ (grow_grown _ _ _)
    have hh2 : ∃ cur2, w2.heap[g]? = some (.cells cur2 9 (0, 0)) ∧ cur2.size = cap := by
      rw [HW2.out, Sort.heap_grow_old _ _ (by simpa using HG.out), putRow_heap, if_pos rfl]
      refine ⟨_, by rw [Sort.heap_ahead, hh]; rfl, by simp [Sort.putCells, hs]⟩
    obtain ⟨cur2, hh2, hs2⟩ := hh2
    have hg2 : w2.grownBy w3 (some g) := by
      rw [HW3.out]
      exact ⟨rfl, rfl, rfl, by simp, fun k hk hne => (putRow_grown (enc := encStr) (Sort.ahead w2 q) g 0 _).block k hk hne⟩
    have hcl : (Lib.compact (sortB (l0.map bs))).length ≤ (sortB (l0.map bs)).length := by
      unfold Lib.compact Lib.compactUpTo
      rw [List.length_map]
      exact Nat.le_trans (List.length_filter_le _ _) (by simp)
    refine ⟨_, rfl, Kd.R_of_own ?_ (fun _ _ => trivial), ?_⟩
    · have h3 := own_putRow (enc := encStr) (w := Sort.ahead w2 q) (base := w.heap.size) (m := (Lib.compact (sortB (l0.map bs))).length) hh2 hb hc hs2 (Lib.compact (sortB (l0.map bs)) ++ List.replicate (l0.length - (Lib.compact (sortB (l0.map bs))).length) []) (by have := HLEN.out; simp; omega) (by simp)
      rw [HW3.out]
      rw [List.take_left, enc_unbs] at h3
      show World.ownsRow _ _ _ _ _ (setL l0).length _
      have e1 : (setL l0).length = (Lib.compact (sortB (l0.map bs))).length := by simp [setL, setB]
      rw [e1]
      exact h3
    · exact (HB'.out.grown hg1 HB'.out.size (fun k hk => by injection hk with hk; omega)).grown hg2 (Nat.le_trans HB'.out.size hg1.size) (fun k hk => by injection hk with hk; omega)

end Go.Proofs.Ytgbdohidlndhjaa.EName
