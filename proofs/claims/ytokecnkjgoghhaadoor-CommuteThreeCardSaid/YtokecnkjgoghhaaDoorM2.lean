/- Statements of the machine whose order is drawn: whatever order comes up, the end is the text's. Statements of the machine whose order is drawn: whatever order comes up, the end is the text's. The end of a function: what it hands back, in Go's memory. Where a run is cut the state is kept, with its rows numbered anew; and the end of a function. The machine's run of a function is Go's: what the machine answers is the function's contract. The machine's limit over all bounds on the rounds answers as one round more does. The machine with the tests remembered: a slot that was tested is not tested aga -/
import Derived.Test.YtokecnkjgoghhaaDoorM1
import Derived.Below
import Derived.Deep.Draws
import Derived.Deep.AppendLies
import Derived.Maps.AppendAt
import Derived.OwnWalk
import Derived.Laws.BytesArg
import Derived.Laws.MakeOwn
import Derived.Laws.OwnMore
import Derived.Deep.OwnRows
import Derived.Tactics
import Derived.Lib.ConvBytes
import Derived.Laws.Slices
import Derived.WalkKit
import Derived.KernelRfl
import Derived.RowKit3
import Derived.Deep.LoopGhost
import Derived.Deep.QuietTactic
import Derived.BigQuiet
import Derived.WideLaws
import Derived.Deep.DeepCutAuto
import Derived.Deep.CutBlock
import Derived.Deep.RegionHeld3
import Derived.Laws.Rows
import Derived.Lib.AppendStr
import Derived.ArgAppend
import Derived.Laws.IdiomCopy
import Derived.RowKit
import Derived.OrdersHeld
import Derived.Laws.BitsLemmas
section
/- Statements of the machine whose order is drawn: whatever order comes up, the end is the text's. -/
set_option linter.unusedVariables false
set_option linter.unusedSimpArgs false
namespace Go.Proofs.YtokecnkjgoghhaaDoor.Ab
open Go Go.RowKit

/-! ### Who is ahead of whom -/
theorem maskOf_spec : ∀ (l : List Go.Edge) (acc : List Nat) (i : Nat), (maskOf l acc).testBit i = true → ∃ e ∈ l, Region.binds .any e = true ∧ (e.on = i ∨ (acc.getD e.on 0).testBit i = true)
  | [], acc, i, h => by simp [maskOf] at h
  | e :: l, acc, i, h => by
    simp only [maskOf, Nat.testBit_or, Bool.or_eq_true] at h
    rcases h with h | h
    · cases hb : Region.binds .any e with
      | false => rw [hb] at h; simp at h
      | true =>
        rw [hb] at h
        simp only [cond_true, Nat.testBit_or, Bool.or_eq_true] at h
        refine ⟨e, List.mem_cons_self .., hb, ?_⟩
        rcases h with h | h
        · rw [Nat.testBit_two_pow] at h; exact .inl (by simpa using h)
        · exact .inr h
    · obtain ⟨e', he', h1, h2⟩ := maskOf_spec l acc i h
      exact ⟨e', List.mem_cons_of_mem _ he', h1, h2⟩

theorem masks_prefix : ∀ (l : List Oper) (acc : List Nat), ∃ r, masks l acc = acc ++ r
  | [], acc => ⟨[], by simp [masks]⟩
  | o :: l, acc => by
    obtain ⟨r, h⟩ := masks_prefix l (acc ++ [maskOf o.after.toList acc])
    exact ⟨[maskOf o.after.toList acc] ++ r, by rw [masks, h, List.append_assoc]⟩

theorem masks_get : ∀ (l : List Oper) (acc : List Nat) (q : Nat) (o : Oper), l[q]? = some o → ∃ pre, (∃ r, masks l acc = pre ++ r) ∧ (masks l acc).getD (acc.length + q) 0 = maskOf o.after.toList pre
  | o :: l, acc, 0, o', h => by
    simp only [List.getElem?_cons_zero, Option.some.injEq] at h
    subst h
    obtain ⟨r, hr⟩ := masks_prefix l (acc ++ [maskOf o.after.toList acc])
    refine ⟨acc, masks_prefix (o :: l) acc, ?_⟩
    rw [masks, hr]
    simp
  | o :: l, acc, q + 1, o', h => by
    obtain ⟨pre, h1, h2⟩ := masks_get l (acc ++ [maskOf o.after.toList acc]) q o' (by simpa using h)
    refine ⟨pre, by rw [masks]; exact h1, ?_⟩
    rw [masks]
    rw [List.length_append, List.length_singleton] at h2
    rw [show acc.length + (q + 1) = acc.length + 1 + q by omega]
    exact h2
  | [], _, _, _, h => by simp at h

theorem masks_spec {ops : Array Oper} {j i : Nat} {o : Oper} (ho : ops[j]? = some o) (h : ((masks ops.toList []).getD j 0).testBit i = true) :
    ∃ e ∈ o.after.toList, Region.binds .any e = true ∧ (e.on = i ∨ ((masks ops.toList []).getD e.on 0).testBit i = true) := by
  obtain ⟨pre, ⟨r, h1⟩, h2⟩ := masks_get ops.toList [] j o (by simpa using ho)
  simp only [List.length_nil, Nat.zero_add] at h2
  rw [h2] at h
  obtain ⟨e, he, hb, hx⟩ := maskOf_spec _ _ _ h
  refine ⟨e, he, hb, hx.imp (fun x => x) fun h => ?_⟩
  rw [h1]
  by_cases hl : e.on < pre.length
  · rw [List.getD_eq_getElem?_getD, List.getElem?_append_left hl, ← List.getD_eq_getElem?_getD]; exact h
  · rw [List.getD_eq_getElem?_getD, List.getElem?_eq_none (by omega)] at h
    simp at h

theorem allOk_get {ops : Array Oper} {M : List Nat} : ∀ (l : List Oper) (i q : Nat) (o : Oper), allOk ops M i l = true → l[q]? = some o → opOk (i + q) o = true ∧ pairOk ops M o (i + q) 0 ops.toList = true
  | o :: l, i, 0, o', h, hq => by
    simp only [List.getElem?_cons_zero, Option.some.injEq] at hq
    subst hq
    simp only [allOk, Bool.and_eq_true] at h
    exact h.1
  | o :: l, i, q + 1, o', h, hq => by
    simp only [allOk, Bool.and_eq_true] at h
    have := allOk_get l (i + 1) q o' h.2 (by simpa using hq)
    rwa [show i + 1 + q = i + (q + 1) by omega] at this
  | [], _, _, _, _, h => by simp at h

theorem pairOk_get {ops : Array Oper} {M : List Nat} {o : Oper} {i : Nat} : ∀ (l : List Oper) (j q : Nat) (o' : Oper), pairOk ops M o i j l = true → l[q]? = some o' → i = j + q ∨ ordered M i (j + q) = true ∨ o.apart ops o' = true
  | o1 :: l, j, 0, o', h, hq => by
    simp only [List.getElem?_cons_zero, Option.some.injEq] at hq
    subst hq
    simp only [pairOk, Bool.and_eq_true, Bool.or_eq_true] at h
    rcases h.1 with (h | h) | h
    · exact .inl (Nat.eq_of_beq_eq_true h)
    · exact .inr (.inl h)
    · exact .inr (.inr h)
  | o1 :: l, j, q + 1, o', h, hq => by
    simp only [pairOk, Bool.and_eq_true] at h
    have := pairOk_get l (j + 1) q o' h.2 (by simpa using hq)
    rwa [show j + 1 + q = j + (q + 1) by omega] at this
  | [], _, _, _, _, h => by simp at h

theorem beside_get {M : List Nat} {i : Nat} : ∀ (l : List Oper) (j q : Nat) (o : Oper), beside M i j l = false → l[q]? = some o → isE2 o = true → i = j + q ∨ ordered M i (j + q) = true
  | o1 :: l, j, 0, o, h, hq, he => by
    simp only [List.getElem?_cons_zero, Option.some.injEq] at hq
    subst hq
    simp only [beside, Bool.or_eq_false_iff] at h
    have h1 := h.1
    rw [he] at h1
    simp only [Bool.true_and, Bool.and_eq_false_iff, Bool.not_eq_false'] at h1
    rcases h1 with h1 | h1
    · exact .inl (Nat.eq_of_beq_eq_true h1)
    · exact .inr h1
  | o1 :: l, j, q + 1, o, h, hq, he => by
    simp only [beside, Bool.or_eq_false_iff] at h
    have := beside_get l (j + 1) q o h.2 (by simpa using hq) he
    rwa [show j + 1 + q = j + (q + 1) by omega] at this
  | [], _, _, _, _, h, _ => by simp at h

theorem besideW_get {M : List Nat} {wl : List (Option Nat)} {i id : Nat} : ∀ (l : List Oper) (j q : Nat) (o : Oper), besideW M wl i id j l = false → l[q]? = some o → isE2 o = true → i = j + q ∨ ordered M i (j + q) = true ∨ wHit wl (j + q) id = false
  | o1 :: l, j, 0, o, h, hq, he => by
    simp only [List.getElem?_cons_zero, Option.some.injEq] at hq
    subst hq
    simp only [besideW, Bool.or_eq_false_iff] at h
    have h1 := h.1
    rw [he] at h1
    simp only [Bool.true_and, Bool.and_eq_false_iff, Bool.not_eq_false'] at h1
    rcases h1 with (h1 | h1) | h1
    · exact .inl (Nat.eq_of_beq_eq_true h1)
    · exact .inr (.inl h1)
    · exact .inr (.inr h1)
  | o1 :: l, j, q + 1, o, h, hq, he => by
    simp only [besideW, Bool.or_eq_false_iff] at h
    have := besideW_get l (j + 1) q o h.2 (by simpa using hq) he
    rwa [show j + 1 + q = j + (q + 1) by omega] at this
  | [], _, _, _, _, h, _ => by simp at h

/-- What is ahead, of who may come up, has come up. -/
theorem anc_in {ops : Array Oper} (hok : drawOk ops (masks ops.toList []) = true) {D : Nat → Prop} (hcl : ∀ (i : Nat) (o : Oper), D i → ops[i]? = some o → ∀ e ∈ o.after.toList, Region.binds .any e = true → D e.on) :
    ∀ (j : Nat) (o : Oper), ops[j]? = some o → (∀ e ∈ o.after.toList, Region.binds .any e = true → D e.on) → ∀ i, ((masks ops.toList []).getD j 0).testBit i = true → D i ∧ i < j := by
  intro j
  induction j using Nat.strongRecOn with
  | _ j ih =>
    intro o ho hp i hi
    obtain ⟨e, he, hb, hx⟩ := masks_spec ho hi
    have hlt : e.on < j := by
      have := (allOk_get ops.toList 0 j o hok (by simpa using ho)).1
      simp only [opOk, Nat.zero_add, Bool.and_eq_true, List.all_eq_true] at this
      have := this.2 e he
      rw [hb] at this
      simp only [Bool.not_true, Bool.false_or] at this
      exact Nat.le_of_ble_eq_true this
    rcases hx with rfl | hx
    · exact ⟨hp e he hb, hlt⟩
    · have hD := hp e he hb
      have : e.on < ops.size := Nat.lt_trans hlt (Array.getElem?_eq_some_iff.1 ho).1
      have ho' : ops[e.on]? = some ops[e.on] := Array.getElem?_eq_getElem this
      obtain ⟨h1, h2⟩ := ih e.on hlt _ ho' (hcl e.on _ hD ho') i hx
      exact ⟨h1, by omega⟩

/-! ### The states that subsets of a region come to -/
section
variable (ops : Array Oper) (base : Nat) (s0 : S) (tr : Nat → OutM)

def dstAt (i : Nat) : Option Nat := (ops[i]?).bind (·.dst)

open Classical in
noncomputable def stD (D : Nat → Prop) : Nat → S
  | 0 => s0
  | i + 1 => if D i then applyOut (stD D i) (dstAt ops i) (base + 4 * i) (tr i) else stD D i

def Touch (i id : Nat) : Prop := (∃ x, (tr i).upd = some (id, x)) ∨ (base + 4 * i ≤ id ∧ id < base + 4 * i + (tr i).rows.length)

variable {ops base s0 tr}

theorem stD_pos {D : Nat → Prop} {i : Nat} (h : D i) : stD ops base s0 tr D (i + 1) = applyOut (stD ops base s0 tr D i) (dstAt ops i) (base + 4 * i) (tr i) := by
  rw [stD, if_pos h]
theorem stD_neg {D : Nat → Prop} {i : Nat} (h : ¬ D i) : stD ops base s0 tr D (i + 1) = stD ops base s0 tr D i := by
  rw [stD, if_neg h]

theorem appM_fz {M : Nat → Option Row} {i id : Nat} (h : ¬ Touch base tr i id) : appM M (base + 4 * i) (tr i) id = if id ∈ (tr i).fz then (M id).map Row.freeze else M id := by
  unfold Touch at h
  unfold appM
  rw [if_neg (fun x => h (.inr x))]
  cases hu : (tr i).upd with
  | none => rfl
  | some x =>
    obtain ⟨q, y⟩ := x
    have hq : id ≠ q := fun e => h (.inl ⟨y, by rw [hu, e]⟩)
    simp only [hq, if_false]

theorem appM_off {M : Nat → Option Row} {i id : Nat} (hf : id ∉ (tr i).fz) (h : ¬ Touch base tr i id) : appM M (base + 4 * i) (tr i) id = M id := by
  rw [appM_fz h, if_neg hf]

/-- Two rows, up to freezing. -/
def FzEq (x y : Option Row) : Prop := x.map Row.freeze = y.map Row.freeze

theorem FzEq.frz {x y : Option Row} (h : FzEq x y) : FzEq (x.map Row.freeze) (y.map Row.freeze) := by
  unfold FzEq at h ⊢; rw [h]
theorem frz_frz (x : Option Row) : (x.map Row.freeze).map Row.freeze = x.map Row.freeze := by cases x <;> simp [Row.freeze_freeze]
theorem FzEq.left {x y : Option Row} (h : FzEq x y) : FzEq (x.map Row.freeze) y := by unfold FzEq at h ⊢; rw [frz_frz, h]
theorem FzEq.right {x y : Option Row} (h : FzEq x y) : FzEq x (y.map Row.freeze) := by unfold FzEq at h ⊢; rw [frz_frz, h]

theorem appM_congr {M M' : Nat → Option Row} {new id : Nat} {o : OutM} (h : M id = M' id) : appM M new o id = appM M' new o id := by
  unfold appM
  simp only [h]

theorem fr_agree {D D' : Nat → Prop} {t : Nat} : ∀ k, (∀ i, i < k → dstAt ops i = some t → (D i ↔ D' i)) → getF (stD ops base s0 tr D k).fr t = getF (stD ops base s0 tr D' k).fr t
  | 0, _ => rfl
  | k + 1, h => by
    have ih := fr_agree (D := D) (D' := D') (t := t) k (fun i hi => h i (by omega))
    have off : ∀ (s : S), dstAt ops k ≠ some t → getF (applyOut s (dstAt ops k) (base + 4 * k) (tr k)).fr t = getF s.fr t := fun s hne => by
      simp only [applyOut, putF]
      cases hd : dstAt ops k with
      | none => rfl
      | some d =>
        simp only [getF]
        have : Nat.beq d t = false := by
          cases hb : Nat.beq d t with
          | false => rfl
          | true => exact absurd (by rw [hd, Nat.eq_of_beq_eq_true hb]) hne
        rw [this]; rfl
    simp only [stD]
    by_cases ht : dstAt ops k = some t
    · have hk := h k (by omega) ht
      by_cases hD : D k
      · rw [if_pos hD, if_pos (hk.1 hD)]
        simp only [applyOut, putF, ht, getF]
        simp
      · rw [if_neg hD, if_neg (fun x => hD (hk.2 x))]; exact ih
    · split <;> split
      · rw [off _ ht, off _ ht]; exact ih
      · rw [off _ ht]; exact ih
      · rw [off _ ht]; exact ih
      · exact ih

theorem mem_agree {D D' : Nat → Prop} {id : Nat} : ∀ k, (∀ i, i < k → Touch base tr i id ∨ id ∈ (tr i).fz → (D i ↔ D' i)) → getM (stD ops base s0 tr D k).mem id = getM (stD ops base s0 tr D' k).mem id
  | 0, _ => rfl
  | k + 1, h => by
    have ih := mem_agree (D := D) (D' := D') (id := id) k (fun i hi => h i (by omega))
    simp only [stD]
    by_cases ht : Touch base tr k id ∨ id ∈ (tr k).fz
    · have hk := h k (by omega) ht
      by_cases hD : D k
      · rw [if_pos hD, if_pos (hk.1 hD), getM_apply, getM_apply]; exact appM_congr ih
      · rw [if_neg hD, if_neg (fun x => hD (hk.2 x))]; exact ih
    · have h1 : ¬ Touch base tr k id := fun x => ht (.inl x)
      have h2 : id ∉ (tr k).fz := fun x => ht (.inr x)
      split <;> split
      · rw [getM_apply, getM_apply, appM_off h2 h1, appM_off h2 h1]; exact ih
      · rw [getM_apply, appM_off h2 h1]; exact ih
      · rw [getM_apply, appM_off h2 h1]; exact ih
      · exact ih

theorem appM_fzEq {M M' : Nat → Option Row} {new id : Nat} {o : OutM} (h : FzEq (M id) (M' id)) : FzEq (appM M new o id) (appM M' new o id) := by
  obtain ⟨v, rows, upd, fz⟩ := o
  unfold appM
  simp only
  split
  · rfl
  · cases upd with
    | none =>
      simp only
      split
      · exact h.frz
      · exact h
    | some x =>
      obtain ⟨q, y⟩ := x
      simp only
      by_cases e : id = q
      · simp only [e, if_true]; rfl
      · simp only [e, if_false]
        split
        · exact h.frz
        · exact h

theorem mem_agree_fz {D D' : Nat → Prop} {id : Nat} : ∀ k, (∀ i, i < k → Touch base tr i id → (D i ↔ D' i)) → FzEq (getM (stD ops base s0 tr D k).mem id) (getM (stD ops base s0 tr D' k).mem id)
  | 0, _ => rfl
  | k + 1, h => by
    have ih := mem_agree_fz (D := D) (D' := D') (id := id) k (fun i hi => h i (by omega))
    simp only [stD]
    by_cases ht : Touch base tr k id
    · have hk := h k (by omega) ht
      by_cases hD : D k
      · rw [if_pos hD, if_pos (hk.1 hD), getM_apply, getM_apply]; exact appM_fzEq ih
      · rw [if_neg hD, if_neg (fun x => hD (hk.2 x))]; exact ih
    · split <;> split
      · rw [getM_apply, getM_apply]; exact appM_fzEq ih
      · rw [getM_apply, appM_fz ht]; split
        · exact ih.left
        · exact ih
      · rw [getM_apply, appM_fz ht]; split
        · exact ih.right
        · exact ih
      · exact ih

theorem stD_congr {D D' : Nat → Prop} : ∀ k, (∀ i, i < k → (D i ↔ D' i)) → stD ops base s0 tr D k = stD ops base s0 tr D' k
  | 0, _ => rfl
  | k + 1, h => by
    have ih := stD_congr (D := D) (D' := D') k (fun i hi => h i (by omega))
    simp only [stD, ih]
    by_cases hD : D k
    · rw [if_pos hD, if_pos ((h k (by omega)).1 hD)]
    · rw [if_neg hD, if_neg (fun x => hD ((h k (by omega)).2 x))]

/-- The text's state at j is the state of those ahead of j. -/
theorem stD_lt (j : Nat) : ∀ k, stD ops base s0 tr (fun i => i < j) (j + k) = stD ops base s0 tr (fun _ => True) j
  | 0 => stD_congr j (fun i hi => ⟨fun _ => trivial, fun _ => hi⟩)
  | k + 1 => by
    rw [← stD_lt j k]
    exact stD_neg (D := fun i => i < j) (i := j + k) (by omega)

/-- One more: the rows. -/
theorem mem_more {D : Nat → Prop} {j : Nat} (hj : ¬ D j) {id : Nat} : ∀ k, (∀ i, j < i → i < j + 1 + k → D i → ¬ (Touch base tr i id ∧ Touch base tr j id) ∧ ¬ (Touch base tr i id ∧ id ∈ (tr j).fz) ∧ ¬ (id ∈ (tr i).fz ∧ Touch base tr j id)) →
    getM (stD ops base s0 tr (fun i => D i ∨ i = j) (j + 1 + k)).mem id = appM (getM (stD ops base s0 tr D (j + 1 + k)).mem) (base + 4 * j) (tr j) id
  | 0, _ => by
    simp only [Nat.add_zero, stD]
    rw [if_pos (.inr rfl), if_neg hj, getM_apply]
    refine appM_congr ?_
    rw [stD_congr (D' := D) j (fun i hi => ⟨fun h => h.resolve_right (by omega), .inl⟩)]
  | k + 1, h => by
    have ih := mem_more hj (id := id) k (fun i h1 h2 => h i h1 (by omega))
    rw [show j + 1 + (k + 1) = (j + 1 + k) + 1 by omega]
    by_cases hD : D (j + 1 + k)
    · rw [stD_pos (D := fun i => D i ∨ i = j) (i := j + 1 + k) (.inl hD), stD_pos hD]
      obtain ⟨n1, n2, n3⟩ := h (j + 1 + k) (by omega) (by omega) hD
      rw [getM_apply]
      by_cases h1 : Touch base tr (j + 1 + k) id
      · have h2 : ¬ Touch base tr j id := fun x => n1 ⟨h1, x⟩
        have h3 : id ∉ (tr j).fz := fun x => n2 ⟨h1, x⟩
        rw [appM_off h3 h2, getM_apply]
        refine appM_congr ?_
        rw [ih, appM_off h3 h2]
      · rw [appM_fz h1, ih]
        by_cases h4 : id ∈ (tr (j + 1 + k)).fz
        · have h2 : ¬ Touch base tr j id := fun x => n3 ⟨h4, x⟩
          rw [if_pos h4, appM_fz h2, appM_fz h2, getM_apply, appM_fz h1, if_pos h4]
          split <;> rfl
        · rw [if_neg h4]
          refine appM_congr ?_
          rw [getM_apply, appM_fz h1, if_neg h4]
    · rw [stD_neg (D := fun i => D i ∨ i = j) (i := j + 1 + k) (fun x => x.elim hD (fun e => by omega)), stD_neg hD]; exact ih

/-- One more: the frame. -/
theorem fr_more {D : Nat → Prop} {j : Nat} (hj : ¬ D j) {t : Nat} : ∀ k, (∀ i, j < i → i < j + 1 + k → D i → ∀ d, dstAt ops i = some d → dstAt ops j ≠ some d) →
    getF (stD ops base s0 tr (fun i => D i ∨ i = j) (j + 1 + k)).fr t = getF (putF (dstAt ops j) (tr j).v (stD ops base s0 tr D (j + 1 + k)).fr) t
  | 0, _ => by
    simp only [Nat.add_zero, stD]
    rw [if_pos (.inr rfl), if_neg hj, stD_congr (D' := D) j (fun i hi => ⟨fun h => h.resolve_right (by omega), .inl⟩)]
    rfl
  | k + 1, h => by
    have ih := fr_more hj (t := t) k (fun i h1 h2 => h i h1 (by omega))
    rw [show j + 1 + (k + 1) = (j + 1 + k) + 1 by omega]
    by_cases hD : D (j + 1 + k)
    · rw [stD_pos (D := fun i => D i ∨ i = j) (i := j + 1 + k) (.inl hD), stD_pos hD]
      have hne := h (j + 1 + k) (by omega) (by omega) hD
      simp only [applyOut]
      cases hd : dstAt ops (j + 1 + k) with
      | none => simp only [putF]; exact ih
      | some d =>
        have hne := hne d hd
        simp only [putF, getF]
        cases hdj : dstAt ops j with
        | none =>
          rw [hdj] at ih
          simp only [putF] at ih
          simp only [getF, ih]
        | some dj =>
          rw [hdj] at ih
          simp only [putF, getF] at ih
          simp only [getF]
          rw [ih]
          have hdd : dj ≠ d := fun e => hne (by rw [hdj, e])
          cases h1 : Nat.beq d t with
          | false => rfl
          | true =>
            have e1 := Nat.eq_of_beq_eq_true h1
            cases h2 : Nat.beq dj t with
            | false => rfl
            | true => exact absurd ((Nat.eq_of_beq_eq_true h2).trans e1.symm) hdd
    · rw [stD_neg (D := fun i => D i ∨ i = j) (i := j + 1 + k) (fun x => x.elim hD (fun e => by omega)), stD_neg hD]; exact ih
end

end Go.Proofs.YtokecnkjgoghhaaDoor.Ab
end
section
/- Statements of the machine whose order is drawn: whatever order comes up, the end is the text's. -/
set_option linter.unusedVariables false
set_option linter.unusedSimpArgs false
namespace Go.Proofs.YtokecnkjgoghhaaDoor.Ab
open Go Go.RowKit

def guardF (ops : Array Oper) (o : Oper) (fr : List (Nat × F)) : Option Bool :=
  match o.guard with
  | none => some true
  | some (j, want) => match dstAt ops j with
    | some d => match getF fr d with
      | .a (.c (.sc (.bool b))) => some (decide (b = want))
      | .tp [] => some false
      | _ => none
    | none => none

/-- One operation of the text's run. -/
structure TrOK (P : Program) (G : World → Prop) (nt base : Nat) (ops : Array Oper) (M : List Nat) (wl : List (Option Nat)) (s : S) (i : Nat) (o : Oper) (out : OutM) : Prop where
  dst : dstOk nt o.dst = true
  fz : ∀ id ∈ out.fz, (vwD0 base ops M i s.mem id).isSome = true
  row : out.rows.length ≤ 4
  e2 : isE2 o = false → out.upd = none
  up : ∀ id x, out.upd = some (id, x) → (vwD base ops M wl i s.mem id).isSome = true
  wh : ∀ id x, out.upd = some (id, x) → wHit wl i id = true
  how : (guardF ops o s.fr = some true ∧ OpOK P G (vwD base ops M wl i s.mem) (base + 4 * i) (evalF s.fr) o out) ∨ (guardF ops o s.fr = some false ∧ out = { v := F.un })

def stF' (ops : Array Oper) (base : Nat) (tr : Nat → OutM) : Nat → S → Nat → S
  | _, s, 0 => s
  | i, s, q + 1 => stF' ops base tr (i + 1) (applyOut s (dstAt ops i) (base + 4 * i) (tr i)) q

theorem stF'_last (ops : Array Oper) (base : Nat) (tr : Nat → OutM) : ∀ (q i : Nat) (s : S), stF' ops base tr i s (q + 1) = applyOut (stF' ops base tr i s q) (dstAt ops (i + q)) (base + 4 * (i + q)) (tr (i + q))
  | 0, i, s => rfl
  | q + 1, i, s => by
    rw [stF', stF'_last ops base tr q (i + 1), stF']
    rw [show i + 1 + q = i + (q + 1) by omega]

theorem stF'_stD (ops : Array Oper) (base : Nat) (tr : Nat → OutM) (s : S) : ∀ q, stF' ops base tr 0 s q = stD ops base s tr (fun _ => True) q
  | 0 => rfl
  | q + 1 => by rw [stF'_last, stF'_stD ops base tr s q, stD_pos trivial, Nat.zero_add]

theorem stF'_congr (ops : Array Oper) (base : Nat) {tr tr' : Nat → OutM} : ∀ (q i : Nat) (s : S), (∀ k, i ≤ k → tr k = tr' k) → stF' ops base tr i s q = stF' ops base tr' i s q
  | 0, _, _, _ => rfl
  | q + 1, i, s, h => by rw [stF', stF', h i (Nat.le_refl _), stF'_congr ops base q (i + 1) _ (fun k hk => h k (by omega))]

section
variable {R : Type} {r : R} {E : Env} {G : World → Prop} {w0 : World} {St0 Q : Stb} {nt : Nat}

/-- The text's run, taken apart. -/
theorem trace (hti : ∀ t i, E.ti t = some i → TIok E.P t i) (hcall : ∀ f args rvs, E.call f args = some rvs → CallOK E.P G f args rvs) (hent : ∀ f args rvs, E.call f args = some rvs → Enterable E.P f)
    {base : Nat} {ops : Array Oper} {M : List Nat} {wl : List (Option Nat)} {K : S → Option R} : ∀ (n i : Nat) (s : S), opsK E (ckD base ops M wl) nt base ops (vwD base ops M wl) (rangeL i n) s K = some r →
    ∃ tr : Nat → OutM, (∀ q, q < n → ∃ o, ops[i + q]? = some o ∧ TrOK E.P G nt base ops M wl (stF' ops base tr i s q) (i + q) o (tr (i + q))) ∧ K (stF' ops base tr i s n) = some r
  | 0, i, s, h => ⟨fun _ => { v := F.jk }, fun q hq => by omega, h⟩
  | n + 1, i, s, h => by
    simp only [rangeL, opsK, ifs] at h
    split at h
    · cases h
    · rename_i o ho
      cases hd : dstOk nt o.dst with
      | false => rw [hd] at h; cases h
      | true =>
        rw [hd] at h
        simp only [cond_true] at h
        have hda : dstAt ops i = o.dst := by simp [dstAt, ho]
        have fin : ∀ (out : OutM), TrOK E.P G nt base ops M wl s i o out → opsK E (ckD base ops M wl) nt base ops (vwD base ops M wl) (rangeL (i + 1) n) (applyOut s o.dst (base + 4 * i) out) K = some r →
            ∃ tr : Nat → OutM, (∀ q, q < n + 1 → ∃ o, ops[i + q]? = some o ∧ TrOK E.P G nt base ops M wl (stF' ops base tr i s q) (i + q) o (tr (i + q))) ∧ K (stF' ops base tr i s (n + 1)) = some r := by
          intro out hok hrest
          obtain ⟨tr, h1, h2⟩ := trace hti hcall hent n (i + 1) _ hrest
          have hag : ∀ k, i + 1 ≤ k → tr k = (fun q => if q = i then out else tr q) k := fun k hk => by simp only; rw [if_neg (by omega)]
          refine ⟨fun q => if q = i then out else tr q, fun q hq => ?_, ?_⟩
          · cases q with
            | zero => exact ⟨o, ho, by simpa [stF'] using hok⟩
            | succ q =>
              obtain ⟨o', ho', hok'⟩ := h1 q (by omega)
              refine ⟨o', by rw [show i + (q + 1) = i + 1 + q by omega]; exact ho', ?_⟩
              rw [show i + (q + 1) = i + 1 + q by omega, stF']
              simp only [if_true, if_neg (show ¬ i + 1 + q = i by omega)]
              rw [hda, ← stF'_congr ops base q (i + 1) _ hag]
              exact hok'
          · rw [stF']
            simp only [if_true]
            rw [hda, ← stF'_congr ops base n (i + 1) _ hag]
            exact h2
        have go : ∀ (hg : guardF ops o s.fr = some true) (hgo : aopK E (vwD base ops M wl i s.mem) (base + 4 * i) (evalF s.fr) o.op (fun out => bif ckD base ops M wl i s.mem out then none else opsK E (ckD base ops M wl) nt base ops (vwD base ops M wl) (rangeL (i + 1) n) (applyOut s o.dst (base + 4 * i) out) K) = some r),
            ∃ tr : Nat → OutM, (∀ q, q < n + 1 → ∃ o, ops[i + q]? = some o ∧ TrOK E.P G nt base ops M wl (stF' ops base tr i s q) (i + q) o (tr (i + q))) ∧ K (stF' ops base tr i s (n + 1)) = some r := by
          intro hg hgo
          obtain ⟨out, hK, hrow, he2, hup, hok⟩ := aop_sound (o := o) hti hcall hent hgo
          replace hK : (bif ckD base ops M wl i s.mem out then none else opsK E (ckD base ops M wl) nt base ops (vwD base ops M wl) (rangeL (i + 1) n) (applyOut s o.dst (base + 4 * i) out) K) = some r := hK
          cases hz : ckD base ops M wl i s.mem out with
          | true => rw [hz] at hK; cases hK
          | false =>
            rw [hz] at hK
            simp only [ckD, Bool.or_eq_false_iff] at hz
            exact fin out ⟨hd, by simpa using hz.1, hrow, he2, hup, fun id x hu => by
              have := hz.2; rw [hu] at this; simpa using this, .inl ⟨hg, hok⟩⟩ hK
        split at h
        · rename_i hgd
          exact go (by simp [guardF, hgd]) h
        · rename_i j want hgd
          split at h
          · rename_i oj hoj
            split at h
            · rename_i d hdj
              split at h
              · rename_i b hb
                have hgf : guardF ops o s.fr = some (decide (b = want)) := by simp [guardF, hgd, dstAt, hoj, hdj, hb]
                split at h
                · rename_i hbw
                  exact go (by rw [hgf]; simp [hbw]) h
                · rename_i hbw
                  exact fin _ ⟨hd, fun _ h => (by cases h), by simp, fun _ => rfl, (fun _ _ h => by cases h), (fun _ _ h => by cases h), .inr ⟨by rw [hgf]; simp [hbw], rfl⟩⟩ h
              · rename_i hb
                have hgf : guardF ops o s.fr = some false := by simp [guardF, hgd, dstAt, hoj, hdj, hb]
                exact fin _ ⟨hd, fun _ h => (by cases h), by simp, fun _ => rfl, (fun _ _ h => by cases h), (fun _ _ h => by cases h), .inr ⟨hgf, rfl⟩⟩ h
              · cases h
            · cases h
          · cases h

theorem SRel.congr {w : World} {St : Stb} {β : Bet} {a : Act} {s s' : S} (h : SRel w0 St0 Q nt w St β a s) (hm : ∀ id, getM s'.mem id = getM s.mem id) (hf : ∀ t, getF s'.fr t = getF s.fr t) : SRel w0 St0 Q nt w St β a s' := by
  refine ⟨h.below, h.keep, h.stn, h.st, ?_, fun t => by rw [hf]; exact h.fr t, h.sz, h.df⟩
  rw [show getM s'.mem = getM s.mem from funext hm]; exact h.mem

theorem guard_want {w : World} {St : Stb} {β : Bet} {ops : Array Oper} {a : Act} {fr : List (Nat × F)} {o : Oper} {b : Bool} (hf : ∀ t, RelF w St Q β (a.tmps.getD t undef) (getF fr t)) (h : guardF ops o fr = some b) :
    Region.wanted o (yielded ops a.tmps) = b := by
  unfold guardF at h
  split at h
  · rename_i hg; cases h; simp [Region.wanted, hg]
  · rename_i j want hg
    split at h
    · rename_i d hd
      split at h
      · rename_i b' hb'
        cases h
        unfold dstAt at hd
        cases ho : ops[j]? with
        | none => rw [ho] at hd; cases hd
        | some oj =>
          rw [ho] at hd
          exact wanted_of hg ho hd (hf d) hb'
      · rename_i hb'
        cases h
        unfold dstAt at hd
        cases ho : ops[j]? with
        | none => rw [ho] at hd; cases hd
        | some oj =>
          rw [ho] at hd
          exact unwanted_of hg ho hd (hf d) hb'
      · cases h
    · cases h

theorem countP_lt {p p' : Nat → Bool} (h : ∀ x, p' x = true → p x = true) : ∀ (l : List Nat), l.countP p' ≤ l.countP p ∧ (∀ a ∈ l, p a = true → p' a = false → l.countP p' < l.countP p)
  | [] => ⟨Nat.le_refl _, fun a ha => by cases ha⟩
  | x :: l => by
    obtain ⟨h1, h2⟩ := countP_lt h l
    simp only [List.countP_cons]
    constructor
    · cases hx : p' x with
      | true => rw [h x hx]; omega
      | false => cases p x <;> simp <;> omega
    · intro a ha hp hp'
      rcases List.mem_cons.1 ha with rfl | ha
      · rw [hp, hp']; simp; omega
      · have := h2 a ha hp hp'
        cases hx : p' x with
        | true => rw [h x hx]; omega
        | false => cases p x <;> simp <;> omega

/-- What an operation sees, nobody touches that stands in no order with it. -/
theorem visNo {P : Program} {base : Nat} {ops : Array Oper} {M : List Nat} {wl : List (Option Nat)} {s' : S} {tr : Nat → OutM} {i j id : Nat} {oi : Oper} {mem : List (Option Row)} (hvis : (vwD0 base ops M j mem id).isSome = true) (hoi : ops[i]? = some oi)
    (hTi : TrOK P G nt base ops M wl s' i oi (tr i)) (ht : Touch base tr i id) (hne : i ≠ j) (hbit : (M.getD j 0).testBit i = false) (hno : ordered M j i = false) : False := by
  have hr4 := hTi.row
  unfold vwD0 at hvis
  cases hbs : beside M j 0 ops.toList with
  | true => rw [hbs] at hvis; cases hvis
  | false =>
    rcases ht with ⟨x, hu⟩ | ⟨g1, g2⟩
    · have he : isE2 oi = true := by
        cases he : isE2 oi with
        | true => rfl
        | false => rw [hTi.e2 he] at hu; cases hu
      have := beside_get ops.toList 0 i oi hbs (by simpa using hoi) he
      simp only [Nat.zero_add] at this
      rcases this with h | h
      · exact hne h.symm
      · rw [hno] at h; cases h
    · rw [hbs] at hvis
      simp only [cond_false] at hvis
      cases hbl : Nat.blt id base with
      | true => have := Nat.le_of_ble_eq_true hbl; omega
      | false =>
        rw [hbl] at hvis
        have : (id - base) / 4 = i := by omega
        simp only [cond_false, this, hbit] at hvis
        cases hvis

theorem draw_any (hG : ∀ w, Below w0.heap.size w0 w → G w) (hqb : ∀ b o, Q b o → b < w0.heap.size) {base : Nat} {ops : Array Oper} (hok : drawOk ops (masks ops.toList []) = true) {s0 : S} {wl : List (Option Nat)} {tr : Nat → OutM} {K : S → Option R}
    (htr : ∀ i, i < ops.size → ∃ o, ops[i]? = some o ∧ TrOK E.P G nt base ops (masks ops.toList []) wl (stD ops base s0 tr (fun _ => True) i) i o (tr i)) (hK : K (stD ops base s0 tr (fun _ => True) ops.size) = some r) :
    ∀ (fuel : Nat) (listed : Array Bool) (a : Act) (w : World) (St : Stb) (β : Bet), listed.size = ops.size →
      (∀ (i : Nat) (o : Oper), listed.getD i true = true → ops[i]? = some o → ∀ e ∈ o.after.toList, Region.binds .any e = true → listed.getD e.on true = true) →
      SRel w0 St0 Q nt w St β a (stD ops base s0 tr (fun i => listed.getD i true = true) ops.size) →
      (∀ id, base ≤ id → β id ≠ none → ∃ i, i < ops.size ∧ listed.getD i true = true ∧ base + 4 * i ≤ id ∧ id < base + 4 * i + 4) →
      (List.range ops.size).countP (fun i => !listed.getD i true) ≤ fuel →
      wpAny E.P .any ops (fun e a' w' => e = .normal ∧ ∃ s' St' β', SRel w0 St0 Q nt w' St' β' a' s' ∧ K s' = some r ∧ ∀ id, base + 4 * ops.size ≤ id → β' id = none) fuel listed a w := by
  intro fuel
  have hlt : ∀ {i e : Nat} {o : Oper}, ops[i]? = some o → ∀ ed ∈ o.after.toList, Region.binds .any ed = true → ed.on < i := fun {i e o} ho ed he hb => by
    have := (allOk_get ops.toList 0 i o hok (by simpa using ho)).1
    simp only [opOk, Nat.zero_add, Bool.and_eq_true, List.all_eq_true] at this
    have := this.2 ed he
    rw [hb] at this
    simp only [Bool.not_true, Bool.false_or] at this
    exact Nat.le_of_ble_eq_true this
  -- nobody may come up: all have
  have done : ∀ (listed : Array Bool) (a : Act) (w : World) (St : Stb) (β : Bet), listed.size = ops.size → SRel w0 St0 Q nt w St β a (stD ops base s0 tr (fun i => listed.getD i true = true) ops.size) →
      (∀ id, base ≤ id → β id ≠ none → ∃ i, i < ops.size ∧ listed.getD i true = true ∧ base + 4 * i ≤ id ∧ id < base + 4 * i + 4) → Region.ready .any ops listed = [] →
      (∃ s' St' β', SRel w0 St0 Q nt w St' β' a s' ∧ K s' = some r ∧ ∀ id, base + 4 * ops.size ≤ id → β' id = none) := by
    intro listed a w St β hls hs hfr hr
    have all : ∀ i, i < ops.size → listed.getD i true = true := by
      intro i
      induction i using Nat.strongRecOn with
      | _ i ih =>
        intro hi
        have ho : ops[i]? = some ops[i] := Array.getElem?_eq_getElem hi
        cases hx : listed.getD i true with
        | true => rfl
        | false =>
          exfalso
          have : i ∈ Region.ready .any ops listed := mem_ready.2 ⟨hx, _, ho, fun e he hb => by
            have h1 := hlt (e := 0) ho e (by simpa using he) hb
            have h2 := ih e.on h1 (by omega)
            rw [Array.getD_eq_getD_getElem?] at h2 ⊢
            have h3 : e.on < listed.size := by omega
            rw [Array.getElem?_eq_getElem h3] at h2 ⊢
            exact h2⟩
          rw [hr] at this; cases this
    have e : stD ops base s0 tr (fun i => listed.getD i true = true) ops.size = stD ops base s0 tr (fun _ => True) ops.size := stD_congr _ (fun i hi => ⟨fun _ => trivial, fun _ => all i hi⟩)
    refine ⟨_, St, β, hs, by rw [e]; exact hK, fun id hid => ?_⟩
    cases hb : β id with
    | none => rfl
    | some l =>
      obtain ⟨i, h1, _, h2, h3⟩ := hfr id (by omega) (by rw [hb]; simp)
      omega
  induction fuel with
  | zero =>
    intro listed a w St β hls hcl hs hfr hcnt
    have hr : Region.ready .any ops listed = [] := by
      cases hq : Region.ready .any ops listed with
      | nil => rfl
      | cons j js =>
        have hj : j ∈ Region.ready .any ops listed := by rw [hq]; exact List.mem_cons_self ..
        obtain ⟨hx, o, ho, _⟩ := mem_ready.1 hj
        have hlt' := (Array.getElem?_eq_some_iff.1 ho).1
        have : 0 < (List.range ops.size).countP (fun i => !listed.getD i true) := List.countP_pos_iff.2 ⟨j, List.mem_range.2 hlt', by rw [hx]; rfl⟩
        omega
    exact ⟨hr, rfl, done listed a w St β hls hs hfr hr⟩
  | succ fuel ih =>
    intro listed a w St β hls hcl hs hfr hcnt
    refine ⟨fun hr => ⟨rfl, done listed a w St β hls hs hfr hr⟩, fun j hj => ?_⟩
    obtain ⟨hx, o, ho, hall⟩ := mem_ready.1 hj
    have hjn := (Array.getElem?_eq_some_iff.1 ho).1
    have hjD : ¬ (listed.getD j true = true) := by rw [hx]; simp
    obtain ⟨o', ho', hT⟩ := htr j hjn
    rw [ho] at ho'; cases ho'
    have hpre : ∀ e ∈ o.after.toList, Region.binds .any e = true → listed.getD e.on true = true := fun e he hb => by
      have h1 := hall e (by simpa using he) hb
      have h2 := hlt (e := 0) ho e he hb
      have h3 : e.on < listed.size := by omega
      rw [Array.getD_eq_getD_getElem?] at h1 ⊢
      rw [Array.getElem?_eq_getElem h3] at h1 ⊢
      exact h1
    have hA : ∀ i, ((masks ops.toList []).getD j 0).testBit i = true → listed.getD i true = true ∧ i < j := anc_in hok (D := fun i => listed.getD i true = true) (fun i o h1 h2 => hcl i o h1 h2) j o ho hpre
    have hB : ∀ i, i < ops.size → listed.getD i true = true → ((masks ops.toList []).getD i 0).testBit j = true → False := fun i hi hD ht =>
      hjD (anc_in hok (D := fun i => listed.getD i true = true) (fun i o h1 h2 => hcl i o h1 h2) i _ (Array.getElem?_eq_getElem hi) (hcl i _ hD (Array.getElem?_eq_getElem hi)) j ht).1
    have hLt : ∀ i k, k < ops.size → ((masks ops.toList []).getD k 0).testBit i = true → i < k := fun i k hk ht =>
      (anc_in hok (D := fun _ => True) (fun _ _ _ _ _ _ _ => trivial) k _ (Array.getElem?_eq_getElem hk) (fun _ _ _ => trivial) i ht).2
    -- ordered: both agree on who is ahead
    have hOrd : ∀ i, i < ops.size → ordered (masks ops.toList []) j i = true → (listed.getD i true = true ↔ i < j) := fun i hi h => by
      simp only [ordered, Bool.or_eq_true] at h
      rcases h with h | h
      · have := hLt j i hi h
        exact ⟨fun hD => (hB i hi hD h).elim, fun hlt => by omega⟩
      · have := hA i h
        exact ⟨fun _ => this.2, fun _ => this.1⟩
    have hApart : ∀ i oi, ops[i]? = some oi → i ≠ j → ordered (masks ops.toList []) j i = false → o.apart ops oi = true := fun i oi hoi hne hno => by
      have := pairOk_get ops.toList 0 i oi (allOk_get ops.toList 0 j o hok (by simpa using ho)).2 (by simpa using hoi)
      simp only [Nat.zero_add] at this
      rcases this with h | h | h
      · exact absurd h.symm hne
      · rw [hno] at h; cases h
      · exact h
    -- the text's state ahead of j, as a subset's state
    have hTj : stD ops base s0 tr (fun _ => True) j = stD ops base s0 tr (fun i => i < j) ops.size := by
      rw [show ops.size = j + (ops.size - j) by omega, stD_lt]
    have hlook : ∀ t, t ∈ o.looksAt ops → getF (stD ops base s0 tr (fun i => listed.getD i true = true) ops.size).fr t = getF (stD ops base s0 tr (fun _ => True) j).fr t := fun t ht => by
      rw [hTj]
      refine fr_agree _ fun i hi hd => ?_
      by_cases hij : i = j
      · subst hij; exact ⟨fun h => (hjD h).elim, fun h => by omega⟩
      · cases hno : ordered (masks ops.toList []) j i with
        | true => exact hOrd i hi hno
        | false =>
          exfalso
          have hoi : ops[i]? = some ops[i] := Array.getElem?_eq_getElem hi
          have hd' : ops[i].dst = some t := by simpa [dstAt, hoi] using hd
          exact (Oper.apart_spec (hApart i _ hoi hij hno)).2.2 t hd' ht
    have hguard : guardF ops o (stD ops base s0 tr (fun i => listed.getD i true = true) ops.size).fr = guardF ops o (stD ops base s0 tr (fun _ => True) j).fr := by
      unfold guardF
      cases hg : o.guard with
      | none => rfl
      | some x =>
        obtain ⟨q, want⟩ := x
        simp only
        cases hd : dstAt ops q with
        | none => rfl
        | some d =>
          simp only
          rw [hlook d (by unfold Oper.looksAt; rw [hg]; refine List.mem_append_right _ ?_; unfold dstAt at hd; simp [hd])]
    have hsees : SeesX (isE2 o) (vwD base ops (masks ops.toList []) wl j (stD ops base s0 tr (fun _ => True) j).mem) (getM (stD ops base s0 tr (fun i => listed.getD i true = true) ops.size).mem) := fun id rw_ h => by
      unfold vwD at h
      cases hbs : besideW (masks ops.toList []) wl j id 0 ops.toList with
      | true => rw [hbs] at h; cases h
      | false =>
        rw [hbs] at h
        simp only [cond_false] at h
        have hto : ∀ i, i < ops.size → Touch base tr i id → (listed.getD i true = true ↔ i < j) := fun i hi ht => by
          obtain ⟨oi, hoi, hTi⟩ := htr i hi
          rcases ht with ⟨x, hu⟩ | ⟨h1, h2⟩
          · have he : isE2 oi = true := by
              cases he : isE2 oi with
              | true => rfl
              | false => rw [hTi.e2 he] at hu; cases hu
            have := besideW_get ops.toList 0 i oi hbs (by simpa using hoi) he
            simp only [Nat.zero_add] at this
            rcases this with rfl | h3 | h3
            · exact ⟨fun h => (hjD h).elim, fun h => by omega⟩
            · exact hOrd i hi h3
            · rw [hTi.wh _ _ hu] at h3; cases h3
          · have hr4 := hTi.row
            cases hbl : Nat.blt id base with
            | true => have := Nat.le_of_ble_eq_true hbl; omega
            | false =>
              rw [hbl] at h
              simp only [cond_false] at h
              have : (id - base) / 4 = i := by omega
              rw [this] at h
              cases htb : ((masks ops.toList []).getD j 0).testBit i with
              | false => rw [htb] at h; cases h
              | true => have := hA i htb; exact ⟨fun _ => this.2, fun _ => this.1⟩
        have hview : getM (stD ops base s0 tr (fun _ => True) j).mem id = some rw_ := by
          cases hbl : Nat.blt id base with
          | true => rw [hbl] at h; exact h
          | false =>
            rw [hbl] at h
            simp only [cond_false] at h
            cases htb : ((masks ops.toList []).getD j 0).testBit ((id - base) / 4) with
            | false => rw [htb] at h; cases h
            | true => rw [htb] at h; exact h
        rw [hTj] at hview
        cases he2 : isE2 o with
        | false =>
          have hag := mem_agree_fz (ops := ops) (base := base) (s0 := s0) (tr := tr) (D := fun i => listed.getD i true = true) (D' := fun i => i < j) (id := id) ops.size hto
          unfold FzEq at hag
          rw [hview] at hag
          cases hact : getM (stD ops base s0 tr (fun i => listed.getD i true = true) ops.size).mem id with
          | none => rw [hact] at hag; cases hag
          | some r' => rw [hact] at hag; exact .inr ⟨rfl, r', rfl, by simpa using hag⟩
        | true =>
          have hag := mem_agree (ops := ops) (base := base) (s0 := s0) (tr := tr) (D := fun i => listed.getD i true = true) (D' := fun i => i < j) (id := id) ops.size (fun i hi ht => by
            rcases ht with ht | hz
            · exact hto i hi ht
            · by_cases hij : i = j
              · subst hij; exact ⟨fun h => (hjD h).elim, fun h => by omega⟩
              · obtain ⟨oi, hoi, hTi⟩ := htr i hi
                have hvis := hTi.fz _ hz
                unfold vwD0 at hvis
                cases hbi : beside (masks ops.toList []) i 0 ops.toList with
                | true => rw [hbi] at hvis; cases hvis
                | false =>
                  have := beside_get ops.toList 0 j o hbi (by simpa using ho) he2
                  simp only [Nat.zero_add] at this
                  rcases this with h3 | h3
                  · exact absurd h3 hij
                  · exact hOrd i hi (by simp only [ordered, Bool.or_eq_true] at h3 ⊢; exact h3.symm))
          exact .inl (hag.trans hview)
    -- behind it
    have hda : dstAt ops j = o.dst := by simp [dstAt, ho]
    have hsz : ops.size = j + 1 + (ops.size - (j + 1)) := by omega
    have hset : ∀ i, ((listed.setIfInBounds j true).getD i true = true) ↔ (listed.getD i true = true ∨ i = j) := fun i => by
      by_cases hij : j = i
      · subst hij
        have : j < listed.size := by omega
        simp [Array.getElem?_setIfInBounds, this]
      · rw [getD_set_ne true hij]
        exact ⟨.inl, fun h => h.resolve_right (fun e => hij e.symm)⟩
    have hst' : stD ops base s0 tr (fun i => (listed.setIfInBounds j true).getD i true = true) ops.size = stD ops base s0 tr (fun i => listed.getD i true = true ∨ i = j) ops.size := stD_congr _ (fun i _ => hset i)
    have hun : ∀ i, j < i → i < ops.size → listed.getD i true = true → ordered (masks ops.toList []) j i = false := fun i h1 h2 hD => by
      cases hno : ordered (masks ops.toList []) j i with
      | false => rfl
      | true => have := (hOrd i h2 hno).1 hD; omega
    have hmm : ∀ id, getM (stD ops base s0 tr (fun i => (listed.setIfInBounds j true).getD i true = true) ops.size).mem id = getM (applyOut (stD ops base s0 tr (fun i => listed.getD i true = true) ops.size) o.dst (base + 4 * j) (tr j)).mem id := fun id => by
      rw [hst', getM_apply, hsz]
      refine mem_more (D := fun i => listed.getD i true = true) hjD _ fun i h1 h2 hD => ?_
      have hi : i < ops.size := by omega
      obtain ⟨oi, hoi, hTi⟩ := htr i hi
      have hno := hun i h1 hi hD
      have hno2 : ordered (masks ops.toList []) i j = false := by simp only [ordered, Bool.or_eq_false_iff] at hno ⊢; exact ⟨hno.2, hno.1⟩
      simp only [ordered, Bool.or_eq_false_iff] at hno
      refine ⟨?_, ?_, ?_⟩
      rotate_left
      · rintro ⟨ht, hz⟩
        have hvis := hT.fz _ hz
        exact visNo hvis hoi hTi ht (by omega) hno.2 (by simpa [ordered, Bool.or_eq_false_iff] using hno)
      · rintro ⟨hz, ht⟩
        have hvis := hTi.fz _ hz
        exact visNo hvis ho hT ht (by omega) hno.1 (by simpa [ordered, Bool.or_eq_false_iff] using ⟨hno.2, hno.1⟩)
      rintro ⟨⟨x, hu⟩ | ⟨g1, g2⟩, ⟨y, hv⟩ | ⟨g3, g4⟩⟩
      · have hvis := hTi.up _ _ hu
        have he : isE2 o = true := by
          cases he : isE2 o with
          | true => rfl
          | false => rw [hT.e2 he] at hv; cases hv
        unfold vwD at hvis
        cases hbs : besideW (masks ops.toList []) wl i id 0 ops.toList with
        | true => rw [hbs] at hvis; cases hvis
        | false =>
          have := besideW_get ops.toList 0 j o hbs (by simpa using ho) he
          simp only [Nat.zero_add] at this
          rcases this with h | h | h
          · omega
          · rw [hno2] at h; cases h
          · rw [hT.wh _ _ hv] at h; cases h
      · have hvis := hTi.up _ _ hu
        have hr4 := hT.row
        unfold vwD at hvis
        cases hbs : besideW (masks ops.toList []) wl i id 0 ops.toList with
        | true => rw [hbs] at hvis; cases hvis
        | false =>
          rw [hbs] at hvis
          simp only [cond_false] at hvis
          cases hbl : Nat.blt id base with
          | true => have := Nat.le_of_ble_eq_true hbl; omega
          | false =>
            rw [hbl] at hvis
            have : (id - base) / 4 = j := by omega
            simp only [cond_false, this, hno.1] at hvis
            cases hvis
      · have hvis := hT.up _ _ hv
        have hr4 := hTi.row
        unfold vwD at hvis
        cases hbs : besideW (masks ops.toList []) wl j id 0 ops.toList with
        | true => rw [hbs] at hvis; cases hvis
        | false =>
          rw [hbs] at hvis
          simp only [cond_false] at hvis
          cases hbl : Nat.blt id base with
          | true => have := Nat.le_of_ble_eq_true hbl; omega
          | false =>
            rw [hbl] at hvis
            have : (id - base) / 4 = i := by omega
            simp only [cond_false, this, hno.2] at hvis
            cases hvis
      · have := hT.row; have := hTi.row; omega
    have hff : ∀ t, getF (stD ops base s0 tr (fun i => (listed.setIfInBounds j true).getD i true = true) ops.size).fr t = getF (applyOut (stD ops base s0 tr (fun i => listed.getD i true = true) ops.size) o.dst (base + 4 * j) (tr j)).fr t := fun t => by
      rw [hst']
      show _ = getF (putF o.dst (tr j).v _) t
      rw [hsz, ← hda]
      refine fr_more (D := fun i => listed.getD i true = true) hjD _ fun i h1 h2 hD d hd hjd => ?_
      have hi : i < ops.size := by omega
      have hoi : ops[i]? = some ops[i] := Array.getElem?_eq_getElem hi
      have hno := hun i h1 hi hD
      have hap := hApart i _ hoi (by omega) hno
      rw [hda] at hjd
      have hd' : ops[i].dst = some d := by simpa [dstAt, hoi] using hd
      exact (Oper.apart_spec hap).2.1 d hjd hd'
    have hcl' : ∀ (i : Nat) (o : Oper), (listed.setIfInBounds j true).getD i true = true → ops[i]? = some o → ∀ e ∈ o.after.toList, Region.binds .any e = true → (listed.setIfInBounds j true).getD e.on true = true := fun i oi hi hoi e he hb => by
      rw [hset] at hi ⊢
      rcases hi with hi | rfl
      · exact .inl (hcl i oi hi hoi e he hb)
      · rw [ho] at hoi; cases hoi
        exact .inl (hpre e he hb)
    have hcnt' : (List.range ops.size).countP (fun i => !(listed.setIfInBounds j true).getD i true) ≤ fuel := by
      have := (countP_lt (p := fun i => !listed.getD i true) (p' := fun i => !(listed.setIfInBounds j true).getD i true) (fun i hi => by
        cases hq : listed.getD i true with
        | false => rfl
        | true =>
          have := (hset i).2 (.inl hq)
          simp only [this, Bool.not_true] at hi
          cases hi) (List.range ops.size)).2 j (List.mem_range.2 hjn) (by simp only [hx]; rfl) (by have := (hset j).2 (.inr rfl); simp only [this]; rfl)
      omega
    have hsz' : (listed.setIfInBounds j true).size = ops.size := by simpa using hls
    unfold wpOp
    simp only [ho]
    rcases hT.how with ⟨hg, hok'⟩ | ⟨hg, hout⟩
    · rw [guard_want hs.fr (hguard.trans hg), if_pos rfl]
      refine .inl ?_
      refine hok' w St Q β w0.heap.size (getM (stD ops base s0 tr (fun i => listed.getD i true = true) ops.size).mem) a (hG w hs.below) (hs.pre hqb fun q hq => ?_) (fun x hxo => ?_) hsees _ _ fun v w' St' β' hgood => ?_
      · cases hb : β (base + 4 * j + q) with
        | none => rfl
        | some l =>
          obtain ⟨i, h1, h2, h3, h4⟩ := hfr (base + 4 * j + q) (by omega) (by rw [hb]; simp)
          have : i = j := by omega
          subst this
          exact (hjD h2).elim
      · have := hs.eval x
        cases x with
        | tmp t =>
          have hl := hlook t (by unfold Oper.looksAt; refine List.mem_append_left _ ?_; exact List.mem_filterMap.2 ⟨.tmp t, by simpa using hxo, rfl⟩)
          simp only [evalF] at this ⊢
          rw [← hl]; exact this
        | _ => exact this
      · refine ih _ _ w' St' β' hsz' hcl' ((hs.good hT.dst hgood).congr hmm hff) (fun id hid hne => ?_) hcnt'
        by_cases he : β' id = β id
        · rw [he] at hne
          obtain ⟨i, h1, h2, h3⟩ := hfr id hid hne
          exact ⟨i, h1, (hset i).2 (.inl h2), h3⟩
        · have := hgood.bnew id he
          exact ⟨j, hjn, (hset j).2 (.inr rfl), this⟩
    · rw [guard_want hs.fr (hguard.trans hg), if_neg (by simp)]
      have hsk := hs.skip (dst := o.dst) hT.dst (base + 4 * j)
      rw [← hout] at hsk
      refine ih _ _ w St β hsz' hcl' (hsk.congr hmm hff) (fun id hid hne => ?_) hcnt'
      obtain ⟨i, h1, h2, h3⟩ := hfr id hid hne
      exact ⟨i, h1, (hset i).2 (.inl h2), h3⟩

end
end Go.Proofs.YtokecnkjgoghhaaDoor.Ab
end
section
/- The end of a function: what it hands back, in Go's memory. -/
set_option linter.unusedVariables false
set_option linter.unusedSimpArgs false
namespace Go.Proofs.YtokecnkjgoghhaaDoor.Ab
open Go Go.RowKit

section
variable {R : Type} {r : R} {E : Env} {G : World → Prop} {w0 : World} {St0 Q : Stb} {nt : Nat}

def resIds (E : Env) (s : S) (v : ResultVar) : List Nat := match resA E s v with | some x => owCs x | none => []

def dIds (E : Env) (s : S) : List ResultVar → List RT → List Nat
  | v :: vs, .d _ :: rs => resIds E s v ++ dIds E s vs rs
  | _ :: vs, .own .. :: rs => dIds E s vs rs
  | _, _ => []

def oIds (E : Env) (s : S) : List ResultVar → List RT → List Nat
  | v :: vs, .own .. :: rs => resIds E s v ++ oIds E s vs rs
  | _ :: vs, .d _ :: rs => oIds E s vs rs
  | _, _ => []

theorem any_false {l m : List Nat} (h : (l.any fun i => m.any (Nat.beq i)) = false) : ∀ i ∈ l, i ∉ m := fun i hi hm => by
  rw [List.any_eq_false] at h
  have := h i hi
  simp only [List.any_eq_true, not_exists, not_and] at this
  exact this i hm (by simp)

theorem finOne_nodup {m : Nat → Option Row} {e : TypeId} {T : Ty} {x : A} {y : RV} (h : finOne m (.own e T) x = some y) : (owCs x).Nodup := by
  cases x with
  | ag cs => simp [finOne] at h
  | c x => cases x <;> simp [owCs, owIds, A.cells]

theorem finR_step {E : Env} {s : S} {v : ResultVar} {vs : List ResultVar} {rt : RT} {rs : List RT} {out seen : List Nat} {ys : List RV} (h : finR E s (v :: vs) (rt :: rs) out seen = some ys) :
    ∃ x y ys' out' seen', resA E s v = some x ∧ finOne (getM s.mem) rt x = some y ∧ finR E s vs rs out' seen' = some ys' ∧ ys = y :: ys' := by
  simp only [finR] at h
  cases hx : resA E s v with
  | none => rw [hx] at h; cases h
  | some x =>
    rw [hx] at h
    simp only at h
    cases rt with
    | d T =>
      simp only [Bool.or_false] at h
      cases ha : ((owCs x).any fun i => out.any (Nat.beq i)) with
      | true => rw [ha] at h; cases h
      | false =>
        rw [ha] at h
        simp only [cond_false] at h
        cases hy : finOne (getM s.mem) (.d T) x with
        | none => rw [hy] at h; cases h
        | some y =>
          rw [hy] at h
          simp only at h
          split at h
          · rename_i ys' hys
            cases h
            exact ⟨x, y, ys', _, _, rfl, hy, hys, rfl⟩
          · cases h
    | own e T =>
      simp only at h
      cases ha : (((owCs x).any fun i => out.any (Nat.beq i)) || ((owCs x).any fun i => seen.any (Nat.beq i))) with
      | true => rw [ha] at h; cases h
      | false =>
        rw [ha] at h
        simp only [cond_false] at h
        cases hy : finOne (getM s.mem) (.own e T) x with
        | none => rw [hy] at h; cases h
        | some y =>
          rw [hy] at h
          simp only at h
          split at h
          · rename_i ys' hys
            cases h
            exact ⟨x, y, ys', _, _, rfl, hy, hys, rfl⟩
          · cases h

theorem finR_ids (E : Env) (s : S) : ∀ (vs : List ResultVar) (rs : List RT) (out seen : List Nat) (ys : List RV), finR E s vs rs out seen = some ys →
    (∀ id ∈ out, id ∉ dIds E s vs rs ∧ id ∉ oIds E s vs rs) ∧ (∀ id ∈ seen, id ∉ oIds E s vs rs) ∧ (∀ id ∈ oIds E s vs rs, id ∉ dIds E s vs rs) ∧ (oIds E s vs rs).Nodup
  | [], [], _, _, _, _ => ⟨fun _ _ => ⟨fun h => by simp [dIds] at h, fun h => by simp [oIds] at h⟩, fun _ _ h => by simp [oIds] at h, fun _ h => by simp [oIds] at h, by simp [oIds]⟩
  | [], _ :: _, _, _, _, h => by simp [finR] at h
  | _ :: _, [], _, _, _, h => by simp [finR] at h
  | v :: vs, .d T :: rs, out, seen, ys, h => by
    simp only [finR] at h
    split at h
    · rename_i x hx
      simp only [Bool.or_false] at h
      cases ha : ((owCs x).any fun i => out.any (Nat.beq i)) with
      | true => rw [ha] at h; cases h
      | false =>
        rw [ha] at h
        simp only [cond_false] at h
        split at h
        · split at h
          · rename_i ys' hys
            obtain ⟨h1, h2, h3, h4⟩ := finR_ids E s vs rs out (owCs x ++ seen) ys' hys
            have hr : resIds E s v = owCs x := by simp [resIds, hx]
            have hno := any_false ha
            simp only [dIds, oIds, hr]
            refine ⟨fun id hid => ⟨fun hm => ?_, (h1 id hid).2⟩, fun id hid => h2 id (List.mem_append_right _ hid), fun id hid hm => ?_, h4⟩
            · rcases List.mem_append.1 hm with hm | hm
              · exact hno id hm hid
              · exact (h1 id hid).1 hm
            · rcases List.mem_append.1 hm with hm | hm
              · exact h2 id (List.mem_append_left _ hm) hid
              · exact h3 id hid hm
          · cases h
        · cases h
    · cases h
  | v :: vs, .own e T :: rs, out, seen, ys, h => by
    simp only [finR] at h
    split at h
    · rename_i x hx
      cases ha : (((owCs x).any fun i => out.any (Nat.beq i)) || ((owCs x).any fun i => seen.any (Nat.beq i))) with
      | true => rw [ha] at h; cases h
      | false =>
        rw [ha] at h
        simp only [cond_false] at h
        simp only [Bool.or_eq_false_iff] at ha
        split at h
        · rename_i y hy
          split at h
          · rename_i ys' hys
            obtain ⟨h1, h2, h3, h4⟩ := finR_ids E s vs rs (owCs x ++ out) (owCs x ++ seen) ys' hys
            have hr : resIds E s v = owCs x := by simp [resIds, hx]
            have hno := any_false ha.1
            have hno2 := any_false ha.2
            simp only [dIds, oIds, hr]
            have hnd : (owCs x).Nodup := finOne_nodup hy
            refine ⟨fun id hid => ⟨(h1 id (List.mem_append_right _ hid)).1, fun hm => ?_⟩, fun id hid hm => ?_, fun id hid hm => ?_, List.nodup_append.2 ⟨hnd, h4, fun a ha b hb e => ?_⟩⟩
            · rcases List.mem_append.1 hm with hm | hm
              · exact hno id hm hid
              · exact (h1 id (List.mem_append_right _ hid)).2 hm
            · rcases List.mem_append.1 hm with hm | hm
              · exact hno2 id hm hid
              · exact h2 id (List.mem_append_right _ hid) hm
            · rcases List.mem_append.1 hid with hid | hid
              · exact (h1 id (List.mem_append_left _ hid)).1 hm
              · exact h3 id hid hm
            · subst e; exact (h1 a (List.mem_append_left _ ha)).2 hb
          · cases h
        · cases h
    · cases h

theorem RelA.nob {w : World} {St : Stb} {T : Ty} {c : Value} {l : List Value} {d : T.den} (h : RelT w St T l d) (hc : if T.agg then c = .agg l.toArray else l = [c]) : RelA w St noQ noBet c (inj T d) := rel_injA h hc

theorem resA_run (hti : ∀ t i, E.ti t = some i → TIok E.P t i) {w : World} {St : Stb} {β : Bet} {a : Act} {s : S} (h : SRel w0 St0 Q nt w St β a s) {v : ResultVar} {x : A} (hx : resA E s v = some x) :
    ∃ c, ((match v with | .tmp t => pure (a.tmps.getD t undef) | .cell q t => do loadVar t (← asAddr (a.tmps.getD q undef)) : Sem Value)).run E.P w = .ok c w ∧ RelA w St Q β c x := by
  cases v with
  | tmp t =>
    simp only [resA] at hx
    split at hx
    · rename_i y hy
      cases hx
      have := h.fr t
      rw [hy] at this
      exact ⟨_, rfl, this⟩
    · cases hx
  | cell q t =>
    simp only [resA] at hx
    split at hx
    · rename_i p i hp hi
      obtain ⟨y, hy, hl⟩ := loadK_sound hx
      simp only [Option.some.injEq] at hy
      subst hy
      have hr := h.fr q
      rw [hp] at hr
      obtain ⟨c, h1, h2⟩ := hl w St Q β w0.heap.size (getM s.mem) h.mem (Sees.same _) t (hti _ _ hi) _ hr
      refine ⟨c, ?_, h2⟩
      obtain ⟨b, o, e, _⟩ := rel_move (show RelP w St Q β _ p from hr)
      simp only [e] at h1 ⊢
      simpa [Instr.loadAt, Instr.sureAddr, asAddr] using h1
    · cases hx

theorem finOne_rel {w : World} {St : Stb} {β : Bet} {a : Act} {s : S} (hs : SRel w0 St0 Q nt w St β a s) {ids : List Nat} {rt : RT} {x : A} {y : RV} (h : finOne (getM s.mem) rt x = some y) {c : Value} (hc : RelA w St Q β c x)
    (hd : ∀ T, rt = .d T → ∀ id ∈ owCs x, id ∈ ids) (ho : ∀ e T, rt = .own e T → ∀ id ∈ owCs x, id ∉ ids) :
    ∃ ob, RelRV w (stF β (getM s.mem) St ids) w0.heap.size c y ob ∧ ∀ b, ob = some b → ∃ id, (∃ e T, rt = .own e T) ∧ id ∈ owCs x ∧ ∃ loc rr, getM s.mem id = some rr ∧ β id = some loc ∧ loc.b = some b := by
  cases rt with
  | d T =>
    simp only [finOne] at h
    cases hsh : shapeOk T x with
    | false => rw [hsh] at h; cases h
    | true =>
      rw [hsh] at h
      simp only [cond_true] at h
      split at h
      · rename_i d hpd
        cases h
        have hT := rel_prj (reC0_all (m := getM s.mem) hs.mem (Sees.same _) (ids := ids) (fun id len hm => hd T rfl id (owIds_mem hm)) (rel_cells hc)) hpd
        exact ⟨none, ⟨rfl, RelA.nob hT (shape_val hsh hc)⟩, fun b hb => by cases hb⟩
      · cases h
  | own e T =>
    cases x with
    | ag cs => simp [finOne] at h
    | c x => cases x with
      | nl =>
        simp only [finOne, Option.some.injEq] at h
        subst h
        exact ⟨none, ⟨hc, rfl⟩, fun b hb => by cases hb⟩
      | ow id len =>
        simp only [finOne] at h
        split at h
        · rename_i e' T' xs hm
          cases hbe : Nat.beq e' e with
          | false => rw [hbe] at h; cases h
          | true =>
            rw [hbe] at h
            simp only [cond_true] at h
            obtain rfl := Nat.eq_of_beq_eq_true hbe
            split at h
            · rename_i hT
              subst hT
              cases h
              obtain ⟨loc, hlb, hcc⟩ := (show RelC w St Q β c (.ow id len) from hc)
              obtain ⟨cap, ⟨hb', rfl⟩ | ⟨b, cur, hb', hh, hsz, hx, hmx, hrel, hB, hst, _⟩⟩ := hs.mem.arr hm
              · rw [hlb] at hb'; cases hb'
                rcases hcc with ⟨_, rfl, rfl⟩ | ⟨b, h0, _⟩
                · exact ⟨none, ⟨rfl, by simp [castL]⟩, fun b hb => by cases hb⟩
                · cases h0
              · rw [hlb] at hb'; cases hb'
                rcases hcc with ⟨h0, _⟩ | ⟨b', h0, rfl, hle⟩
                · cases h0
                · cases h0
                  simp only at hle
                  have hlen : (xs.take len).length = len := by rw [List.length_take]; omega
                  have hrel' : RelL w (stF β (getM s.mem) St ids) T' cur.toList (xs.take len) := (hrel.take len).mono (frz_keep w St Q β (getM s.mem) ids).ext
                  refine ⟨some b, ⟨cap, cur, by show Value.slice _ _ _ = Value.slice _ (xs.take len).length _; rw [hlen], hB, hh, hsz, by show (xs.take len).length ≤ cap; omega, hmx, hrel', fun o hso => ?_⟩, fun b' hb' => by
                    cases hb'; exact ⟨id, ⟨_, _, rfl⟩, by simp [owCs, owIds, A.cells], _, _, hm, hlb, rfl⟩⟩
                  rcases hso with hso | ⟨id', hin, r', loc', hm', hb', hlb', _⟩
                  · have := (hst o hso).1; cases this
                  · by_cases he : id = id'
                    · subst he; exact ho _ _ rfl id (by simp [owCs, owIds, A.cells]) hin
                    · exact hs.mem.dist id id' _ _ _ _ b hm hm' he hlb hb' rfl hlb'
            · cases h
        · cases h
      | _ => simp [finOne] at h

theorem finR_rel (hti : ∀ t i, E.ti t = some i → TIok E.P t i) {w : World} {St : Stb} {β : Bet} {a : Act} {s : S} (hs : SRel w0 St0 Q nt w St β a s) {ids : List Nat} : ∀ (vs : List ResultVar) (rs : List RT) (out seen : List Nat) (ys : List RV),
    finR E s vs rs out seen = some ys → (∀ id ∈ dIds E s vs rs, id ∈ ids) → (∀ id ∈ oIds E s vs rs, id ∉ ids) → (oIds E s vs rs).Nodup →
    ∃ (cs : List Value) (obs : List (Option Nat)), (vs.mapM (fun v => (match v with | .tmp t => pure (a.tmps.getD t undef) | .cell q t => do loadVar t (← asAddr (a.tmps.getD q undef)) : Sem Value))).run E.P w = .ok cs w ∧
      RelRVs w (stF β (getM s.mem) St ids) w0.heap.size cs ys obs ∧ (∀ (i : Nat) b, obs[i]? = some (some b) → ∃ id ∈ oIds E s vs rs, ∃ loc rr, getM s.mem id = some rr ∧ β id = some loc ∧ loc.b = some b) ∧
      (∀ (i j : Nat) (b : Nat), obs[i]? = some (some b) → obs[j]? = some (some b) → i = j)
  | [], [], _, _, ys, h, _, _, _ => by
    simp only [finR, Option.some.injEq] at h
    subst h
    exact ⟨[], [], rfl, trivial, fun i b h => by simp at h, fun i j b h => by simp at h⟩
  | [], _ :: _, _, _, _, h, _, _, _ => by simp [finR] at h
  | _ :: _, [], _, _, _, h, _, _, _ => by simp [finR] at h
  | v :: vs, rt :: rs, out, seen, ys, h, hd, ho, hnd => by
    obtain ⟨x, y, ys', out', seen', hx, hy, hys, rfl⟩ := finR_step h
    have hri : resIds E s v = owCs x := by simp [resIds, hx]
    obtain ⟨c, hc1, hc2⟩ := resA_run hti hs hx
    obtain ⟨ob, hob, hob2⟩ := finOne_rel hs (ids := ids) hy hc2 (fun T e id hid => hd id (by subst e; simp only [dIds, hri]; exact List.mem_append_left _ hid))
      (fun e T e' id hid => ho id (by subst e'; simp only [oIds, hri]; exact List.mem_append_left _ hid))
    have hd' : ∀ id ∈ dIds E s vs rs, id ∈ ids := fun id hid => hd id (by cases rt <;> simp only [dIds] <;> first | exact List.mem_append_right _ hid | exact hid)
    have ho' : ∀ id ∈ oIds E s vs rs, id ∉ ids := fun id hid => ho id (by cases rt <;> simp only [oIds] <;> first | exact List.mem_append_right _ hid | exact hid)
    have hnd' : (oIds E s vs rs).Nodup := by
      cases rt with
      | d T => exact hnd
      | own e T => simp only [oIds] at hnd; exact (List.nodup_append.1 hnd).2.1
    obtain ⟨cs, obs, h1, h2, h3, h4⟩ := finR_rel hti hs vs rs _ _ ys' hys hd' ho' hnd'
    have hcross : ∀ (j : Nat) (b : Nat), ob = some b → obs[j]? = some (some b) → False := fun j b e hj => by
      obtain ⟨id, ⟨e1, T1, hrt⟩, hid, loc, rr, hm, hb, hlb⟩ := hob2 b e
      obtain ⟨id', hid', loc', rr', hm', hb', hlb'⟩ := h3 j b hj
      subst hrt
      simp only [oIds, hri] at hnd
      have hne := (List.nodup_append.1 hnd).2.2 id hid id' hid'
      exact hs.mem.dist id id' _ _ _ _ b hm hm' hne hb hb' hlb hlb'
    refine ⟨c :: cs, ob :: obs, ?_, ⟨hob, h2⟩, fun i b hi => ?_, fun i j b hi hj => ?_⟩
    · rw [List.mapM_cons, Sem.run_bind, hc1]
      simp only [Result.andThen_ok, Sem.run_bind, h1, Sem.run_pure]
    · cases i with
      | zero =>
        simp only [List.getElem?_cons_zero, Option.some.injEq] at hi
        obtain ⟨id, ⟨e1, T1, hrt⟩, hid, rest⟩ := hob2 b hi
        subst hrt
        exact ⟨id, by simp only [oIds, hri]; exact List.mem_append_left _ hid, rest⟩
      | succ i =>
        obtain ⟨id, hid, rest⟩ := h3 i b (by simpa using hi)
        exact ⟨id, by cases rt <;> simp only [oIds] <;> first | exact List.mem_append_right _ hid | exact hid, rest⟩
    · cases i with
      | zero => cases j with
        | zero => rfl
        | succ j => exact (hcross j b (by simpa using hi) (by simpa using hj)).elim
      | succ i => cases j with
        | zero => exact (hcross i b (by simpa using hj) (by simpa using hi)).elim
        | succ j => have := h4 i j b (by simpa using hi) (by simpa using hj); omega

end
end Go.Proofs.YtokecnkjgoghhaaDoor.Ab
end
section
/- Where a run is cut the state is kept, with its rows numbered anew; and the end of a function. -/
set_option linter.unusedVariables false
set_option linter.unusedSimpArgs false
namespace Go.Proofs.YtokecnkjgoghhaaDoor.Ab
open Go Go.RowKit

theorem posOf_get : ∀ (ids : List Nat) (id k : Nat), posOf ids id = some k → ids[k]? = some id
  | [], _, _, h => by simp [posOf] at h
  | x :: r, id, k, h => by
    simp only [posOf] at h
    cases hb : Nat.beq x id with
    | true =>
      rw [hb] at h
      simp only [cond_true, Option.some.injEq] at h
      subst h
      simp [Nat.eq_of_beq_eq_true hb]
    | false =>
      rw [hb] at h
      simp only [cond_false] at h
      split at h
      · rename_i q hq
        cases h
        simpa using posOf_get r id q hq
      · cases h

theorem posOf_none : ∀ (ids : List Nat) (id : Nat), posOf ids id = none → id ∉ ids
  | [], _, _ => by simp
  | x :: r, id, h => by
    simp only [posOf] at h
    cases hb : Nat.beq x id with
    | true => rw [hb] at h; cases h
    | false =>
      rw [hb] at h
      simp only [cond_false] at h
      split at h
      · cases h
      · rename_i hq
        intro hm
        rcases List.mem_cons.1 hm with rfl | hm
        · simp at hb
        · exact posOf_none r id hq hm

theorem addNew_nodup : ∀ (l acc : List Nat), acc.Nodup → (addNew acc l).Nodup
  | [], acc, h => h
  | x :: r, acc, h => by
    simp only [addNew]
    split
    · exact addNew_nodup r acc h
    · rename_i hn
      refine addNew_nodup r _ (List.nodup_append.2 ⟨h, by simp, fun a ha b hb e => ?_⟩)
      simp at hb
      subst hb
      subst e
      exact posOf_none _ _ hn ha

theorem closeIds_nodup (mem : List (Option Row)) : ∀ (n : Nat) (ids : List Nat), ids.Nodup → (closeIds mem n ids).Nodup
  | 0, _, h => h
  | n + 1, ids, h => closeIds_nodup mem n _ (addNew_nodup _ _ h)

theorem getM_map (f : Nat → Option Row) : ∀ (ids : List Nat) (k : Nat), getM (ids.map f) k = match ids[k]? with | some id => f id | none => none
  | [], k => by cases k <;> simp [getM]
  | x :: r, 0 => by simp [getM]
  | x :: r, k + 1 => by simp [getM, getM_map f r k]

theorem getM_snoc (r : Row) : ∀ (m : List (Option Row)) (k : Nat), getM (m ++ [some r]) k = if k = m.length then some r else getM m k
  | [], 0 => rfl
  | [], k + 1 => by simp [getM]
  | x :: m, 0 => by simp [getM]
  | x :: m, k + 1 => by simp [getM, getM_snoc r m k]

section
variable {w : World} {St Q : Stb} {β β' : Bet} {ids : List Nat}

theorem renP_rel (hr : ∀ id k, posOf ids id = some k → ∀ l, β id = some l → β' k = some l) {c : Value} {p p' : Pt} (h : renP ids p = some p') (hc : RelP w St Q β c p) : RelP w St Q β' c p' := by
  cases p with
  | own id i j =>
    simp only [renP] at h
    split at h
    · rename_i k hk
      cases h
      obtain ⟨b, cap, kk, n, hb, hc⟩ := hc
      exact ⟨b, cap, kk, n, hr id k hk _ hb, hc⟩
    · cases h
  | sh T d j => simp only [renP, Option.some.injEq] at h; subst h; exact hc

theorem renPs_rel (hr : ∀ id k, posOf ids id = some k → ∀ l, β id = some l → β' k = some l) : ∀ {ps ps' : List Pt} {l : List Value}, renPs ids ps = some ps' → All2 (RelP w St Q β) l ps → All2 (RelP w St Q β') l ps'
  | [], ps', [], h, _ => by simp only [renPs, Option.some.injEq] at h; subst h; trivial
  | p :: ps, ps', c :: l, h, ⟨h1, h2⟩ => by
    simp only [renPs] at h
    split at h
    · rename_i p' hp'
      split at h
      · rename_i r' hr'
        cases h
        exact ⟨renP_rel hr hp' h1, renPs_rel hr hr' h2⟩
      · cases h
    · cases h
  | [], _, _ :: _, _, h => h.elim
  | _ :: _, _, [], _, h => h.elim

theorem renC_rel (hr : ∀ id k, posOf ids id = some k → ∀ l, β id = some l → β' k = some l) {c : Value} {x : C} (hc : RelC w St Q β c x) : RelC w St Q β' c (renC ids x) := by
  cases x with
  | ow id len =>
    simp only [renC]
    split
    · rename_i k hk
      obtain ⟨loc, hb, hc⟩ := hc
      exact ⟨loc, hr id k hk _ hb, hc⟩
    · trivial
  | pt p =>
    simp only [renC]
    split
    · rename_i p' hp'; exact renP_rel hr hp' hc
    · trivial
  | cl f ps =>
    simp only [renC]
    split
    · rename_i ps' hps'
      obtain ⟨arr, rfl, hc⟩ := hc
      exact ⟨arr, rfl, renPs_rel hr hps' hc⟩
    · trivial
  | _ => exact hc

theorem renA_rel (hr : ∀ id k, posOf ids id = some k → ∀ l, β id = some l → β' k = some l) {c : Value} {x : A} (hc : RelA w St Q β c x) : RelA w St Q β' c (renA ids x) := by
  cases x with
  | c x => exact renC_rel hr hc
  | ag cs => obtain ⟨arr, rfl, hc⟩ := hc; exact ⟨arr, rfl, All2.map (fun _ _ h => renC_rel hr h) _ _ hc⟩

theorem renF_rel (hr : ∀ id k, posOf ids id = some k → ∀ l, β id = some l → β' k = some l) {c : Value} {x : F} (hc : RelF w St Q β c x) : RelF w St Q β' c (renF ids x) := by
  cases x with
  | a x => exact renA_rel hr hc
  | tp xs => obtain ⟨arr, rfl, hc⟩ := hc; exact ⟨arr, rfl, All2.map (fun _ _ h => renA_rel hr h) _ _ hc⟩

theorem renRow_at (hr : ∀ id k, posOf ids id = some k → ∀ l, β id = some l → β' k = some l) {loc : Loc} {r : Row} {n : Nat} (h : RowAt w St Q β loc r n) : RowAt w St Q β' loc (renRow ids r) n := by
  cases h with
  | box t T cells fz b cur hl hg hrel ho =>
    have : RowAt w St Q β' loc (.box t T (cells.map (renC ids)) fz) (cells.map (renC ids)).length := .box t T _ fz b cur (by rw [List.length_map]; exact hl) hg (All2.map (fun _ _ h => renC_rel hr h) _ _ hrel) ho
    rw [List.length_map] at this
    exact this
  | nil e T fz cap hl => exact .nil e T fz cap hl
  | arr e T xs fz b cap cur hl hg hs hx hm hrel => exact .arr e T xs fz b cap cur hl hg hs hx hm hrel

theorem renRow_fz (r : Row) : (renRow ids r).fz = r.fz := by cases r <;> rfl

/-- Each slot of a frame holds what Go's frame holds. -/
def AllFr (w : World) (St Q : Stb) (β : Bet) (val : Nat → Value) (fr : List (Nat × F)) : Prop := ∀ p ∈ fr, RelF w St Q β (val p.1) p.2

theorem getF_rel {val : Nat → Value} : ∀ {fr : List (Nat × F)}, AllFr w St Q β val fr → ∀ t, RelF w St Q β (val t) (getF fr t)
  | [], _, _ => trivial
  | (k, v) :: fr, h, t => by
    simp only [getF]
    cases hb : Nat.beq k t with
    | true => have := h (k, v) (List.mem_cons_self ..); rw [Nat.eq_of_beq_eq_true hb] at this; exact this
    | false => exact getF_rel (fun p hp => h p (List.mem_cons_of_mem _ hp)) t

theorem nilFr_rel {B : Nat} {val : Nat → Value} : ∀ (live : List (Nat × LK)) (fr : List (Nat × F)) (mem : List (Option Row)) (β : Bet), MemRel w St Q β B (getM mem) → (∀ id, mem.length ≤ id → β id = none) → AllFr w St Q β val fr →
    ∃ β', (∀ id l, β id = some l → β' id = some l) ∧ MemRel w St Q β' B (getM (nilFr live fr mem).mem) ∧ (∀ id, (nilFr live fr mem).nx ≤ id → β' id = none) ∧ AllFr w St Q β' val (nilFr live fr mem).fr
  | [], fr, mem, β, hM, hn, hf => ⟨β, fun _ _ h => h, hM, hn, hf⟩
  | _ :: _, [], mem, β, hM, hn, hf => ⟨β, fun _ _ h => h, hM, hn, hf⟩
  | (t, k) :: live, (u, x) :: fr, mem, β, hM, hn, hf => by
    have hx := hf (u, x) (List.mem_cons_self ..)
    have hf' : AllFr w St Q β val fr := fun p hp => hf p (List.mem_cons_of_mem _ hp)
    unfold nilFr
    cases ho : nilOne k x mem.length with
    | none =>
      simp only [ho]
      obtain ⟨β', h1, h2, h3, h4⟩ := nilFr_rel live fr mem β hM hn hf'
      refine ⟨β', h1, h2, h3, fun p hp => ?_⟩
      rcases List.mem_cons.1 hp with rfl | hp
      · exact RelF.mono ⟨fun _ _ h => ⟨h, rfl⟩, fun _ _ _ => rfl, h1⟩ hx
      · exact h4 p hp
    | some yr =>
      unfold nilOne at ho
      split at ho
      · rename_i e T
        cases ho
        have hnew : β mem.length = none := hn _ (Nat.le_refl _)
        have hbet : ∀ id l, β id = some l → (fun id => if id = mem.length then some (⟨none, 0, T.w, 0⟩ : Loc) else β id) id = some l := fun id l hl => by
          by_cases he : id = mem.length
          · subst he; rw [hnew] at hl; cases hl
          · simp [he, hl]
        have hM' : MemRel w St Q (fun id => if id = mem.length then some (⟨none, 0, T.w, 0⟩ : Loc) else β id) B (getM (mem ++ [some (.arr e T [] false)])) := by
          have := hM.addw hnew (rowNil e T false 0) (fun b hb => by cases hb) rfl
          rw [show getM (mem ++ [some (Row.arr e T [] false)]) = fun id => if id = mem.length then some (Row.arr e T [] false) else getM mem id from funext (getM_snoc _ mem)]
          exact this
        obtain ⟨β', h1, h2, h3, h4⟩ := nilFr_rel live fr (mem ++ [some (.arr e T [] false)]) _ hM' (fun id hid => by
          simp only [List.length_append, List.length_singleton] at hid
          show (if id = mem.length then _ else β id) = none
          rw [if_neg (by omega)]
          exact hn id (by omega)) (fun p hp => RelF.mono ⟨fun _ _ h => ⟨h, rfl⟩, fun _ _ _ => rfl, hbet⟩ (hf' p hp))
        refine ⟨β', fun id l hl => h1 id l (hbet id l hl), h2, h3, fun p hp => ?_⟩
        rcases List.mem_cons.1 hp with rfl | hp
        · exact ⟨⟨none, 0, T.w, 0⟩, h1 _ _ (if_pos rfl), .inl ⟨rfl, rfl, hx⟩⟩
        · exact h4 p hp
      · cases ho

end

section
variable {R : Type} {r : R} {E : Env} {G : World → Prop} {w0 : World} {St0 Q : Stb} {nt : Nat}

theorem canon0_sound {w : World} {St : Stb} {β : Bet} {a : Act} {s : S} (hs : SRel w0 St0 Q nt w St β a s) (live : List (Nat × LK)) :
    ∃ β', SRel w0 St0 Q nt w St β' a (canon0 live s) ∧ ∀ id, (canon0 live s).nx ≤ id → β' id = none := by
  let ids := closeIds s.mem 3 (addNew [] (live.flatMap fun x => fDirIds (getF s.fr x.1)))
  have hnd : ids.Nodup := closeIds_nodup _ _ _ (addNew_nodup _ _ (by simp))
  let β1 : Bet := fun k => match ids[k]? with | some id => β id | none => none
  have hr : ∀ id k, posOf ids id = some k → ∀ l, β id = some l → β1 k = some l := fun id k hk l hl => by
    show (match ids[k]? with | some id => β id | none => none) = some l
    rw [posOf_get _ _ _ hk]; exact hl
  have hM1 : MemRel w St Q β1 w0.heap.size (getM (ids.map fun id => (getM s.mem id).map (renRow ids))) := by
    refine ⟨fun k r0 h => ?_, fun k k' r0 r0' l l' b h h' hne hl hl' hb => ?_⟩
    · rw [getM_map] at h
      cases hid : ids[k]? with
      | none => rw [hid] at h; cases h
      | some id =>
        rw [hid] at h
        simp only at h
        cases hm : getM s.mem id with
        | none => rw [hm] at h; cases h
        | some r1 =>
          rw [hm] at h
          cases h
          obtain ⟨loc, n, hb, hat, hst⟩ := hs.mem.row _ _ hm
          refine ⟨loc, n, ?_, renRow_at hr hat, fun b hb' => by rw [renRow_fz]; exact hst b hb'⟩
          show (match ids[k]? with | some id => β id | none => none) = some loc
          rw [hid]; exact hb
    · rw [getM_map] at h h'
      cases hid : ids[k]? with
      | none => rw [hid] at h; cases h
      | some id =>
        cases hid' : ids[k']? with
        | none => rw [hid'] at h'; cases h'
        | some id' =>
          rw [hid] at h; rw [hid'] at h'
          simp only at h h'
          have hl : (match ids[k]? with | some id => β id | none => none) = some l := hl
          have hl' : (match ids[k']? with | some id => β id | none => none) = some l' := hl'
          rw [hid] at hl; rw [hid'] at hl'
          cases hm : getM s.mem id with
          | none => rw [hm] at h; cases h
          | some r1 =>
            cases hm' : getM s.mem id' with
            | none => rw [hm'] at h'; cases h'
            | some r1' =>
              refine hs.mem.dist id id' r1 r1' l l' b hm hm' (fun e => hne ?_) hl hl' hb
              subst e
              exact (List.getElem?_inj (List.getElem?_eq_some_iff.1 hid).1 hnd).1 (hid.trans hid'.symm)
  have hf1 : AllFr w St Q β1 (fun t => a.tmps.getD t undef) (live.map fun x => (x.1, renF ids (getF s.fr x.1))) := fun p hp => by
    obtain ⟨x, hx, rfl⟩ := List.mem_map.1 hp
    exact renF_rel hr (hs.fr x.1)
  obtain ⟨β', h1, h2, h3, h4⟩ := nilFr_rel live _ _ β1 hM1 (fun id hid => by
    show (match ids[id]? with | some id => β id | none => none) = none
    rw [List.getElem?_eq_none (by simpa using hid)]) hf1
  exact ⟨β', ⟨hs.below, ⟨hs.keep.ext, hs.keep.q, fun _ _ h => by cases h⟩, hs.stn, hs.st, h2, getF_rel h4, hs.sz, hs.df⟩, h3⟩

theorem fixOne_sound {w : World} {St : Stb} {β : Bet} {a : Act} {s : S} (hs : SRel w0 St0 Q nt w St β a s) (hn : ∀ id, s.nx ≤ id → β id = none) (id : Nat) (x : Nat × TypeId × Ty) :
    ∃ β', SRel w0 St0 Q nt w St β' a (fixOne id x s) ∧ ∀ id', (fixOne id x s).nx ≤ id' → β' id' = none := by
  obtain ⟨i, e, T⟩ := x
  unfold fixOne
  split
  · rename_i t T0 cells fz hm
    simp only
    split
    · rename_i hc
      obtain ⟨loc, n, hb, hat, hst⟩ := hs.mem.row _ _ hm
      have hnew : β s.nx = none := hn _ (Nat.le_refl _)
      have hne : id ≠ s.nx := fun h => by subst h; rw [hb] at hnew; cases hnew
      let β1 : Bet := fun k => if k = s.nx then some (⟨none, 0, T.w, 0⟩ : Loc) else β k
      have hbet : ∀ k l, β k = some l → β1 k = some l := fun k l hl => by
        show (if k = s.nx then _ else β k) = _
        rw [if_neg (fun h => by subst h; rw [hnew] at hl; cases hl)]; exact hl
      have hkeep : Keep w St β Q w St β1 := ⟨fun _ _ h => ⟨h, rfl⟩, fun _ _ _ => rfl, hbet⟩
      have hM := hs.mem.addw hnew (rowNil e T false 0) (fun b hb => by cases hb) rfl
      have hM1 : MemRel w St Q β1 w0.heap.size (fun k => if k = s.nx then some (Row.arr e T [] false) else getM s.mem k) := hM
      have hget : ∀ k, getM (setM (setM s.mem id (some (Row.box t T0 (cells.set i (.ow s.nx 0)) fz))) s.nx (some (Row.arr e T [] false))) k = if k = s.nx then some (Row.arr e T [] false) else if k = id then some (Row.box t T0 (cells.set i (.ow s.nx 0)) fz) else getM s.mem k := fun k => by
        rw [getM_setM, getM_setM]
      refine ⟨β1, ⟨hs.below, ⟨hs.keep.ext, hs.keep.q, fun _ _ h => by cases h⟩, hs.stn, hs.st, ?_, fun t => RelF.mono hkeep (hs.fr t), hs.sz, hs.df⟩, fun k hk => ?_⟩
      · refine ⟨fun k r hr => ?_, fun k k' r r' l l' b hr hr' hkk hl hl' hb' => ?_⟩
        · rw [hget] at hr
          by_cases hk : k = s.nx
          · exact hM1.row k r (by simpa [hk] using hr)
          · rw [if_neg hk] at hr
            by_cases hk2 : k = id
            · rw [if_pos hk2] at hr
              subst hk2
              cases hr
              refine ⟨loc, n, hbet _ _ hb, ?_, hst⟩
              cases hat with
              | box _ _ _ _ b cur hl hg hrel hone =>
                have hlen : (cells.set i (.ow s.nx 0)).length = cells.length := by simp
                have : RowAt w St Q β1 loc (.box t T0 (cells.set i (.ow s.nx 0)) fz) (cells.set i (.ow s.nx 0)).length := by
                  refine .box t T0 _ fz b cur (by rw [hlen]; exact hl) hg ?_ hone
                  have h1 : All2 (RelC w St Q β1) cur.toList cells := All2.imp (fun _ _ h => RelC.mono hkeep h) _ _ hrel
                  have h2 : ∀ (l : List Value) (m : List C) (i : Nat), All2 (RelC w St Q β1) l m → m[i]? = some .nl → All2 (RelC w St Q β1) l (m.set i (.ow s.nx 0)) := by
                    intro l
                    induction l with
                    | nil => intro m i h hm; cases m with
                      | nil => simp at hm
                      | cons => exact h.elim
                    | cons c l ih => intro m i h hm; cases m with
                      | nil => exact h.elim
                      | cons y m =>
                        cases i with
                        | zero =>
                          simp only [List.getElem?_cons_zero, Option.some.injEq] at hm
                          subst hm
                          exact ⟨⟨⟨none, 0, T.w, 0⟩, if_pos rfl, .inl ⟨rfl, rfl, h.1⟩⟩, h.2⟩
                        | succ i => exact ⟨h.1, ih m i h.2 (by simpa using hm)⟩
                  exact h2 _ _ _ h1 hc
                rw [hlen] at this
                exact this
            · rw [if_neg hk2] at hr
              exact hM1.row k r (by rw [if_neg hk]; exact hr)
        · rw [hget] at hr hr'
          have old : ∀ (k : Nat) (r : Row), (if k = s.nx then some (Row.arr e T [] false) else if k = id then some (Row.box t T0 (cells.set i (.ow s.nx 0)) fz) else getM s.mem k) = some r → ∃ r0, (if k = s.nx then some (Row.arr e T [] false) else getM s.mem k) = some r0 := by
            intro k r hr
            by_cases hk : k = s.nx
            · exact ⟨_, if_pos hk⟩
            · rw [if_neg hk] at hr ⊢
              by_cases hk2 : k = id
              · subst hk2; exact ⟨_, hm⟩
              · rw [if_neg hk2] at hr; exact ⟨_, hr⟩
          obtain ⟨r0, h0⟩ := old k r hr
          obtain ⟨r1, h1⟩ := old k' r' hr'
          exact hM1.dist k k' r0 r1 l l' b h0 h1 hkk hl hl' hb'
      · show (if k = s.nx then _ else β k) = none
        have hk' : s.nx + 1 ≤ k := hk
        rw [if_neg (by omega)]
        exact hn k (by omega)
    · exact ⟨β, hs, hn⟩
  · exact ⟨β, hs, hn⟩

theorem fixCs_sound {w : World} {St : Stb} {a : Act} (id : Nat) : ∀ (l : List (Nat × TypeId × Ty)) {β : Bet} {s : S}, SRel w0 St0 Q nt w St β a s → (∀ id, s.nx ≤ id → β id = none) →
    ∃ β', SRel w0 St0 Q nt w St β' a (fixCs id l s) ∧ ∀ id', (fixCs id l s).nx ≤ id' → β' id' = none
  | [], β, s, hs, hn => ⟨β, hs, hn⟩
  | x :: l, β, s, hs, hn => by
    obtain ⟨β1, h1, h2⟩ := fixOne_sound hs hn id x
    exact fixCs_sound id l h1 h2

theorem fixAll_sound {w : World} {St : Stb} {a : Act} : ∀ (live : List (Nat × LK)) {β : Bet} {s : S}, SRel w0 St0 Q nt w St β a s → (∀ id, s.nx ≤ id → β id = none) →
    ∃ β', SRel w0 St0 Q nt w St β' a (fixAll live s) ∧ ∀ id', (fixAll live s).nx ≤ id' → β' id' = none
  | [], β, s, hs, hn => ⟨β, hs, hn⟩
  | (t, .cells l) :: r, β, s, hs, hn => by
    have : ∃ β', SRel w0 St0 Q nt w St β' a (fixF (getF s.fr t) l s) ∧ ∀ id', (fixF (getF s.fr t) l s).nx ≤ id' → β' id' = none := by
      unfold fixF
      split
      · exact fixCs_sound _ l hs hn
      · exact ⟨β, hs, hn⟩
    obtain ⟨β1, h1, h2⟩ := this
    exact fixAll_sound r h1 h2
  | (t, .any) :: r, β, s, hs, hn => fixAll_sound r hs hn
  | (t, .own _ _) :: r, β, s, hs, hn => fixAll_sound r hs hn
  | (t, .sh) :: r, β, s, hs, hn => fixAll_sound r hs hn

theorem ow_in : ∀ {cs : List C} {id len : Nat}, C.ow id len ∈ cs → id ∈ owIds cs
  | x :: cs, id, len, h => by
    rcases List.mem_cons.1 h with rfl | h
    · exact List.mem_cons_self ..
    · have := ow_in h
      cases x <;> first | exact this | exact List.mem_cons_of_mem _ this

theorem shareS_sound {w : World} {St : Stb} {β : Bet} {a : Act} {s : S} (hs : SRel w0 St0 Q nt w St β a s) (t : Nat) :
    ∃ St', SRel w0 St0 Q nt w St' β a (shareS t s) := by
  have frzEq : ∀ ids, getM (freezeM s.mem ids) = frz (getM s.mem) ids := fun ids => by
    funext k; rw [getM_freeze]; rfl
  have base : ∀ ids, SRel w0 St0 Q nt w (stF β (getM s.mem) St ids) β a { fr := s.fr, mem := freezeM s.mem ids, nx := s.nx } := fun ids => by
    have hk := frz_keep w St Q β (getM s.mem) ids
    refine ⟨hs.below, ⟨fun b o h => ?_, hs.keep.q, fun _ _ h => by cases h⟩, fun b o h => ?_, fun b o h => ?_, ?_, fun u => RelF.mono hk (hs.fr u), hs.sz, hs.df⟩
    · exact ⟨.inl (hs.keep.ext b o h).1, (hs.keep.ext b o h).2⟩
    · exact (frz_new hs.mem ids b o h).elim (fun h => hs.stn b o h) .inr
    · rcases h with h | ⟨id, _, r, loc, hm, hb, hlb, _⟩
      · exact hs.st b o h
      · obtain ⟨loc', n, hb', hat, _⟩ := hs.mem.row _ _ hm
        rw [hb] at hb'; cases hb'
        exact hat.lt hlb
    · rw [frzEq]; exact frz_mem hs.mem ids
  unfold shareS
  split
  · rename_i x hx
    have hrel := hs.fr t
    rw [hx] at hrel
    have data : (∀ id i j, x ≠ .c (.pt (.own id i j)) → True) → SRel w0 St0 Q nt w (stF β (getM s.mem) St (owIds x.cells)) β a { fr := (t, .a (shareA (getM s.mem) x)) :: s.fr, mem := freezeM s.mem (owIds x.cells), nx := s.nx } := fun _ => by
      have hb := base (owIds x.cells)
      refine ⟨hb.below, hb.keep, hb.stn, hb.st, hb.mem, fun u => ?_, hb.sz, hb.df⟩
      simp only [getF]
      cases hu : Nat.beq t u with
      | false => exact hb.fr u
      | true =>
        rw [← Nat.eq_of_beq_eq_true hu]
        simp only [cond_true]
        cases x with
        | c y => exact reC0_rel hs.mem (Sees.same _) (fun id len h => ow_in (len := len) (by subst h; exact List.mem_cons_self ..)) hrel
        | ag cs =>
          obtain ⟨arr, ha, hc⟩ := hrel
          exact ⟨arr, ha, reC0_all hs.mem (Sees.same _) (fun id len h => ow_in h) hc⟩
    split
    · rename_i id
      split
      · rename_i ty T0 cells fz hm
        cases hany : (owIds cells).any (Nat.beq id) with
        | true => exact ⟨St, by simp only [cond_true]; exact hs⟩
        | false =>
          simp only [cond_false]
          have hnin : id ∉ owIds cells := fun h => by
            have : (owIds cells).any (Nat.beq id) = true := List.any_eq_true.2 ⟨id, h, Nat.beq_refl id⟩
            rw [hany] at this; cases this
          have hb := base (owIds cells)
          refine ⟨_, hb.below, hb.keep, hb.stn, hb.st, ?_, hb.fr, hb.sz, hb.df⟩
          have hbm : MemRel w (stF β (getM s.mem) St (owIds cells)) Q β w0.heap.size (getM (freezeM s.mem (owIds cells))) := hb.mem
          have hold : getM (freezeM s.mem (owIds cells)) id = some (.box ty T0 cells fz) := by rw [frzEq]; unfold frz; rw [if_neg hnin]; exact hm
          refine ⟨fun k r hr => ?_, fun k k' r r' l l' b hr hr' hkk hl hl' hb' => ?_⟩
          · rw [getM_setM] at hr
            by_cases hk : k = id
            · rw [if_pos hk] at hr
              subst hk
              cases hr
              obtain ⟨loc, n, hbl, hat, hst⟩ := hbm.row _ _ hold
              refine ⟨loc, n, hbl, ?_, hst⟩
              obtain ⟨loc0, n0, hbl0, hat0, _⟩ := hs.mem.row _ _ hm
              rw [hbl] at hbl0; cases hbl0
              cases hat0 with
              | box _ _ _ _ b cur hl hg hrel' hone =>
                have hn : n = cells.length := hat.n_eq
                have hlen : (cells.map (reC0 (getM s.mem))).length = cells.length := by simp
                have := RowAt.box (Q := Q) (β := β) (St := stF β (getM s.mem) St (owIds cells)) (loc := loc) ty T0 (cells.map (reC0 (getM s.mem))) fz b cur (by rw [hlen]; exact hl) hg (reC0_all hs.mem (Sees.same _) (fun id len h => ow_in h) hrel') hone
                rw [hlen] at this
                rw [hn]; exact this
            · rw [if_neg hk] at hr
              exact hbm.row k r hr
          · rw [getM_setM] at hr hr'
            have old : ∀ (k : Nat) (r : Row), (if k = id then some (Row.box ty T0 (cells.map (reC0 (getM s.mem))) fz) else getM (freezeM s.mem (owIds cells)) k) = some r → ∃ r0, getM (freezeM s.mem (owIds cells)) k = some r0 := by
              intro k r hr
              by_cases hk : k = id
              · subst hk; exact ⟨_, hold⟩
              · rw [if_neg hk] at hr; exact ⟨_, hr⟩
            obtain ⟨r0, h0⟩ := old k r hr
            obtain ⟨r1, h1⟩ := old k' r' hr'
            exact hbm.dist k k' r0 r1 l l' b h0 h1 hkk hl hl' hb'
      · exact ⟨St, hs⟩
    · exact ⟨_, data (fun _ _ _ _ => trivial)⟩
  · exact ⟨St, hs⟩

theorem shareAll_sound {w : World} {β : Bet} {a : Act} : ∀ (live : List (Nat × LK)) {St : Stb} {s : S}, SRel w0 St0 Q nt w St β a s → ∃ St', SRel w0 St0 Q nt w St' β a (shareAll live s)
  | [], St, s, hs => ⟨St, hs⟩
  | (t, .sh) :: r, St, s, hs => by
    obtain ⟨St1, h1⟩ := shareS_sound hs t
    exact shareAll_sound r h1
  | (t, .any) :: r, St, s, hs => shareAll_sound r hs
  | (t, .own _ _) :: r, St, s, hs => shareAll_sound r hs
  | (t, .cells _) :: r, St, s, hs => shareAll_sound r hs

theorem canon_sound {w : World} {St : Stb} {β : Bet} {a : Act} {s : S} (hs : SRel w0 St0 Q nt w St β a s) (live : List (Nat × LK)) :
    ∃ St' β', SRel w0 St0 Q nt w St' β' a (canonS live s) ∧ ∀ id, (canonS live s).nx ≤ id → β' id = none := by
  obtain ⟨St1, h0⟩ := shareAll_sound live hs
  obtain ⟨β1, h1, h2⟩ := canon0_sound h0 live
  exact ⟨St1, fixAll_sound live h1 h2⟩

/-- The end: what the function hands back. -/
def Fin (P : Program) (w0 : World) (St0 : Stb) (fn : Func) (rvs : List RV) (a : Act) (w : World) : Prop :=
  a.defers = [] ∧ ∃ (cs : List Value) (obs : List (Option Nat)) (St' : Stb), (results fn a.tmps).run P w = .ok (wrapV cs) w ∧ Below w0.heap.size w0 w ∧ (∀ b o, St0 b o → St' b o) ∧ (∀ b o, St' b o → St0 b o ∨ w0.heap.size ≤ b) ∧ StOK w St' ∧
    RelRVs w St' w0.heap.size cs rvs obs ∧ (∀ (i j : Nat) (b : Nat), obs[i]? = some (some b) → obs[j]? = some (some b) → i = j)

theorem fin_sound (hti : ∀ t i, E.ti t = some i → TIok E.P t i) {w : World} {St : Stb} {β : Bet} {a : Act} {s : S} (hs : SRel w0 St0 Q nt w St β a s) {fn : Func} {res : List ResultVar} {rts : List RT} (hres : fn.results.toList = res) {rvs : List RV}
    (h : finR E s res rts [] [] = some rvs) : Fin E.P w0 St0 fn rvs a w := by
  obtain ⟨_, _, h3, h4⟩ := finR_ids E s res rts [] [] rvs h
  obtain ⟨cs, obs, hrun, hrel, _, hdist⟩ := finR_rel hti hs (ids := dIds E s res rts) res rts [] [] rvs h (fun _ h => h) h3 h4
  refine ⟨hs.df, cs, obs, stF β (getM s.mem) St (dIds E s res rts), ?_, hs.below, fun b o h => .inl (hs.keep.ext b o h).1, fun b o h => ?_, fun b o h => ?_, hrel, hdist⟩
  · subst hres
    unfold results
    rw [Array.mapM_eq_mapM_toList]
    simp only [Sem.run_bind, Sem.run_map]
    have key : ∀ r0 : Result (List Value), r0 = .ok cs w → ((r0.andThen fun a w' => Result.ok a.toArray w').andThen fun a w' => Sem.run E.P (pure (if h : a.size = 1 then a[0] else Value.tuple a)) w') = Result.ok (wrapV cs) w := by
      intro r0 h0
      subst h0
      simp only [Result.andThen_ok, Sem.run_pure]
      congr 1
      match cs with
      | [] => rfl
      | [c] => rfl
      | _ :: _ :: _ => rfl
    exact key _ hrun
  · rcases frz_new hs.mem _ b o h with h | h
    · exact hs.stn b o h
    · exact .inr h
  · rcases h with h | ⟨id, _, r0, loc, hm, hb, hlb, _⟩
    · exact hs.st b o h
    · obtain ⟨loc', n, hb', hat, _⟩ := hs.mem.row _ _ hm
      rw [hb] at hb'; cases hb'
      exact hat.lt hlb

end
end Go.Proofs.YtokecnkjgoghhaaDoor.Ab
end
section
/- The machine's run of a function is Go's: what the machine answers is the function's contract. -/
set_option linter.unusedVariables false
set_option linter.unusedSimpArgs false
namespace Go.Proofs.YtokecnkjgoghhaaDoor.Ab
open Go Go.RowKit

/-- From this place on the function comes to its end, and what it hands back is as told. -/
def TW (P : Program) (todo : List Item) (a : Act) (w : World) (F : Act → World → Prop) : Prop :=
  ∀ (b : Frame) (cs : List Frame), ∃ a' w' todo', F a' w' ∧ Steps P (lone (b.at a todo) cs w) (lone { b.at a' todo' with mode := .returning } cs w')

section
variable {P : Program}

theorem TW.head {todo todo' : List Item} {a : Act} {w : World} {F : Act → World → Prop} (h : ∀ (b : Frame) (cs : List Frame), step P (lone (b.at a todo) cs w) = .next (lone (b.at a todo') cs w)) (h' : TW P todo' a w F) : TW P todo a w F :=
  fun b cs => let ⟨a', w', t, hf, hs⟩ := h' b cs; ⟨a', w', t, hf, .head (h b cs) hs⟩

theorem TW.region {id : Nat} {ops : Array Oper} {draw : Bool} {k : List Item} {a : Act} {w : World} {F : Act → World → Prop} {I : Act → World → Prop} (h : (Code.region id ops draw).wp P (fun e a' w' => e = .normal ∧ I a' w') a w)
    (hk : ∀ a' w', I a' w' → TW P k a' w' F) : TW P (.code (.region id ops draw) :: k) a w F := by
  intro b cs
  obtain ⟨e, a1, w1, ⟨rfl, hi⟩, harr⟩ := h b k cs
  obtain ⟨a', w', t, hf, hs⟩ := hk a1 w1 hi b cs
  exact ⟨a', w', t, hf, Steps.trans harr hs⟩
end

section
variable {R : Type} {r : R} {E : Env} {G : World → Prop} {w0 : World} {St0 Q : Stb} {nt : Nat}

theorem SRel.drew {w : World} {St : Stb} {β : Bet} {a : Act} {s : S} (h : SRel w0 St0 Q nt w St β a s) : SRel w0 St0 Q nt { w with drawn := w.drawn + 1 } St β a s := by
  have hk : Keep w St β Q { w with drawn := w.drawn + 1 } St β := ⟨fun _ _ h => ⟨h, rfl⟩, fun _ _ _ => rfl, fun _ _ h => h⟩
  exact ⟨h.below.trans ⟨rfl, rfl, rfl, Nat.le_refl _, fun _ _ => rfl⟩, h.keep.trans hk, h.stn, h.st, h.mem.mono hk (fun _ _ => rfl) (fun _ _ h => .inl h), fun t => RelF.mono hk (h.fr t), h.sz, h.df⟩

theorem region_sound (hti : ∀ t i, E.ti t = some i → TIok E.P t i) (hcall : ∀ f args rvs, E.call f args = some rvs → CallOK E.P G f args rvs) (hent : ∀ f args rvs, E.call f args = some rvs → Enterable E.P f)
    (hG : ∀ w, Below w0.heap.size w0 w → G w) (hqb : ∀ b o, Q b o → b < w0.heap.size) (hmix : E.P.follows .mixedOrders = true) {id : Nat} {ops : Array Oper} {draw : Bool} {K : S → Option R} {w : World} {St : Stb} {β : Bet} {a : Act} {s : S}
    (hs : SRel w0 St0 Q nt w St β a s) (hn : ∀ id, s.nx ≤ id → β id = none)
    (h : (bif draw then
            (let M := masks ops.toList []
            let wl := wlOf s.fr ops.toList
            bif drawOk ops M then opsK E (ckD s.nx ops M wl) nt s.nx ops (vwD s.nx ops M wl) (rangeL 0 ops.size) s K else none)
          else opsK E (fun _ _ _ => false) nt s.nx ops (fun _ mem => getM mem) (rangeL 0 ops.size) s K) = some r) :
    (Code.region id ops draw).wp E.P (fun e a' w' => e = .normal ∧ ∃ s' St' β', SRel w0 St0 Q nt w' St' β' a' s' ∧ K s' = some r ∧ ∀ id, s.nx + 4 * ops.size ≤ id → β' id = none) a w := by
  cases draw with
  | false =>
    simp only [cond_false] at h
    refine wp_region ?_
    have := seq_sound hti hcall hent hG hqb ops.size 0 s w St β a hs (fun id hid => hn id (by omega)) h
    rw [Nat.zero_add, ← List.range_eq_range'] at this
    exact this
  | true =>
    simp only [cond_true] at h
    cases hok : drawOk ops (masks ops.toList []) with
    | false => rw [hok] at h; cases h
    | true =>
      rw [hok] at h
      simp only [cond_true] at h
      obtain ⟨tr, htr, hK⟩ := trace hti hcall hent ops.size 0 s h
      refine wp_region_any hmix ?_
      have hD : stD ops s.nx s tr (fun i => (Array.replicate ops.size false).getD i true = true) ops.size = s := by
        have h1 : stD ops s.nx s tr (fun i => (Array.replicate ops.size false).getD i true = true) ops.size = stD ops s.nx s tr (fun _ => False) ops.size := stD_congr _ (fun i hi => ⟨fun h => by simp [hi] at h, fun h => h.elim⟩)
        rw [h1]
        have : ∀ k, stD ops s.nx s tr (fun _ => False) k = s := by
          intro k
          induction k with
          | zero => rfl
          | succ k ih => rw [stD_neg (fun h => h)]; exact ih
        exact this _
      refine draw_any (s0 := s) (base := s.nx) (tr := tr) (wl := wlOf s.fr ops.toList) hG hqb hok (fun i hi => ?_) (by rw [← stF'_stD]; exact hK) ops.size _ a _ St β (by simp) (fun i o hi ho => ?_) (by rw [hD]; exact hs.drew) (fun id hid hne => absurd (hn id hid) hne) ?_
      · obtain ⟨o, ho, hT⟩ := htr i hi
        rw [Nat.zero_add, stF'_stD] at hT
        rw [Nat.zero_add] at ho
        exact ⟨o, ho, hT⟩
      · have := (Array.getElem?_eq_some_iff.1 ho).1
        simp [this] at hi
      · refine Nat.le_trans List.countP_le_length ?_
        simp

theorem run_sound (hti : ∀ t i, E.ti t = some i → TIok E.P t i) (hcall : ∀ f args rvs, E.call f args = some rvs → CallOK E.P G f args rvs) (hent : ∀ f args rvs, E.call f args = some rvs → Enterable E.P f)
    (hG : ∀ w, Below w0.heap.size w0 w → G w) (hqb : ∀ b o, Q b o → b < w0.heap.size) (hmix : E.P.follows .mixedOrders = true) {fn : Func} {N : Note} (hres : fn.results.toList = N.res) {cutQ : List Item → S → Option (List RV)}
    (hcut : ∀ todo s rvs, cutQ todo s = some rvs → ∀ w St β a, SRel w0 St0 Q N.nt w St β a s → (∀ id, s.nx ≤ id → β id = none) → TW E.P todo a w (Fin E.P w0 St0 fn rvs)) :
    ∀ (n : Nat) (ex : Bool) (todo : List Item) (s : S) (rvs : List RV), run E N cutQ n ex todo s = some rvs → ∀ w St β a, SRel w0 St0 Q N.nt w St β a s → (∀ id, s.nx ≤ id → β id = none) → TW E.P todo a w (Fin E.P w0 St0 fn rvs)
  | 0, _, _, _, _, h, _, _, _, _, _, _ => by simp [run] at h
  | n + 1, ex, todo, s, rvs, h, w, St, β, a, hs, hn => by
    have ih := run_sound hti hcall hent hG hqb hmix hres hcut n
    have loop : ∀ (b : Code) (k : List Item), (match firstReg b with | some id => (match lookN N.loops id with | some live => cutQ (.code b :: .inLoop b :: k) (canonS live s) | none => none) | none => none) = some rvs →
        TW E.P (.code b :: .inLoop b :: k) a w (Fin E.P w0 St0 fn rvs) := by
      intro b k h
      split at h
      · split at h
        · rename_i live _
          obtain ⟨St', β', h1, h2⟩ := canon_sound hs live
          exact hcut _ _ _ h w St' β' a h1 h2
        · cases h
      · cases h
    unfold run at h
    split at h
    · intro b cs
      exact ⟨a, w, _, fin_sound hti hs hres h, .one step_end⟩
    · rename_i c k
      split at h
      · exact TW.head (fun b cs => step_skip) (ih _ _ _ _ h w St β a hs hn)
      · exact TW.head (fun b cs => step_label) (ih _ _ _ _ h w St β a hs hn)
      · rename_i id ops draw
        split at h
        · rename_i live _
          obtain ⟨St', β', h1, h2⟩ := canon_sound hs live
          exact hcut _ _ _ h w St' β' a h1 h2
        · refine TW.region (region_sound hti hcall hent hG hqb hmix hs hn h) ?_
          rintro a' w' ⟨s', St', β', h1, h2, h3⟩
          exact ih _ _ _ _ h2 w' St' β' a' (h1.congr (fun _ => rfl) (fun _ => rfl)) h3
      · exact TW.head (fun b cs => step_seq) (ih _ _ _ _ h w St β a hs hn)
      · rename_i cnd x y
        simp only [ifs] at h
        split at h
        · rename_i t ht
          have he := hs.eval cnd
          rw [ht] at he
          obtain ⟨e, _⟩ := rel_sc he
          split at h
          · rename_i htt
            subst htt
            exact TW.head (fun b cs => by rw [step_cond e]; rfl) (ih _ _ _ _ h w St β a hs hn)
          · rename_i htt
            obtain rfl : t = false := by simpa using htt
            exact TW.head (fun b cs => by rw [step_cond e]; rfl) (ih _ _ _ _ h w St β a hs hn)
        · cases h
      · exact TW.head (fun b cs => step_block) (ih _ _ _ _ h w St β a hs hn)
      · rename_i b
        exact TW.head (fun _ cs => step_loop) (loop b k h)
      · rename_i id
        split at h
        · rename_i k' hk
          exact TW.head (fun b cs => step_exit hk) (ih _ _ _ _ h w St β a hs hn)
        · cases h
      · intro b cs
        exact ⟨a, w, _, fin_sound hti hs hres h, .one step_ret⟩
      · cases h
    · exact TW.head (fun b cs => step_inBlock) (ih _ _ _ _ h w St β a hs hn)
    · rename_i b k
      exact TW.head (fun _ cs => step_inLoop) (loop b k h)
    · cases h
end

/-- What is asked of the tables: they tell the truth of the program. -/
structure WdOK (W : Wd) (G : World → Prop) : Prop where
  ti : ∀ t i, W.ti t = some i → TIok W.P t i
  fns : ∀ f c N, W.fns f = some (c, N) → ∃ fn, W.P.funcs[f]? = some fn ∧ fn.body = some c ∧ N.nt ≤ fn.ntmps ∧ fn.results.toList = N.res ∧ (fn.name == "runtime.NumGoroutine") = false
  ext : ∀ f g args rvs, W.ext f = some g → g args = some rvs → CallOK W.P G f args rvs ∧ Enterable W.P f
  mixed : W.P.follows .mixedOrders = true
  keep : ∀ w w' : World, G w → Below w.heap.size w w' → G w'

theorem initS_rel {w : World} {St Q : Stb} : ∀ (args : List A) (i : Nat) (cs : List Value) (val : Nat → Value), All2 (RelA w St Q noBet) cs args → (∀ q c, cs[q]? = some c → val (i + q) = c) → AllFr w St Q noBet val (initS i args)
  | [], _, _, _, _, _ => fun p hp => by cases hp
  | x :: args, i, [], _, h, _ => h.elim
  | x :: args, i, c :: cs, val, ⟨h1, h2⟩, hv => fun p hp => by
    rcases List.mem_cons.1 hp with rfl | hp
    · have := hv 0 c rfl
      rw [Nat.add_zero] at this
      show RelF w St Q noBet (val i) (.a x)
      rw [this]; exact h1
    · exact initS_rel args (i + 1) cs val h2 (fun q c hq => by rw [show i + 1 + q = i + (q + 1) by omega]; exact hv (q + 1) c (by simpa using hq)) p hp

section
variable {W : Wd} {G : World → Prop}

/-- Good rounds. -/
def CutOK (W : Wd) (G : World → Prop) (cut : Note → List Item → S → Option (List RV)) : Prop :=
  ∀ (N : Note) (todo : List Item) (s : S) (rvs : List RV), cut N todo s = some rvs → ∀ (fn : Func), fn.results.toList = N.res → ∀ (w0 : World) (St0 Q : Stb), (∀ w, Below w0.heap.size w0 w → G w) → (∀ b o, Q b o → b < w0.heap.size) →
    ∀ w St β a, SRel w0 St0 Q N.nt w St β a s → (∀ id, s.nx ≤ id → β id = none) → TW W.P todo a w (Fin W.P w0 St0 fn rvs)

theorem cutStep_ok (hW : WdOK W G) {call : FuncId → List A → Option (List RV)} (hcall : ∀ f args rvs, call f args = some rvs → CallOK W.P G f args rvs ∧ Enterable W.P f) {cut : Note → List Item → S → Option (List RV)} (hcut : CutOK W G cut) :
    CutOK W G (cutStep W call cut) := by
  intro N todo s rvs h fn hres w0 St0 Q hG hqb w St β a hs hn
  exact run_sound (E := envOf W call) hW.ti (fun f args rvs h => (hcall f args rvs h).1) (fun f args rvs h => (hcall f args rvs h).2) hG hqb hW.mixed hres (fun todo s rvs h w St β a hs hn => hcut N todo s rvs h fn hres w0 St0 Q hG hqb w St β a hs hn)
    big true todo s rvs h w St β a hs hn

theorem callStep_ok (hW : WdOK W G) {call : FuncId → List A → Option (List RV)} (hcall : ∀ f args rvs, call f args = some rvs → CallOK W.P G f args rvs ∧ Enterable W.P f) {cut : Note → List Item → S → Option (List RV)} (hcut : CutOK W G cut)
    {f : FuncId} {args : List A} {rvs : List RV} (h : callStep W call cut f args = some rvs) : CallOK W.P G f args rvs ∧ Enterable W.P f := by
  unfold callStep at h
  split at h
  · rename_i g hg
    exact hW.ext f g args rvs hg h
  · split at h
    · rename_i c N hf
      obtain ⟨fn, hfn, hb, hnt, hres, hname⟩ := hW.fns f c N hf
      refine ⟨?_, fn, hfn, by rw [hb]; rfl, hname⟩
      intro w St Q cargs hGw hst hqb hargs
      have hsz : cargs.size = args.length := by simpa using All2.length _ _ hargs
      let act : Act := { tmps := cargs ++ Array.replicate (fn.ntmps - cargs.size) undef, defers := [] }
      have hs : SRel w St Q N.nt w St noBet act { fr := initS 0 args, mem := [], nx := 0 } := by
        refine ⟨Below.refl _ _, Keep.refl _ _ _ _, fun _ _ h => .inl h, hst, ⟨(fun id r h => by cases id <;> cases h), (fun id _ _ _ _ _ _ h => by cases id <;> cases h)⟩, ?_, ?_, rfl⟩
        · refine getF_rel (initS_rel args 0 cargs.toList (fun t => act.tmps.getD t undef) hargs fun q c hq => ?_)
          have hlt : q < cargs.size := by have := (List.getElem?_eq_some_iff.1 hq).1; simpa using this
          have hq' : cargs[q]? = some c := by simpa using hq
          simp only [Nat.zero_add, act, Array.getD_eq_getD_getElem?]
          rw [Array.getElem?_append_left hlt, hq']
          rfl
        · simp only [act, Array.size_append, Array.size_replicate]; omega
      have hTW := cutStep_ok hW hcall hcut N [.code c] _ rvs h fn hres w St Q (fun w' hb => hW.keep w w' hGw hb) hqb w St noBet act hs (fun _ _ => rfl)
      intro cs
      let b : Frame := { (default : Frame) with fn := f, kind := .normal }
      have henter : Frame.enter W.P f cargs .normal = b.at act [.code c] := by
        simp [Frame.enter, Frame.at, hfn, hb, b, act]
      obtain ⟨a', w', todo', ⟨hd, vs, obs, St', hrun, hrest⟩, hsteps⟩ := hTW b cs
      rw [← henter] at hsteps
      exact ⟨.returned (wrapV vs), w', _, ⟨vs, obs, St', rfl, hrest⟩, hsteps, rfl, rfl, hd, rfl, fn, hfn, hrun⟩
    · cases h

theorem rounds_ok (hW : WdOK W G) : ∀ k, (∀ f args rvs, callN W k f args = some rvs → CallOK W.P G f args rvs ∧ Enterable W.P f) ∧ CutOK W G (cutN W k)
  | 0 => ⟨fun f args rvs h => by simp [callN] at h, fun N todo s rvs h => by simp [cutN] at h⟩
  | k + 1 => by
    obtain ⟨h1, h2⟩ := rounds_ok hW k
    refine ⟨fun f args rvs h => ?_, fun N todo s rvs h => ?_⟩
    · rw [callN] at h; exact callStep_ok hW h1 h2 h
    · rw [cutN] at h; exact cutStep_ok hW h1 h2 N todo s rvs h

theorem limO_some {α : Type} {g : Nat → Option α} {r : α} (h : limO g = some r) : ∃ k, g k = some r := by
  unfold limO at h
  split at h
  · rename_i hx
    cases h
    exact hx.choose_spec
  · cases h

/-- ████ What the machine answers is the function's contract. ████ -/
theorem callW_ok (hW : WdOK W G) {f : FuncId} {args : List A} {rvs : List RV} (h : callW W f args = some rvs) : CallOK W.P G f args rvs :=
  let ⟨k, hk⟩ := limO_some h
  ((rounds_ok hW k).1 f args rvs hk).1

end
end Go.Proofs.YtokecnkjgoghhaaDoor.Ab
end
section
/- The machine's limit over all bounds on the rounds answers as one round more does. -/
set_option linter.unusedVariables false
set_option linter.unusedSimpArgs false
namespace Go.Proofs.YtokecnkjgoghhaaDoor.Ab
open Go Go.RowKit

section
variable {R : Type} {E : Env}

theorem ob {α β : Type} (o : Option α) (f : α → Option R) (g : α → Option β) (K : β → Option R) (h : ∀ d, f d = (g d).bind K) : o.bind f = (o.bind g).bind K := by
  cases o with
  | none => rfl
  | some d => exact h d

theorem binK_bind (op : BinOp) (t : TypeId) (x y : F) (K : Out → Option R) : binK E op t x y K = (binK E op t x y some).bind K := by
  unfold binK
  simp only [ifs]
  split
  · split
    · split
      · split <;> rfl
      · rfl
    · split
      · split <;> rfl
      · rfl
    · split <;> rfl
    · split <;> rfl
    · split <;> rfl
    · cases (basic _ && basic _) with
      | false => rfl
      | true =>
        simp only [cond_true]
        split
        · cases plain _ <;> rfl
        · rfl
  · rfl
theorem unK_bind (op : UnOp) (x : F) (K : Out → Option R) : unK E op x K = (unK E op x some).bind K := by
  unfold unK
  split
  · split
    · cases plain _ <;> rfl
    · rfl
  · rfl
theorem convK_bind (s d : TypeId) (x : F) (K : Out → Option R) : convK E s d x K = (convK E s d x some).bind K := by
  unfold convK
  split
  · split <;> rfl
  · rfl
theorem partK_bind (cs : List C) (j : Nat) (i : TI) (K : Out → Option R) : partK cs j i K = (partK cs j i some).bind K := by
  unfold partK
  cases Nat.ble _ _ with
  | false => rfl
  | true => simp only [cond_true]; split <;> rfl
theorem loadK_bind (m : Nat → Option Row) (p : Pt) (i : TI) (K : Out → Option R) : loadK m p i K = (loadK m p i some).bind K := by
  unfold loadK
  split
  · split
    · split
      · exact partK_bind ..
      · rfl
    · exact ob _ _ _ _ fun d => partK_bind ..
    · rfl
  · exact partK_bind ..
theorem storeK_bind (m : Nat → Option Row) (p : Pt) (i : TI) (x : A) (K : Out → Option R) : storeK m p i x K = (storeK m p i x some).bind K := by
  unfold storeK
  split
  · split
    · split
      · cases (_ && _ && _ : Bool) <;> rfl
      · rfl
    · split
      · refine ob _ _ _ _ fun d => ?_
        cases (_ && _ && _ && _ : Bool) with
        | false => rfl
        | true => simp only [cond_true]; split <;> rfl
      · rfl
    · rfl
  · rfl
theorem sliceK_bind (m : Nat → Option Row) (t : TypeId) (x : F) (lo hi mx : Option F) (K : Out → Option R) : sliceK E m t x lo hi mx K = (sliceK E m t x lo hi mx some).bind K := by
  unfold sliceK
  simp only [ifs]
  split
  · split
    · cases loF lo with
      | none => rfl
      | some l => simp only [Option.bind_some]; cases hiF _ hi with
        | none => rfl
        | some h => simp only [Option.bind_some]; split
                    · split <;> rfl
                    · rfl
    · split
      · split
        · cases Nat.beq _ _ with
          | false => rfl
          | true => simp only [cond_true]; cases loF lo with
            | none => rfl
            | some l => simp only [Option.bind_some]; cases hiF _ hi with
              | none => rfl
              | some h => simp only [Option.bind_some]; split
                          · split <;> rfl
                          · rfl
        · split
          · cases Nat.beq _ _ with
            | false => rfl
            | true =>
              simp only [cond_true]
              split
              · cases hiF _ hi with
                | none => rfl
                | some h => simp only [Option.bind_some]; split <;> rfl
              · cases intF _ with
                | none => rfl
                | some l => simp only [Option.bind_some]; cases hiF _ hi with
                  | none => rfl
                  | some h => simp only [Option.bind_some]; split
                              · split <;> rfl
                              · rfl
          · rfl
        · rfl
      · rfl
    · rfl
  · rfl
theorem fieldK_bind (t : TypeId) (x : F) (f : Nat) (K : Out → Option R) : fieldK E t x f K = (fieldK E t x f some).bind K := by
  unfold fieldK
  split
  · split
    · split
      · split
        · exact partK_bind ..
        · rfl
      · rfl
    · rfl
  · rfl
theorem fieldAddrK_bind (t : TypeId) (x : F) (f : Nat) (K : Out → Option R) : fieldAddrK E t x f K = (fieldAddrK E t x f some).bind K := by
  unfold fieldAddrK
  split
  · split
    · split
      · split
        · cases Nat.blt _ _ <;> rfl
        · rfl
      · rfl
    · rfl
  · rfl
theorem indexAddrK_bind (m : Nat → Option Row) (t : TypeId) (x ix : F) (K : Out → Option R) : indexAddrK E m t x ix K = (indexAddrK E m t x ix some).bind K := by
  unfold indexAddrK
  simp only [ifs]
  split
  · split
    · split
      · split
        · cases Nat.beq _ _ with
          | false => rfl
          | true =>
            simp only [cond_true]
            split
            · exact ob _ _ _ _ fun d => rfl
            · rfl
        · split
          · cases Nat.beq _ _ with
            | false => rfl
            | true => simp only [cond_true]; split <;> rfl
          · rfl
        · rfl
      · rfl
    · split
      · split <;> rfl
      · rfl
    · rfl
  · rfl
theorem indexK_bind (t : TypeId) (x ix : F) (K : Out → Option R) : indexK E t x ix K = (indexK E t x ix some).bind K := by
  unfold indexK
  simp only [ifs]
  split
  · split
    · split
      · exact ob _ _ _ _ fun d => rfl
      · rfl
    · split
      · split
        · exact partK_bind ..
        · rfl
      · rfl
    · rfl
  · rfl
theorem makeSliceK_bind (new : Nat) (t : TypeId) (l c : F) (K : Out → Option R) : makeSliceK E new t l c K = (makeSliceK E new t l c some).bind K := by
  unfold makeSliceK
  simp only [ifs]
  split
  · split
    · split
      · split
        · split
          · cases (_ && _ && _ && _ : Bool) with
            | false => rfl
            | true => simp only [cond_true]; split <;> rfl
          · rfl
        · rfl
      · rfl
    · rfl
  · rfl
theorem appendK_bind (m : Nat → Option Row) (new : Nat) (t t2 : TypeId) (x y : F) (K : Out → Option R) : appendK E m new t t2 x y K = (appendK E m new t t2 x y some).bind K := by
  unfold appendK
  simp only [ifs]
  split
  · split
    · split
      · split
        · cases (_ && _ && _ && _ && _ : Bool) with
          | false => rfl
          | true =>
            simp only [cond_true]
            split
            · split
              · split <;> rfl
              · split
                · split
                  · cases Nat.beq _ _ with
                    | false => rfl
                    | true =>
                      simp only [cond_true]
                      split
                      · split <;> rfl
                      · rfl
                  · rfl
                · rfl
              · rfl
            · rfl
        · rfl
      · rfl
    · rfl
  · rfl
theorem lenK_bind (t : TypeId) (x : F) (K : Out → Option R) : lenK E t x K = (lenK E t x some).bind K := by
  unfold lenK
  split
  · split <;> rfl
  · rfl
theorem callK_bind (m : Nat → Option Row) (new : Nat) (f : FuncId) (args : List F) (K : OutM → Option R) : callK E m new f args K = (callK E m new f args some).bind K := by
  unfold callK
  split
  · cases Nat.ble _ _ with
    | false => rfl
    | true =>
      simp only [cond_true]
      split
      · exact ob _ _ _ _ fun d => rfl
      · rfl
  · rfl

theorem many_bind (g : (Out → Option OutM) → Option OutM) (o : Option Out) (h : g (fun o => some o.many) = o.bind fun o => some o.many) (K : OutM → Option R) : (o.bind fun o => K o.many) = (g fun o => some o.many).bind K := by
  rw [h]; cases o <;> rfl

theorem aopK_bind (m : Nat → Option Row) (new : Nat) (ρ : Operand → F) (o : Op) (K : OutM → Option R) : aopK E m new ρ o K = (aopK E m new ρ o some).bind K := by
  cases o with
  | move x => rfl
  | assign x => rfl
  | pick c a b =>
    simp only [aopK, ifs]
    split
    · split <;> rfl
    · rfl
  | alloc t =>
    simp only [aopK]
    split
    · cases cellsOk _ <;> rfl
    · rfl
  | box t x =>
    simp only [aopK]
    split
    · cases (_ && _ : Bool) <;> rfl
    · rfl
  | build t parts =>
    simp only [aopK]
    split
    · split
      · split
        · split <;> rfl
        · rfl
      · rfl
    · rfl
  | buildSlice t len parts =>
    simp only [aopK]
    split
    · split
      · split
        · split
          · cases (_ && _ && _ && _ : Bool) with
            | false => rfl
            | true => simp only [cond_true]; split <;> rfl
          · rfl
        · rfl
      · rfl
    · rfl
  | load t a =>
    simp only [aopK]
    split
    · rw [loadK_bind, loadK_bind (K := fun o => some o.many)]; cases loadK _ _ _ some <;> rfl
    · rfl
  | store t a x =>
    simp only [aopK]
    split
    · rw [storeK_bind, storeK_bind (K := fun o => some o.many)]; cases storeK _ _ _ _ some <;> rfl
    · rfl
  | nilCheck x =>
    simp only [aopK]
    split <;> rfl
  | binOp op t x y yt => simp only [aopK]; rw [binK_bind, binK_bind (K := fun o => some o.many)]; cases binK E op t _ _ some <;> rfl
  | unOp op t x => simp only [aopK]; rw [unK_bind, unK_bind (K := fun o => some o.many)]; cases unK E op _ some <;> rfl
  | convert s d x => simp only [aopK]; rw [convK_bind, convK_bind (K := fun o => some o.many)]; cases convK E s d _ some <;> rfl
  | makeFunc fn first caps =>
    cases fn with
    | func f =>
      simp only [aopK]
      cases first.isEmpty with
      | false => rfl
      | true => simp only [cond_true]; split <;> rfl
    | _ => rfl
  | makeSlice t l c => simp only [aopK]; rw [makeSliceK_bind, makeSliceK_bind (K := fun o => some o.many)]; cases makeSliceK E new t _ _ some <;> rfl
  | slice t x lo hi mx => simp only [aopK]; rw [sliceK_bind, sliceK_bind (K := fun o => some o.many)]; cases sliceK E m t _ _ _ _ some <;> rfl
  | fieldAddr s x f => simp only [aopK]; rw [fieldAddrK_bind, fieldAddrK_bind (K := fun o => some o.many)]; cases fieldAddrK E s _ f some <;> rfl
  | field t x f => simp only [aopK]; rw [fieldK_bind, fieldK_bind (K := fun o => some o.many)]; cases fieldK E t _ f some <;> rfl
  | indexAddr t x ix => simp only [aopK]; rw [indexAddrK_bind, indexAddrK_bind (K := fun o => some o.many)]; cases indexAddrK E m t _ _ some <;> rfl
  | index t x ix => simp only [aopK]; rw [indexK_bind, indexK_bind (K := fun o => some o.many)]; cases indexK E t _ _ some <;> rfl
  | extract t ix =>
    simp only [aopK]
    split
    · split <;> rfl
    · rfl
  | call c =>
    simp only [aopK]
    split
    · split
      · rw [lenK_bind, lenK_bind (K := fun o => some o.many)]; cases lenK E _ _ some <;> rfl
      · rw [appendK_bind, appendK_bind (K := fun o => some o.many)]; cases appendK E m new _ _ _ _ some <;> rfl
      · split <;> rfl
      · split <;> rfl
      · rfl
    · split
      · exact callK_bind ..
      · rfl
    · rfl
  | _ => rfl
end

section
variable {R : Type} {r : R} {W : Wd}

/-- From some number of rounds on. -/
def Evt (p : Nat → Prop) : Prop := ∃ k0, ∀ k, k0 ≤ k → p k

theorem Evt.and {p q : Nat → Prop} (h : Evt p) (h' : Evt q) : Evt fun k => p k ∧ q k :=
  let ⟨a, ha⟩ := h; let ⟨b, hb⟩ := h'; ⟨max a b, fun k hk => ⟨ha k (by omega), hb k (by omega)⟩⟩

/-- What one way of calling answers, the others do from some number on. -/
def Goes {α β : Type} (c : α → Option β) (d : Nat → α → Option β) : Prop := ∀ x y, c x = some y → Evt fun k => d k x = some y

theorem placesOf_env (c c' : FuncId → List A → Option (List RV)) : ∀ fs, placesOf (envOf W c) fs = placesOf (envOf W c') fs
  | [] => rfl
  | f :: fs => by simp only [placesOf, placesOf_env c c' fs]; rfl

theorem finR_env (c c' : FuncId → List A → Option (List RV)) (s : S) : ∀ vs rs out seen, finR (envOf W c) s vs rs out seen = finR (envOf W c') s vs rs out seen
  | [], [], _, _ => rfl
  | [], _ :: _, _, _ => rfl
  | _ :: _, [], _, _ => rfl
  | v :: vs, r :: rs, out, seen => by
    have e : resA (envOf W c) s v = resA (envOf W c') s v := by cases v <;> rfl
    simp only [finR, e, finR_env c c' s vs]

theorem aop_goes {c : FuncId → List A → Option (List RV)} {d : Nat → FuncId → List A → Option (List RV)} (hc : ∀ f as rvs, c f as = some rvs → Evt fun k => d k f as = some rvs) {m : Nat → Option Row} {new : Nat} {ρ : Operand → F} {o : Op} {out : OutM}
    (h : aopK (envOf W c) m new ρ o some = some out) : Evt fun k => aopK (envOf W (d k)) m new ρ o some = some out := by
  by_cases hcall : ∃ cl g f ps, o = .call cl ∧ cl.callee = .value g ∧ ρ g = .a (.c (.cl f ps))
  · obtain ⟨⟨callee, args, argTypes⟩, g, f, ps, rfl, hcl, hg⟩ := hcall
    simp only at hcl
    subst hcl
    simp only [aopK, hg] at h ⊢
    unfold callK callT at h ⊢
    simp only [envOf] at h ⊢
    split at h
    · rename_i sg hsg
      cases hb : Nat.ble sg.rts.length 4 with
      | false => rw [hb] at h; cases h
      | true =>
        rw [hb] at h
        simp only [cond_true] at h
        split at h
        · rename_i as has
          cases hcc : c f as with
          | none => rw [hcc] at h; cases h
          | some rvs =>
            rw [hcc] at h
            obtain ⟨k0, hk⟩ := hc f as rvs hcc
            exact ⟨k0, fun k hk' => by simp only [cond_true, has, hk k hk']; exact h⟩
        · cases h
    · cases h
  · refine ⟨0, fun k _ => ?_⟩
    rw [← h]
    cases o with
    | call cl =>
      obtain ⟨callee, args, argTypes⟩ := cl
      cases callee with
      | value g =>
        simp only [aopK]
        split
        · rename_i f ps hg
          exact absurd ⟨_, g, f, ps, rfl, rfl, hg⟩ hcall
        · rfl
      | _ => rfl
    | build t parts => simp only [aopK, placesOf_env (d k) c]; rfl
    | makeFunc fn first caps => cases fn <;> rfl
    | _ => rfl

theorem ops_goes {c : FuncId → List A → Option (List RV)} {d : Nat → FuncId → List A → Option (List RV)} (hc : ∀ f as rvs, c f as = some rvs → Evt fun k => d k f as = some rvs) {ck : Nat → List (Option Row) → OutM → Bool} {nt base : Nat} {ops : Array Oper} {vw : Nat → List (Option Row) → Nat → Option Row} {K : S → Option R} {L : Nat → S → Option R}
    (hK : ∀ s, K s = some r → Evt fun k => L k s = some r) : ∀ (l : List Nat) (s : S), opsK (envOf W c) ck nt base ops vw l s K = some r → Evt fun k => opsK (envOf W (d k)) ck nt base ops vw l s (L k) = some r
  | [], s, h => hK s h
  | i :: l, s, h => by
    simp only [opsK, ifs] at h ⊢
    split at h
    · cases h
    · rename_i o ho
      cases hd : dstOk nt o.dst with
      | false => rw [hd] at h; cases h
      | true =>
        rw [hd] at h
        simp only [cond_true] at h ⊢
        have go : (aopK (envOf W c) (vw i s.mem) (base + 4 * i) (evalF s.fr) o.op fun out => bif ck i s.mem out then none else opsK (envOf W c) ck nt base ops vw l (applyOut s o.dst (base + 4 * i) out) K) = some r →
            Evt fun k => (aopK (envOf W (d k)) (vw i s.mem) (base + 4 * i) (evalF s.fr) o.op fun out => bif ck i s.mem out then none else opsK (envOf W (d k)) ck nt base ops vw l (applyOut s o.dst (base + 4 * i) out) (L k)) = some r := by
          intro h
          rw [aopK_bind] at h
          cases ha : aopK (envOf W c) (vw i s.mem) (base + 4 * i) (evalF s.fr) o.op some with
          | none => rw [ha] at h; cases h
          | some out =>
            rw [ha] at h
            simp only [Option.bind_some] at h
            cases hz : (ck i s.mem out) with
            | true => rw [hz] at h; cases h
            | false =>
              rw [hz] at h
              obtain ⟨k0, hk⟩ := (aop_goes hc ha).and (ops_goes hc hK l _ h)
              refine ⟨k0, fun k hk' => ?_⟩
              obtain ⟨h1, h2⟩ := hk k hk'
              rw [aopK_bind, h1]
              simp only [Option.bind_some, hz, cond_false]
              exact h2
        split at h
        · rename_i hg
          try simp only [hg]
          exact go h
        · rename_i j want hg
          try simp only [hg]
          split at h
          · rename_i oj hoj
            try simp only [hoj]
            split at h
            · rename_i dd hdd
              try simp only [hdd]
              split at h
              · rename_i b hb
                try simp only [hb]
                split at h
                · rename_i hbw
                  try simp only [hbw, if_true]
                  exact go h
                · rename_i hbw
                  try simp only [hbw, if_false]
                  exact ops_goes hc hK l _ h
              · rename_i hb
                try simp only [hb]
                exact ops_goes hc hK l _ h
              · cases h
            · cases h
          · cases h

theorem run_goes {c : FuncId → List A → Option (List RV)} {d : Nat → FuncId → List A → Option (List RV)} (hc : ∀ f as rvs, c f as = some rvs → Evt fun k => d k f as = some rvs) {N : Note} {cut : List Item → S → Option (List RV)} {cuts : Nat → List Item → S → Option (List RV)}
    (hcut : ∀ t s rvs, cut t s = some rvs → Evt fun k => cuts k t s = some rvs) : ∀ (n : Nat) (ex : Bool) (todo : List Item) (s : S) (rvs : List RV), run (envOf W c) N cut n ex todo s = some rvs → Evt fun k => run (envOf W (d k)) N (cuts k) n ex todo s = some rvs
  | 0, _, _, _, _, h => by simp [run] at h
  | n + 1, ex, todo, s, rvs, h => by
    have ih := run_goes (N := N) hc hcut n
    have loop : ∀ (b : Code) (k : List Item), (match firstReg b with | some id => (match lookN N.loops id with | some live => cut (.code b :: .inLoop b :: k) (canonS live s) | none => none) | none => none) = some rvs →
        Evt fun q => (match firstReg b with | some id => (match lookN N.loops id with | some live => cuts q (.code b :: .inLoop b :: k) (canonS live s) | none => none) | none => none) = some rvs := by
      intro b k h
      split at h
      · rename_i id hid
        split at h
        · rename_i live hl
          obtain ⟨k0, hk⟩ := hcut _ _ _ h
          exact ⟨k0, fun q hq => by try simp only [hl]
                                    exact hk q hq⟩
        · cases h
      · cases h
    unfold run at h ⊢
    split at h
    · exact ⟨0, fun k _ => (finR_env (d k) c s _ _ _ _).trans h⟩
    · rename_i c0 k
      split at h
      · exact ih _ _ _ _ h
      · exact ih _ _ _ _ h
      · rename_i id ops draw
        split at h
        · rename_i live hl
          obtain ⟨k0, hk⟩ := hcut _ _ _ h
          exact ⟨k0, fun q hq => by try simp only [hl]
                                    exact hk q hq⟩
        · rename_i hl
          try simp only [hl]
          cases draw with
          | false =>
            simp only [cond_false] at h ⊢
            exact ops_goes hc (fun s' h' => ih _ _ _ _ h') _ _ h
          | true =>
            simp only [cond_true] at h ⊢
            cases hok : drawOk ops (masks ops.toList []) with
            | false => rw [hok] at h; cases h
            | true =>
              rw [hok] at h
              simp only [cond_true] at h ⊢
              exact ops_goes hc (fun s' h' => ih _ _ _ _ h') _ _ h
      · exact ih _ _ _ _ h
      · rename_i cnd x y
        simp only [ifs] at h ⊢
        split at h
        · rename_i t ht
          try simp only [ht]
          split at h
          · rename_i htt
            try simp only [htt, if_true]
            exact ih _ _ _ _ h
          · rename_i htt
            try simp only [htt, if_false]
            exact ih _ _ _ _ h
        · cases h
      · exact ih _ _ _ _ h
      · rename_i b
        exact loop b k h
      · rename_i id
        split at h
        · rename_i k' hk
          try simp only [hk]
          exact ih _ _ _ _ h
        · cases h
      · exact ⟨0, fun k _ => (finR_env (d k) c s _ _ _ _).trans h⟩
      · cases h
    · exact ih _ _ _ _ h
    · rename_i b k
      exact loop b k h
    · cases h

theorem callStep_goes {c : FuncId → List A → Option (List RV)} {d : Nat → FuncId → List A → Option (List RV)} (hc : ∀ f as rvs, c f as = some rvs → Evt fun k => d k f as = some rvs) {cut : Note → List Item → S → Option (List RV)} {cuts : Nat → Note → List Item → S → Option (List RV)}
    (hcut : ∀ N t s rvs, cut N t s = some rvs → Evt fun k => cuts k N t s = some rvs) {f : FuncId} {args : List A} {rvs : List RV} (h : callStep W c cut f args = some rvs) : Evt fun k => callStep W (d k) (cuts k) f args = some rvs := by
  unfold callStep at h ⊢
  split at h
  · exact ⟨0, fun k _ => h⟩
  · split at h
    · exact run_goes hc (hcut _) _ _ _ _ _ h
    · cases h

theorem cutStep_goes {c : FuncId → List A → Option (List RV)} {d : Nat → FuncId → List A → Option (List RV)} (hc : ∀ f as rvs, c f as = some rvs → Evt fun k => d k f as = some rvs) {cut : Note → List Item → S → Option (List RV)} {cuts : Nat → Note → List Item → S → Option (List RV)}
    (hcut : ∀ N t s rvs, cut N t s = some rvs → Evt fun k => cuts k N t s = some rvs) {N : Note} {t : List Item} {s : S} {rvs : List RV} (h : cutStep W c cut N t s = some rvs) : Evt fun k => cutStep W (d k) (cuts k) N t s = some rvs :=
  run_goes hc (hcut N) _ _ _ _ _ h

theorem rounds_mono : ∀ k, (∀ f args rvs, callN W k f args = some rvs → callN W (k + 1) f args = some rvs) ∧ (∀ N t s rvs, cutN W k N t s = some rvs → cutN W (k + 1) N t s = some rvs)
  | 0 => ⟨fun f args rvs h => by simp [callN] at h, fun N t s rvs h => by simp [cutN] at h⟩
  | k + 1 => by
    obtain ⟨h1, h2⟩ := rounds_mono k
    refine ⟨fun f args rvs h => ?_, fun N t s rvs h => ?_⟩
    · rw [callN] at h ⊢
      obtain ⟨k0, hk⟩ := callStep_goes (d := fun _ => callN W (k + 1)) (cuts := fun _ => cutN W (k + 1)) (fun f as rvs h => ⟨0, fun _ _ => h1 f as rvs h⟩) (fun N t s rvs h => ⟨0, fun _ _ => h2 N t s rvs h⟩) h
      exact hk k0 (Nat.le_refl _)
    · rw [cutN] at h ⊢
      obtain ⟨k0, hk⟩ := cutStep_goes (d := fun _ => callN W (k + 1)) (cuts := fun _ => cutN W (k + 1)) (fun f as rvs h => ⟨0, fun _ _ => h1 f as rvs h⟩) (fun N t s rvs h => ⟨0, fun _ _ => h2 N t s rvs h⟩) h
      exact hk k0 (Nat.le_refl _)

theorem callN_le {k k' : Nat} (hk : k ≤ k') {f : FuncId} {args : List A} {rvs : List RV} (h : callN W k f args = some rvs) : callN W k' f args = some rvs := by
  induction hk with
  | refl => exact h
  | step _ ih => exact (rounds_mono _).1 _ _ _ ih
theorem cutN_le {k k' : Nat} (hk : k ≤ k') {N : Note} {t : List Item} {s : S} {rvs : List RV} (h : cutN W k N t s = some rvs) : cutN W k' N t s = some rvs := by
  induction hk with
  | refl => exact h
  | step _ ih => exact (rounds_mono _).2 _ _ _ _ ih

theorem callW_evt {f : FuncId} {args : List A} {rvs : List RV} (h : callW W f args = some rvs) : Evt fun k => callN W k f args = some rvs :=
  let ⟨k, hk⟩ := limO_some h; ⟨k, fun q hq => callN_le hq hk⟩
theorem cutW_evt {N : Note} {t : List Item} {s : S} {rvs : List RV} (h : cutW W N t s = some rvs) : Evt fun k => cutN W k N t s = some rvs :=
  let ⟨k, hk⟩ := limO_some h; ⟨k, fun q hq => cutN_le hq hk⟩

theorem limO_of {α : Type} {g : Nat → Option α} {r : α} (hm : ∀ k q x, k ≤ q → g k = some x → g q = some x) {k : Nat} (h : g k = some r) : limO g = some r := by
  unfold limO
  have hx : ∃ r k, g k = some r := ⟨r, k, h⟩
  rw [dif_pos hx]
  obtain ⟨q, hq⟩ := hx.choose_spec
  have h1 := hm q (max q k) _ (by omega) hq
  have h2 := hm k (max q k) _ (by omega) h
  rw [h1] at h2
  exact h2

/-- ████ One round more is no more: what the body answers over the limit, the limit answers. ████ -/
theorem callW_step {f : FuncId} {args : List A} {rvs : List RV} (h : callStep W (callW W) (cutW W) f args = some rvs) : callW W f args = some rvs := by
  obtain ⟨k, hk⟩ := callStep_goes (d := callN W) (cuts := cutN W) (fun f as rvs h => callW_evt h) (fun N t s rvs h => cutW_evt h) h
  refine limO_of (fun k q x hkq hx => callN_le hkq hx) (k := k + 1) ?_
  rw [callN]; exact hk k (Nat.le_refl _)

theorem cutW_step {N : Note} {t : List Item} {s : S} {rvs : List RV} (h : cutStep W (callW W) (cutW W) N t s = some rvs) : cutW W N t s = some rvs := by
  obtain ⟨k, hk⟩ := cutStep_goes (d := callN W) (cuts := cutN W) (fun f as rvs h => callW_evt h) (fun N t s rvs h => cutW_evt h) h
  refine limO_of (fun k q x hkq hx => cutN_le hkq hx) (k := k + 1) ?_
  rw [cutN]; exact hk k (Nat.le_refl _)

end
end Go.Proofs.YtokecnkjgoghhaaDoor.Ab
end
section
/- The machine with the tests remembered: a slot that was tested is not tested again. No condition. -/
set_option linter.unusedVariables false
set_option linter.unusedSimpArgs false
namespace Go.Proofs.YtokecnkjgoghhaaDoor.Ab
open Go Go.RowKit

abbrev Gd := List (Nat × Bool)

def dropG : Option Nat → Gd → Gd
  | none, g => g
  | some d, g => g.filter fun x => !Nat.beq x.1 d

def setG (dst : Option Nat) (v : Option Bool) (g : Gd) : Gd :=
  match v with
  | some b => match dst with
    | some d => (d, b) :: dropG (some d) g
    | none => g
  | none => dropG dst g

def beqB : Bool → Bool → Bool
  | true, b => b
  | false, b => !b

def valG (g : Gd) : Operand → Option Bool
  | .tmp t => lookN g t
  | _ => none

def cbool (b : Bool) : F := .a (.c (.sc (.bool b)))

/-! ### States brought to their form at once -/
section
variable {α : Type}

def fcB (b : Bool) (k : Bool → α) : α := match b with
  | true => k true
  | false => k false
def fcV (v : Value) (k : Value → α) : α := match v with
  | .int i n => k (.int i n)
  | .bool b => k (.bool b)
  | .string s => k (.string s)
  | .float i n => k (.float i n)
  | v => k v
def fcP (p : Pt) (k : Pt → α) : α := match p with
  | .own id i j => k (.own id i j)
  | .sh T d j => k (.sh T d j)
def fcL {β : Type} (f : β → (β → α) → α) : List β → (List β → α) → α
  | [], k => k []
  | x :: r, k => f x fun x' => fcL f r fun r' => k (x' :: r')
def fcO {β : Type} (f : β → (β → α) → α) (x : Option β) (k : Option β → α) : α := match x with
  | none => k none
  | some x => f x fun x' => k (some x')
def fcC (c : C) (k : C → α) : α := match c with
  | .sc v => fcV v fun v => k (.sc v)
  | .sl T xs => k (.sl T xs)
  | .nl => k .nl
  | .ow id len => k (.ow id len)
  | .pt p => fcP p fun p => k (.pt p)
  | .cl f caps => fcL fcP caps fun caps => k (.cl f caps)
  | .jk => k .jk
def fcA (x : A) (k : A → α) : α := match x with
  | .c x => fcC x fun x => k (.c x)
  | .ag cs => fcL fcC cs fun cs => k (.ag cs)
def fcF (x : F) (k : F → α) : α := match x with
  | .a x => fcA x fun x => k (.a x)
  | .tp xs => fcL fcA xs fun xs => k (.tp xs)
def fcRow (x : Row) (k : Row → α) : α := match x with
  | .box t T cs fz => fcO (fun T k => k T) T fun T => fcL fcC cs fun cs => fcB fz fun fz => k (.box t T cs fz)
  | .arr e T xs fz => fcB fz fun fz => k (.arr e T xs fz)
def fcGe (x : Nat × Bool) (k : Nat × Bool → α) : α := match x with
  | (d, b) => fcB b fun b => k (d, b)

theorem fcB_eq (b : Bool) (k : Bool → α) : fcB b k = k b := by cases b <;> rfl
theorem fcV_eq (v : Value) (k : Value → α) : fcV v k = k v := by cases v <;> rfl
theorem fcP_eq (v : Pt) (k : Pt → α) : fcP v k = k v := by cases v <;> rfl
theorem fcL_eq {β : Type} {f : β → (β → α) → α} (hf : ∀ x k, f x k = k x) : ∀ (l : List β) (k : List β → α), fcL f l k = k l
  | [], k => rfl
  | x :: r, k => by rw [fcL, hf, fcL_eq hf r]
theorem fcO_eq {β : Type} {f : β → (β → α) → α} (hf : ∀ x k, f x k = k x) (l : Option β) (k : Option β → α) : fcO f l k = k l := by
  cases l with
  | none => rfl
  | some x => rw [fcO, hf]
theorem fcC_eq (v : C) (k : C → α) : fcC v k = k v := by
  cases v with
  | sc v => rw [fcC, fcV_eq]
  | pt p => rw [fcC, fcP_eq]
  | cl f caps => rw [fcC, fcL_eq fcP_eq]
  | _ => rfl
theorem fcA_eq (v : A) (k : A → α) : fcA v k = k v := by
  cases v with
  | c x => rw [fcA, fcC_eq]
  | ag cs => rw [fcA, fcL_eq fcC_eq]
theorem fcF_eq (v : F) (k : F → α) : fcF v k = k v := by
  cases v with
  | a x => rw [fcF, fcA_eq]
  | tp xs => rw [fcF, fcL_eq fcA_eq]
theorem fcRow_eq (v : Row) (k : Row → α) : fcRow v k = k v := by
  cases v with
  | box t T cs fz => rw [fcRow, fcO_eq (fun _ _ => rfl), fcL_eq fcC_eq, fcB_eq]
  | arr e T xs fz => rw [fcRow, fcB_eq]
theorem fcGe_eq (v : Nat × Bool) (k : Nat × Bool → α) : fcGe v k = k v := by
  obtain ⟨d, b⟩ := v
  rw [fcGe, fcB_eq]

def fcId {β : Type} (x : β) (k : β → α) : α := k x
def fcFr (x : Nat × F) (k : Nat × F → α) : α := match x with
  | (t, v) => fcF v fun v => k (t, v)
theorem fcFr_eq (v : Nat × F) (k : Nat × F → α) : fcFr v k = k v := by
  obtain ⟨d, b⟩ := v
  rw [fcFr, fcF_eq]

def nilG : List (Nat × LK) → List (Nat × F) → List (Option Row) → (S → α) → α
  | [], fr, mem, k => k { fr := fr, mem := mem, nx := mem.length }
  | _ :: _, [], mem, k => k { fr := [], mem := mem, nx := mem.length }
  | l :: live, p :: fr, mem, k =>
    match nilOne l.2 p.2 mem.length with
    | some (y, r) => fcL (fcO fcRow) (mem ++ [some r]) fun mem => nilG live fr mem fun s => k { fr := (p.1, y) :: s.fr, mem := s.mem, nx := s.nx }
    | none => nilG live fr mem fun s => k { fr := p :: s.fr, mem := s.mem, nx := s.nx }

theorem nilG_eq : ∀ (live : List (Nat × LK)) (fr : List (Nat × F)) (mem : List (Option Row)) (k : S → α), nilG live fr mem k = k (nilFr live fr mem)
  | [], fr, mem, k => rfl
  | _ :: _, [], mem, k => rfl
  | l :: live, p :: fr, mem, k => by
    simp only [nilG, nilFr]
    cases nilOne l.2 p.2 mem.length with
    | none => simp only [nilG_eq live]
    | some x => simp only [fcL_eq (fcO_eq fcRow_eq), nilG_eq live]

def fixG (id : Nat) (x : Nat × TypeId × Ty) (s : S) (k : S → α) : α :=
  match getM s.mem id with
  | some (.box t T0 cells fz) => match cells[x.1]? with
    | some .nl => fcL (fcO fcRow) (fixOne id x s).mem fun mem => match s with | ⟨fr, _, nx⟩ => k ⟨fr, mem, nx + 1⟩
    | _ => k s
  | _ => k s

theorem fixG_eq (id : Nat) (x : Nat × TypeId × Ty) (s : S) (k : S → α) : fixG id x s k = k (fixOne id x s) := by
  obtain ⟨fr, mem, nx⟩ := s
  obtain ⟨i, e, T⟩ := x
  unfold fixG
  cases h : getM mem id with
  | none => simp only [fixOne, h]
  | some r =>
    cases r with
    | arr => simp only [fixOne, h]
    | box t T0 cells fz =>
      simp only [h]
      cases hc : cells[i]? with
      | none => simp only [fixOne, h, hc]
      | some c =>
        cases c with
        | nl => simp only [fcL_eq (fcO_eq fcRow_eq), fixOne, h, hc]
        | _ => simp only [fixOne, h, hc]

def fixGs (id : Nat) : List (Nat × TypeId × Ty) → S → (S → α) → α
  | [], s, k => k s
  | x :: l, s, k => fixG id x s fun s => fixGs id l s k

theorem fixGs_eq (id : Nat) : ∀ (l : List (Nat × TypeId × Ty)) (s : S) (k : S → α), fixGs id l s k = k (fixCs id l s)
  | [], s, k => rfl
  | x :: l, s, k => by simp only [fixGs, fixCs, fixG_eq, fixGs_eq id l]

def fixGF (x : F) (l : List (Nat × TypeId × Ty)) (s : S) (k : S → α) : α :=
  match x with
  | .a (.c (.pt (.own id 0 0))) => fixGs id l s k
  | _ => k s

theorem fixGF_eq (x : F) (l : List (Nat × TypeId × Ty)) (s : S) (k : S → α) : fixGF x l s k = k (fixF x l s) := by
  unfold fixGF fixF
  split
  · exact fixGs_eq _ l s k
  · rename_i h
    split
    · exact absurd rfl (h _)
    · rfl

def fixGAll : List (Nat × LK) → S → (S → α) → α
  | [], s, k => k s
  | (t, .cells l) :: r, s, k => fixGF (getF s.fr t) l s fun s => fixGAll r s k
  | (_, .any) :: r, s, k => fixGAll r s k
  | (_, .own _ _) :: r, s, k => fixGAll r s k
  | (_, .sh) :: r, s, k => fixGAll r s k

theorem fixGAll_eq : ∀ (l : List (Nat × LK)) (s : S) (k : S → α), fixGAll l s k = k (fixAll l s)
  | [], s, k => rfl
  | (t, .cells l) :: r, s, k => by simp only [fixGAll, fixAll, fixGF_eq, fixGAll_eq r]
  | (_, .any) :: r, s, k => fixGAll_eq r s k
  | (_, .own _ _) :: r, s, k => fixGAll_eq r s k
  | (_, .sh) :: r, s, k => fixGAll_eq r s k

def shareG (t : Nat) (s : S) (k : S → α) : α :=
  fcL fcFr (shareS t s).fr fun fr => fcL (fcO fcRow) (shareS t s).mem fun mem => k ⟨fr, mem, (shareS t s).nx⟩

theorem shareG_eq (t : Nat) (s : S) (k : S → α) : shareG t s k = k (shareS t s) := by
  unfold shareG
  rw [fcL_eq fcFr_eq, fcL_eq (fcO_eq fcRow_eq)]

def shareGAll : List (Nat × LK) → S → (S → α) → α
  | [], s, k => k s
  | (t, .sh) :: r, s, k => shareG t s fun s => shareGAll r s k
  | (_, .any) :: r, s, k => shareGAll r s k
  | (_, .own _ _) :: r, s, k => shareGAll r s k
  | (_, .cells _) :: r, s, k => shareGAll r s k

theorem shareGAll_eq : ∀ (l : List (Nat × LK)) (s : S) (k : S → α), shareGAll l s k = k (shareAll l s)
  | [], s, k => rfl
  | (t, .sh) :: r, s, k => by simp only [shareGAll, shareAll, shareG_eq, shareGAll_eq r]
  | (_, .any) :: r, s, k => shareGAll_eq r s k
  | (_, .own _ _) :: r, s, k => shareGAll_eq r s k
  | (_, .cells _) :: r, s, k => shareGAll_eq r s k

def canonG (live : List (Nat × LK)) (s : S) (k : S → α) : α :=
  shareGAll live s fun s =>
  fcL fcFr (live.map fun x => (x.1, getF s.fr x.1)) fun fr =>
  fcL fcId (addNew [] (fr.flatMap fun x => fDirIds x.2)) fun ids =>
  fcL fcId (addNew ids (ids.flatMap (rowIds s.mem))) fun ids =>
  fcL fcId (addNew ids (ids.flatMap (rowIds s.mem))) fun ids =>
  fcL fcId (addNew ids (ids.flatMap (rowIds s.mem))) fun ids =>
  fcL fcFr (fr.map fun x => (x.1, renF ids x.2)) fun fr =>
  fcL (fcO fcRow) (ids.map fun id => (getM s.mem id).map (renRow ids)) fun mem =>
  nilG live fr mem fun s => fixGAll live s k

theorem canonG_eq (live : List (Nat × LK)) (s : S) (k : S → α) : canonG live s k = k (canonS live s) := by
  unfold canonG canonS canon0
  have h1 : ∀ (x : Nat) (k : Nat → α), fcId x k = k x := fun _ _ => rfl
  simp only [fcL_eq fcFr_eq, fcL_eq h1, fcL_eq (fcO_eq fcRow_eq), nilG_eq, fixGAll_eq, shareGAll_eq, closeIds, List.map_map, List.flatMap_map]
  rfl

/-- The state behind an operation, in its form. -/
def stepS (s : S) (dst : Option Nat) (new : Nat) (out : OutM) (k : S → α) : α :=
  match s with
  | ⟨fr, mem, nx⟩ => fcF out.v fun v =>
    let kk (mem : List (Option Row)) : α := match dst with
      | none => k ⟨fr, mem, nx⟩
      | some d => k ⟨(d, v) :: fr, mem, nx⟩
    match out.upd, out.rows, out.fz with
    | none, [], [] => kk mem
    | _, _, _ => fcL (fcO fcRow) (applyOut ⟨fr, mem, nx⟩ dst new out).mem kk

theorem stepS_eq (s : S) (dst : Option Nat) (new : Nat) (out : OutM) (k : S → α) : stepS s dst new out k = k (applyOut s dst new out) := by
  obtain ⟨fr, mem, nx⟩ := s
  unfold stepS
  simp only
  rw [fcF_eq]
  obtain ⟨v, rows, upd, fz⟩ := out
  have main : fcL (fcO fcRow) (applyOut ⟨fr, mem, nx⟩ dst new ⟨v, rows, upd, fz⟩).mem (fun mem => match dst with
      | none => k ⟨fr, mem, nx⟩
      | some d => k ⟨(d, v) :: fr, mem, nx⟩) = k (applyOut ⟨fr, mem, nx⟩ dst new ⟨v, rows, upd, fz⟩) := by
    rw [fcL_eq (fcO_eq fcRow_eq)]
    cases dst <;> rfl
  cases upd with
  | some p => exact main
  | none =>
    cases rows with
    | cons a b => exact main
    | nil =>
      cases fz with
      | cons a b => exact main
      | nil => cases dst <;> rfl
end

section
variable {R : Type} (E : Env)

def opsG (ck : Nat → List (Option Row) → OutM → Bool) (nt base : Nat) (ops : Array Oper) (vw : Nat → List (Option Row) → Nat → Option Row) : List Nat → Gd → S → (Gd → S → Option R) → Option R
  | [], g, s, K => K g s
  | i :: r, g, s, K => match ops[i]? with
    | none => none
    | some o => bif dstOk nt o.dst then
      (let fin (g : Gd) (out : OutM) : Option R := bif ck i s.mem out then none else fcL fcGe g fun g => stepS s o.dst (base + 4 * i) out fun s => opsG ck nt base ops vw r g s K
      let go (g : Gd) : Option R := match o.op with
        | .pick (.tmp c) a b => match lookN g c with
          | some t => bif t then fin (setG o.dst (valG g a) g) { v := evalF s.fr a } else fin (setG o.dst (valG g b) g) { v := evalF s.fr b }
          | none => match getF s.fr c with
            | .a (.c (.sc (.bool t))) => ifs (t = true) (fin (setG o.dst (valG ((c, true) :: g) a) ((c, true) :: g)) { v := evalF s.fr a }) (fin (setG o.dst (valG ((c, false) :: g) b) ((c, false) :: g)) { v := evalF s.fr b })
            | _ => none
        | .move x => fin (setG o.dst (valG g x) g) { v := evalF s.fr x }
        | .assign x => fin (setG o.dst (valG g x) g) { v := evalF s.fr x }
        | .unOp .not t x => aopK E (vw i s.mem) (base + 4 * i) (evalF s.fr) (.unOp .not t x) fun out => fin (setG o.dst ((valG g x).map (!·)) g) out
        | op => aopK E (vw i s.mem) (base + 4 * i) (evalF s.fr) op fun out => fin (dropG o.dst g) out
      let skip (g : Gd) : Option R := fcL fcGe (dropG o.dst g) fun g => stepS s o.dst (base + 4 * i) { v := F.un } fun s => opsG ck nt base ops vw r g s K
      match o.guard with
      | none => go g
      | some (j, want) => match ops[j]? with
        | some oj => match oj.dst with
          | some d => match lookN g d with
            | some b => bif beqB b want then go g else skip g
            | none => match getF s.fr d with
              | .a (.c (.sc (.bool b))) => ifs (b = want) (go ((d, want) :: g)) (skip ((d, !want) :: g))
              | .tp [] => skip g
              | _ => none
          | none => none
        | none => none) else none

/-- What is remembered is so. -/
def ValG (g : Gd) (fr : List (Nat × F)) : Prop := ∀ d v, lookN g d = some v → getF fr d = cbool v

theorem ValG.nil (fr : List (Nat × F)) : ValG [] fr := by intro d v h; cases h

theorem ValG.cons {g : Gd} {fr : List (Nat × F)} {d : Nat} {v : Bool} (h : ValG g fr) (hd : getF fr d = cbool v) : ValG ((d, v) :: g) fr := by
  intro t b hb
  simp only [lookN] at hb
  by_cases e : Nat.beq d t = true
  · rw [e] at hb; simp only [cond_true, Option.some.injEq] at hb
    rw [← Nat.eq_of_beq_eq_true e, ← hb]; exact hd
  · simp only [e, cond_false] at hb; exact h t b hb

theorem lookN_filter : ∀ (g : Gd) (d t : Nat), lookN (g.filter fun x => !Nat.beq x.1 d) t = if d = t then none else lookN g t
  | [], d, t => by simp [lookN]
  | (k, v) :: g, d, t => by
    have ih := lookN_filter g d t
    simp only [List.filter]
    by_cases e : Nat.beq k d = true
    · simp only [e, Bool.not_true, ih, lookN]
      by_cases e2 : d = t
      · simp [e2]
      · have : Nat.beq k t = false := by
          cases hb : Nat.beq k t with
          | false => rfl
          | true => exact absurd ((Nat.eq_of_beq_eq_true e).symm.trans (Nat.eq_of_beq_eq_true hb)) e2
        simp [e2, this]
    · simp only [e, Bool.not_false, lookN, ih]
      by_cases e2 : d = t
      · subst e2; simp [e]
      · simp [e2]

theorem ValG.put {g : Gd} {fr : List (Nat × F)} (h : ValG g fr) (dst : Option Nat) (x : F) : ValG (dropG dst g) (putF dst x fr) := by
  cases dst with
  | none => exact h
  | some d =>
    intro t b hb
    simp only [dropG, lookN_filter] at hb
    by_cases e : d = t
    · simp [e] at hb
    · simp only [e, if_false] at hb
      have : Nat.beq d t = false := by
        cases hb : Nat.beq d t with
        | false => rfl
        | true => exact absurd (Nat.eq_of_beq_eq_true hb) e
      simp only [putF, getF, this, cond_false]; exact h t b hb

theorem ValG.set {g : Gd} {fr : List (Nat × F)} (h : ValG g fr) (dst : Option Nat) (v : Option Bool) (x : F) (hx : ∀ b, v = some b → x = cbool b) : ValG (setG dst v g) (putF dst x fr) := by
  cases v with
  | none => exact h.put _ x
  | some b =>
    cases dst with
    | none => exact h.put none x
    | some d =>
      refine (h.put (some d) x).cons ?_
      simp only [putF, getF]
      have : Nat.beq d d = true := Nat.beq_refl d
      rw [this, cond_true]; exact hx b rfl

theorem ValG.val {g : Gd} {fr : List (Nat × F)} (h : ValG g fr) (x : Operand) {b : Bool} (hb : valG g x = some b) : evalF fr x = cbool b := by
  cases x with
  | tmp t => exact h t b hb
  | _ => cases hb

theorem opsG_eq {ck : Nat → List (Option Row) → OutM → Bool} {nt base : Nat} {ops : Array Oper} {vw : Nat → List (Option Row) → Nat → Option Row} {KG : Gd → S → Option R} {K : S → Option R} (hK : ∀ g s, ValG g s.fr → KG g s = K s) :
    ∀ (l : List Nat) (g : Gd) (s : S), ValG g s.fr → opsG E ck nt base ops vw l g s KG = opsK E ck nt base ops vw l s K
  | [], g, s, hv => hK g s hv
  | i :: r, g, s, hv => by
    have ih := opsG_eq (ck := ck) (nt := nt) (base := base) (ops := ops) (vw := vw) hK r
    simp only [opsG, opsK, fcL_eq fcGe_eq, stepS_eq]
    cases hi : ops[i]? with
    | none => rfl
    | some o =>
      simp only
      cases hd : dstOk nt o.dst with
      | false => rfl
      | true =>
        simp only [cond_true]
        have fin : ∀ (g' : Gd) (out : OutM), ValG g' (putF o.dst out.v s.fr) → (bif ck i s.mem out then none else opsG E ck nt base ops vw r g' (applyOut s o.dst (base + 4 * i) out) KG) = (bif ck i s.mem out then none else opsK E ck nt base ops vw r (applyOut s o.dst (base + 4 * i) out) K) := by
          intro g' out h'
          rw [ih g' _ h']
        have skip : ∀ (g' : Gd), ValG g' s.fr → opsG E ck nt base ops vw r (dropG o.dst g') (applyOut s o.dst (base + 4 * i) { v := F.un }) KG = opsK E ck nt base ops vw r (applyOut s o.dst (base + 4 * i) { v := F.un }) K := by
          intro g' h'
          exact ih _ _ (h'.put _ _)
        have go : ∀ (g' : Gd), ValG g' s.fr → (match o.op with
            | .pick (.tmp c) a b => match lookN g' c with
              | some t => bif t then (bif ck i s.mem { v := evalF s.fr a } then none else opsG E ck nt base ops vw r (setG o.dst (valG g' a) g') (applyOut s o.dst (base + 4 * i) { v := evalF s.fr a }) KG) else (bif ck i s.mem { v := evalF s.fr b } then none else opsG E ck nt base ops vw r (setG o.dst (valG g' b) g') (applyOut s o.dst (base + 4 * i) { v := evalF s.fr b }) KG)
              | none => match getF s.fr c with
                | .a (.c (.sc (.bool t))) => ifs (t = true) (bif ck i s.mem { v := evalF s.fr a } then none else opsG E ck nt base ops vw r (setG o.dst (valG ((c, true) :: g') a) ((c, true) :: g')) (applyOut s o.dst (base + 4 * i) { v := evalF s.fr a }) KG) (bif ck i s.mem { v := evalF s.fr b } then none else opsG E ck nt base ops vw r (setG o.dst (valG ((c, false) :: g') b) ((c, false) :: g')) (applyOut s o.dst (base + 4 * i) { v := evalF s.fr b }) KG)
                | _ => none
            | .move x => bif ck i s.mem { v := evalF s.fr x } then none else opsG E ck nt base ops vw r (setG o.dst (valG g' x) g') (applyOut s o.dst (base + 4 * i) { v := evalF s.fr x }) KG
            | .assign x => bif ck i s.mem { v := evalF s.fr x } then none else opsG E ck nt base ops vw r (setG o.dst (valG g' x) g') (applyOut s o.dst (base + 4 * i) { v := evalF s.fr x }) KG
            | .unOp .not t x => aopK E (vw i s.mem) (base + 4 * i) (evalF s.fr) (.unOp .not t x) fun out => bif ck i s.mem out then none else opsG E ck nt base ops vw r (setG o.dst ((valG g' x).map (!·)) g') (applyOut s o.dst (base + 4 * i) out) KG
            | op => aopK E (vw i s.mem) (base + 4 * i) (evalF s.fr) op fun out => bif ck i s.mem out then none else opsG E ck nt base ops vw r (dropG o.dst g') (applyOut s o.dst (base + 4 * i) out) KG)
            = aopK E (vw i s.mem) (base + 4 * i) (evalF s.fr) o.op fun out => bif ck i s.mem out then none else opsK E ck nt base ops vw r (applyOut s o.dst (base + 4 * i) out) K := by
          intro g' h'
          split
          · rename_i c a b hop
            rw [hop]
            have e1 : evalF s.fr (.tmp c) = getF s.fr c := rfl
            simp only [aopK, e1]
            cases hl : lookN g' c with
            | some t =>
              have hc := h' c t hl
              simp only [hc, cbool]
              cases t with
              | true =>
                simp only [cond_true, ifs, if_true]
                exact fin _ { v := evalF s.fr a } (h'.set _ _ _ fun b hb => h'.val a hb)
              | false =>
                simp only [cond_false, ifs]
                exact fin _ { v := evalF s.fr b } (h'.set _ _ _ fun b' hb => h'.val b hb)
            | none =>
              simp only
              cases hc : getF s.fr c with
              | tp xs => rfl
              | a x =>
                cases x with
                | ag cs => rfl
                | c y =>
                  cases y with
                  | sc v =>
                    cases v with
                    | bool t =>
                      simp only [ifs]
                      cases t with
                      | true =>
                        have h2 : ValG ((c, true) :: g') s.fr := h'.cons hc
                        simp only [if_true]
                        exact fin _ { v := evalF s.fr a } (h2.set _ _ _ fun b hb => h2.val a hb)
                      | false =>
                        have h2 : ValG ((c, false) :: g') s.fr := h'.cons hc
                        exact fin _ { v := evalF s.fr b } (h2.set _ _ _ fun b' hb => h2.val b hb)
                    | _ => rfl
                  | _ => rfl
          · rename_i x hop
            rw [hop]
            exact fin _ { v := evalF s.fr x } (h'.set _ _ _ fun b hb => h'.val x hb)
          · rename_i x hop
            rw [hop]
            exact fin _ { v := evalF s.fr x } (h'.set _ _ _ fun b hb => h'.val x hb)
          · rename_i t x hop
            rw [hop]
            cases hx : valG g' x with
            | none =>
              have : (fun out => bif ck i s.mem out then none else opsG E ck nt base ops vw r (setG o.dst (Option.map (!·) none) g') (applyOut s o.dst (base + 4 * i) out) KG) = fun out => bif ck i s.mem out then none else opsK E ck nt base ops vw r (applyOut s o.dst (base + 4 * i) out) K := by
                funext out
                exact fin _ out (h'.set _ _ _ fun b hb => by cases hb)
              rw [this]
            | some b =>
              have hb := h'.val x hx
              simp only [aopK, unK, hb, cbool]
              have e : free E.P (Op.unary .not (.bool b)) = some (.bool (!b)) := rfl
              rw [e]
              simp only [plain, cond_true]
              exact fin _ (outV (.bool (!b))).many (h'.set _ _ _ fun b' hb' => by simp only [Option.map_some, Option.some.injEq] at hb'; subst hb'; rfl)
          · have : (fun out => bif ck i s.mem out then none else opsG E ck nt base ops vw r (dropG o.dst g') (applyOut s o.dst (base + 4 * i) out) KG) = fun out => bif ck i s.mem out then none else opsK E ck nt base ops vw r (applyOut s o.dst (base + 4 * i) out) K := by
              funext out
              exact fin _ out (h'.put _ _)
            rw [this]
        cases hg : o.guard with
        | none => exact go g hv
        | some p =>
          obtain ⟨j, want⟩ := p
          simp only
          cases hj : ops[j]? with
          | none => rfl
          | some oj =>
            simp only
            cases hdj : oj.dst with
            | none => rfl
            | some d =>
              simp only
              cases hl : lookN g d with
              | some b =>
                have hb := hv d b hl
                simp only [hb, cbool]
                by_cases e : b = want
                · subst e
                  have : beqB b b = true := by cases b <;> rfl
                  simp only [this, cond_true, ifs, if_true]
                  exact go g hv
                · have : beqB b want = false := by cases b <;> cases want <;> first | rfl | exact absurd rfl e
                  simp only [this, cond_false, ifs, e, if_false]
                  exact skip g hv
              | none =>
                simp only
                cases hb : getF s.fr d with
                | tp xs =>
                  cases xs with
                  | nil => exact skip g hv
                  | cons y ys => rfl
                | a x =>
                  cases x with
                  | ag cs => rfl
                  | c y =>
                    cases y with
                    | sc v =>
                      cases v with
                      | bool b =>
                        simp only [ifs]
                        by_cases e : b = want
                        · subst e
                          simp only [if_true]
                          exact go _ (hv.cons hb)
                        · simp only [e, if_false]
                          have : b = !want := by cases b <;> cases want <;> simp_all
                          exact skip _ (hv.cons (by rw [hb, this]; rfl))
                      | _ => rfl
                    | _ => rfl

end

def runG (E : Env) (N : Note) (cutQ : List Item → S → Option (List RV)) : Nat → Bool → List Item → Gd → S → Option (List RV)
  | 0, _, _, _, _ => none
  | n + 1, ex, todo, g, s =>
    match todo with
    | [] => finR E s N.res N.rts [] []
    | .code c :: k =>
      match c with
      | .skip => runG E N cutQ n false k g s
      | .label _ => runG E N cutQ n false k g s
      | .region id ops draw =>
        match (bif ex then none else lookN N.joins id) with
        | some live => canonG live s fun s => cutQ (.code c :: k) s
        | none =>
          match s with
          | ⟨fr, mem, nx⟩ =>
            bif draw then
              (let M := masks ops.toList []
              let wl := wlOf fr ops.toList
              bif drawOk ops M then opsG E (ckD nx ops M wl) N.nt nx ops (vwD nx ops M wl) (rangeL 0 ops.size) g ⟨fr, mem, nx⟩ fun g' s' => match s' with | ⟨fr', mem', _⟩ => runG E N cutQ n false k g' ⟨fr', mem', nx + 4 * ops.size⟩ else none)
            else opsG E (fun _ _ _ => false) N.nt nx ops (fun _ mem => getM mem) (rangeL 0 ops.size) g ⟨fr, mem, nx⟩ fun g' s' => match s' with | ⟨fr', mem', _⟩ => runG E N cutQ n false k g' ⟨fr', mem', nx + 4 * ops.size⟩
      | .seq a b => runG E N cutQ n ex (.code a :: .code b :: k) g s
      | .cond (.tmp t) a b => match lookN g t with
        | some v => bif v then runG E N cutQ n false (.code a :: k) g s else runG E N cutQ n false (.code b :: k) g s
        | none => match getF s.fr t with
          | .a (.c (.sc (.bool v))) => ifs (v = true) (runG E N cutQ n false (.code a :: k) ((t, true) :: g) s) (runG E N cutQ n false (.code b :: k) ((t, false) :: g) s)
          | _ => none
      | .cond c a b => match evalF s.fr c with
        | .a (.c (.sc (.bool v))) => ifs (v = true) (runG E N cutQ n false (.code a :: k) g s) (runG E N cutQ n false (.code b :: k) g s)
        | _ => none
      | .block id b => runG E N cutQ n ex (.code b :: .inBlock id :: k) g s
      | .loop b => match firstReg b with
        | some id => match lookN N.loops id with
          | some live => canonG live s fun s => cutQ (.code b :: .inLoop b :: k) s
          | none => none
        | none => none
      | .exit id => match exitTo id k with
        | some k' => runG E N cutQ n false k' g s
        | none => none
      | .ret => finR E s N.res N.rts [] []
      | _ => none
    | .inBlock _ :: k => runG E N cutQ n false k g s
    | .inLoop b :: k => match firstReg b with
      | some id => match lookN N.loops id with
        | some live => canonG live s fun s => cutQ (.code b :: .inLoop b :: k) s
        | none => none
      | none => none
    | _ => none

theorem runG_eq (E : Env) (N : Note) (cutQ : List Item → S → Option (List RV)) : ∀ (n : Nat) (ex : Bool) (todo : List Item) (g : Gd) (s : S), ValG g s.fr → runG E N cutQ n ex todo g s = run E N cutQ n ex todo s
  | 0, _, _, _, _, _ => rfl
  | n + 1, ex, todo, g, s, hv => by
    have ih := runG_eq E N cutQ n
    cases todo with
    | nil => rfl
    | cons x k =>
      cases x with
      | code c =>
        cases c with
        | skip => exact ih _ _ _ _ hv
        | label => exact ih _ _ _ _ hv
        | region id ops draw =>
          simp only [runG, run]
          cases (bif ex then none else lookN N.joins id) with
          | some live => exact canonG_eq _ _ _
          | none =>
            obtain ⟨fr, mem, nx⟩ := s
            simp only
            cases draw with
            | true =>
              simp only [cond_true]
              cases drawOk ops (masks ops.toList []) with
              | false => rfl
              | true =>
                simp only [cond_true]
                exact opsG_eq E (fun g' s' h' => ih false k g' { fr := s'.fr, mem := s'.mem, nx := nx + 4 * ops.size } h') _ _ _ hv
            | false =>
              simp only [cond_false]
              exact opsG_eq E (fun g' s' h' => ih false k g' { fr := s'.fr, mem := s'.mem, nx := nx + 4 * ops.size } h') _ _ _ hv
        | seq a b => exact ih _ _ _ _ hv
        | cond c a b =>
          cases c with
          | tmp t =>
            simp only [runG, run, evalF]
            cases hl : lookN g t with
            | some v =>
              simp only [hv t v hl, cbool]
              cases v with
              | true => simp only [cond_true, ifs, if_true]; exact ih _ _ _ _ hv
              | false => simp only [cond_false, ifs]; exact ih _ _ _ _ hv
            | none =>
              simp only
              cases hb : getF s.fr t with
              | tp xs => rfl
              | a x =>
                cases x with
                | ag cs => rfl
                | c y =>
                  cases y with
                  | sc v =>
                    cases v with
                    | bool b =>
                      simp only [ifs]
                      cases b with
                      | true => simp only [if_true]; exact ih _ _ _ _ (hv.cons hb)
                      | false => exact ih _ _ _ _ (hv.cons hb)
                    | _ => rfl
                  | _ => rfl
          | const v => simp only [runG, run, ih _ _ _ _ hv]; rfl
          | global v => rfl
          | func v => rfl
        | block id b => exact ih _ _ _ _ hv
        | loop b => simp only [runG, run, canonG_eq]; rfl
        | exit id =>
          simp only [runG, run]
          cases exitTo id k with
          | some k' => exact ih _ _ _ _ hv
          | none => rfl
        | ret => rfl
        | _ => rfl
      | inBlock id => exact ih _ _ _ _ hv
      | inLoop b => simp only [runG, run, canonG_eq]; rfl
      | _ => rfl

def callG (W : Wd) (call : FuncId → List A → Option (List RV)) (cut : Note → List Item → S → Option (List RV)) (f : FuncId) (args : List A) : Option (List RV) :=
  match W.ext f with
  | some g => g args
  | none => match W.fns f with
    | some (c, N) => runG (envOf W call) N (cut N) big true [.code c] [] { fr := initS 0 args, mem := [], nx := 0 }
    | none => none

def cutG (W : Wd) (call : FuncId → List A → Option (List RV)) (cut : Note → List Item → S → Option (List RV)) (N : Note) (todo : List Item) (s : S) : Option (List RV) :=
  runG (envOf W call) N (cut N) big true todo [] s

/-- What is to do at a region, or from the head of the loop that begins with it. -/
def findT : Code → List Item → Nat → Option (List Item)
  | .seq a b, k, r => match findT a (.code b :: k) r with
    | some x => some x
    | none => findT b k r
  | .block id b, k, r => findT b (.inBlock id :: k) r
  | .cond _ a b, k, r => match findT a k r with
    | some x => some x
    | none => findT b k r
  | .loop b, k, r => bif (match firstReg b with | some i => Nat.beq i r | none => false) then some (.code b :: .inLoop b :: k) else findT b (.inLoop b :: k) r
  | .region id ops draw, k, r => bif Nat.beq id r then some (.code (.region id ops draw) :: k) else none
  | _, _, _ => none

theorem callG_step {W : Wd} {f : FuncId} {args : List A} {rvs : List RV} (h : callG W (callW W) (cutW W) f args = some rvs) : callW W f args = some rvs := by
  apply callW_step
  rw [← h]
  unfold callStep callG
  cases W.ext f with
  | some g => rfl
  | none =>
    cases W.fns f with
    | none => rfl
    | some p => exact (runG_eq _ _ _ _ _ _ _ _ (ValG.nil _)).symm

theorem cutG_step {W : Wd} {N : Note} {t : List Item} {s : S} {rvs : List RV} (h : cutG W (callW W) (cutW W) N t s = some rvs) : cutW W N t s = some rvs := by
  apply cutW_step
  rw [← h]
  exact (runG_eq _ _ _ _ _ _ _ _ (ValG.nil _)).symm

theorem prjC_injC : ∀ (T : Ty) (x : T.den) (l : List C), prjC T (injC T x ++ l) = some (x, l)
  | .int k, n, l => by simp [injC, prjC]
  | .bool, n, l => by simp [injC, prjC]
  | .str, n, l => by simp [injC, prjC]
  | .flt k, n, l => by simp [injC, prjC]
  | .unit, n, l => by simp [injC, prjC]
  | .sl t, n, l => by simp [injC, prjC, castL]
  | .pair a b, x, l => by
    simp only [injC, prjC, List.append_assoc, prjC_injC a, prjC_injC b]

theorem cells_inj (T : Ty) (x : T.den) : (inj T x).cells = injC T x := by cases T <;> rfl

theorem prj_inj (T : Ty) (x : T.den) : prj T (inj T x).cells = some x := by
  have := prjC_injC T x []
  rw [List.append_nil] at this
  rw [cells_inj, prj, this]

theorem prj_injR (r : RT) (x : r.den) : prjR r (injR r x) = some x := by
  cases r with
  | d T =>
    simp only [prjR, injR]
    have h1 : shapeOk T (inj T x) = true := by cases T <;> rfl
    rw [h1, cond_true]
    exact prj_inj T x
  | own e T => simp [prjR, injR, castL]

theorem prj_injRs : ∀ (rs : List RT) (x : dens rs), prjRs rs (injRs rs x) = some x
  | [], _ => rfl
  | [r], x => prj_injR r x
  | r :: r' :: rs, x => by
    simp only [injRs, prjRs, prj_injR, prj_injRs (r' :: rs) x.2]

/-- A call's answer, from the step's. -/
theorem callT_of {W : Wd} {f : FuncId} {args : List A} {rts : List RT} {d : dens rts} (h : callG W (callW W) (cutW W) f args = some (injRs rts d)) : callT (envOf W (callW W)) rts f args = some d := by
  show (callW W f args).bind (prjRs rts) = some d
  rw [callG_step h]
  exact prj_injRs rts d

end Go.Proofs.YtokecnkjgoghhaaDoor.Ab
end
section
/- Words of the walks of this place: lemmas on rows, regions and rounds, those that the texts beside use. No condition. -/
-- PRINTED WORDS (module Derived/Print/Words.lean): go-wishes' parts 1 to 38 and go-gate-2's additions: AI agents of Go's test side, Mon Nov 16 2026; no person has read them. Plain theorems and definitions: no macro, no elab, no axiom.
set_option linter.unusedVariables false
set_option linter.unusedSimpArgs false
namespace Go.Proofs.YtokecnkjgoghhaaDoorW.PrintWords
open Go.RowKit

/-- A fact that the walk's simp doesn't look into. -/
structure Aside0 (p : Prop) : Prop where mk :: (out : p)
/-- The world is the old one, some orders having been drawn. -/
structure Drawn0 (w w' : World) : Prop where mk :: (out : ∃ n, w' = w.drewN n)
theorem Drawn0.refl (w : World) : Drawn0 w w := ⟨⟨0, rfl⟩⟩
theorem Drawn0.step {w w' : World} (h : Drawn0 w w') (n : Nat) : Drawn0 w (w'.drewN n) := by
  obtain ⟨m, rfl⟩ := h
  exact ⟨⟨m + n, World.drewN_drewN ..⟩⟩
theorem Drawn0.grown {w w' : World} (h : Drawn0 w w') : Grown w w' := by
  obtain ⟨n, rfl⟩ := h
  induction n with
  | zero => exact Grown.refl _
  | succ n ih => rw [← World.drew_drewN]; exact Grown.drew ih
theorem Drawn0.below {w w' : World} (h : Drawn0 w w') : Below w.heap.size w w' := by
  obtain ⟨n, rfl⟩ := h
  induction n with
  | zero => exact Below.refl _ _
  | succ n ih => rw [← World.drew_drewN]; exact ih.drew

/-! ### 1. Values and lists -/
/-! ### 2. The world -/
theorem below_alloc {w W : World} (h : Below w.heap.size w W) (o : Obj) : Below w.heap.size w (W.alloc o) := h.alloc h.size o
theorem grown_of_below {w w1 : World} (h : Below w.heap.size w w1) (row : Option Nat) : w.grownBy w1 row := ⟨h.os, h.tape, h.output, h.size, fun i hi _ => h.block i hi⟩
theorem pw_cell_below {w w1 : World} (h : Below w.heap.size w w1) {a : Addr} {v : Value} (hc : w.cell? a = some v) : w1.cell? a = some v := (h.cell (World.block_lt_of_cell? w a hc)).trans hc

theorem add_plain (g j : Nat) : (⟨g, 0, none⟩ : Addr).add j = ⟨g, j, none⟩ := by unfold Addr.add; split <;> simp_all

/-! ### 3. A slice of whole numbers that is read; nil, empty and other slices alike -/
def ReadsInt (w : World) (k : IntKind) (A : Option Addr) (n : Nat) (xs : List Int) : Prop :=
  xs.length = n ∧ n ≤ 9223372036854775807 ∧ (0 < n → ∃ ad, A = some ad ∧ ∀ j, j < n → w.cell? (ad.add j) = some (.int k (xs.getD j 0)))
theorem ReadsInt.below {w w1 : World} {k : IntKind} {A : Option Addr} {n : Nat} {xs : List Int} (h : ReadsInt w k A n xs) (hb : Below w.heap.size w w1) : ReadsInt w1 k A n xs :=
  ⟨h.1, h.2.1, fun hn => by
    obtain ⟨ad, e, hc⟩ := h.2.2 hn
    exact ⟨ad, e, fun j hj => pw_cell_below hb (hc j hj)⟩⟩

/-! ### 4. A row of the call's own -/
theorem own_nil (W : World) (base : Nat) (e : TypeId) (size : Nat) : W.ownsRow base e size (.slice none 0 0) 0 [] := ⟨by simp, .inl ⟨rfl, rfl⟩⟩
theorem own_base {w : World} {base : Nat} {e : TypeId} {size n : Nat} {v : Value} {xs : List Value} (h : w.ownsRow base e size v n xs) (k : Nat) (hk : v.ownBlock = some k) : base ≤ k := by
  rcases h.2 with ⟨rfl, _⟩ | ⟨g, cap, cur, rfl, hb, _⟩
  · simp [Value.ownBlock] at hk
  · have : g = k := by simpa [Value.ownBlock] using hk
    omega
theorem own_lt {w : World} {base : Nat} {e : TypeId} {size n : Nat} {v : Value} {xs : List Value} (h : w.ownsRow base e size v n xs) (k : Nat) (hk : v.ownBlock = some k) : k < w.heap.size := by
  rcases h.2 with ⟨rfl, _⟩ | ⟨g, cap, cur, rfl, hb, hh, _⟩
  · simp [Value.ownBlock] at hk
  · have : g = k := by simpa [Value.ownBlock] using hk
    subst this
    exact (Array.getElem?_eq_some_iff.1 hh).1
theorem pw_own_below {w w1 : World} {base : Nat} {e : TypeId} {size n : Nat} {v : Value} {xs : List Value} (h : w.ownsRow base e size v n xs) (hb : Below w.heap.size w w1) : w1.ownsRow base e size v n xs :=
  h.kept (grown_of_below hb none) (by cases v.ownBlock <;> simp)
/-- What is written is another row: this one lives on. -/
theorem own_other {w w1 : World} {base : Nat} {e : TypeId} {size n : Nat} {v : Value} {xs : List Value} (h : w.ownsRow base e size v n xs) {row : Option Nat} (hg : w.grownBy w1 row) (hne : v.ownBlock = none ∨ v.ownBlock ≠ row) : w1.ownsRow base e size v n xs := h.kept hg hne
/-! ### 5. append(v, x): behind 'at_builtin'; the goal's world is 'W.alloc' of the variadic's box -/
section
variable {P : Program} {ops : Array Oper} {rest : List Oper} {o : Oper} {a : Act} {Q : Exit → Act → World → Prop}

end

/-! ### 6. make([]T, n), n an Int; a literal -/
section
variable {P : Program}
end
/-! ### 7. v[i] read and v[i] = x, v a row of the call's own: 'obtain ⟨g, cap, rfl, hgb, hgl⟩ := HO.out.form (by omega)' first -/
/-! ### 8. append(v, ys...): ys a slice that is read, nil let in; behind 'at_builtin' -/
section
variable {P : Program} {ops : Array Oper} {rest : List Oper} {o : Oper} {a : Act} {Q : Exit → Act → World → Prop}
end

/-! ### 9. []byte(s): a slice that is read (its row bears a conversion's mark: no row of one's own); cuts of a slice that is read -/
/-! ### 10. Rounds: more rounds give the same answer; what ends gives a number of rounds -/
/-- Where the first answers, the second answers the same. -/
def LeO {α : Type} (a b : Option α) : Prop := ∀ r, a = some r → b = some r
theorem LeO.refl {α : Type} (a : Option α) : LeO a a := fun _ h => h
theorem LeO.none {α : Type} (b : Option α) : LeO Option.none b := fun _ h => by cases h
theorem LeO.trans {α : Type} {a b c : Option α} (h : LeO a b) (k : LeO b c) : LeO a c := fun r hr => k r (h r hr)
theorem LeO.bind {α β : Type} {a a' : Option α} {f f' : α → Option β} (h : LeO a a') (k : ∀ x, LeO (f x) (f' x)) : LeO (a.bind f) (a'.bind f') := by
  intro r hr
  obtain ⟨x, hx, hf⟩ := Option.bind_eq_some_iff.1 hr
  exact Option.bind_eq_some_iff.2 ⟨x, h x hx, k x r hf⟩
theorem LeO.map {α β : Type} {a a' : Option α} (f : α → β) (h : LeO a a') : LeO (a.map f) (a'.map f) := by
  intro r hr
  obtain ⟨x, hx, hf⟩ := Option.map_eq_some_iff.1 hr
  exact Option.map_eq_some_iff.2 ⟨x, h x hx, hf⟩
theorem more_rounds {α : Type} {g : Nat → Option α} (h : ∀ k, LeO (g k) (g (k + 1))) (k : Nat) : ∀ j, LeO (g k) (g (k + j))
  | 0 => LeO.refl _
  | j + 1 => (more_rounds h k j).trans (h (k + j))
theorem at_rounds {α : Type} {g : Nat → Option α} (h : ∀ k, LeO (g k) (g (k + 1))) {k k' : Nat} (hk : k ≤ k') {r : α} (hr : g k = some r) : g k' = some r := by
  have := more_rounds h k (k' - k) r hr
  rwa [Nat.add_sub_cancel' hk] at this
/-! ### 11. Rows of elements of several cells (structs): read, made. R: what an element's cells say ('RepItem w': printed for each type) -/
def Reps {α : Type} (R : α → List Value → Prop) (size : Nat) (ps : List α) (cs : List Value) : Prop :=
  cs.length = ps.length * size ∧ ∀ j p, ps[j]? = some p → R p ((cs.drop (j * size)).take size)
theorem Reps.none {α : Type} (R : α → List Value → Prop) (size : Nat) : Reps R size [] [] := ⟨by simp, fun j p h => by simp at h⟩
theorem Reps.snoc {α : Type} {R : α → List Value → Prop} {size : Nat} {ps : List α} {cs c : List Value} {p : α} (h : Reps R size ps cs) (hp : R p c) (hc : c.length = size) : Reps R size (ps ++ [p]) (cs ++ c) := by
  refine ⟨by rw [List.length_append, h.1, hc, List.length_append, List.length_singleton, Nat.add_mul, Nat.one_mul], fun j q hq => ?_⟩
  rcases Nat.lt_or_ge j ps.length with hj | hj
  · rw [List.getElem?_append_left hj] at hq
    have h1 : j * size + size ≤ cs.length := by rw [h.1, ← Nat.succ_mul]; exact Nat.mul_le_mul_right _ hj
    have h2 := h.2 j q hq
    rw [List.drop_append_of_le_length (by omega), List.take_append_of_le_length (by rw [List.length_drop]; omega)]
    exact h2
  · have hj' : j = ps.length := by
      have := (List.getElem?_eq_some_iff.1 hq).1
      rw [List.length_append, List.length_singleton] at this
      omega
    subst hj'
    have hq' : p = q := by simpa using hq
    subst hq'
    rw [← h.1, List.drop_left, ← hc, List.take_length]
    exact hp
theorem Reps.imp_ {α : Type} {R R' : α → List Value → Prop} {size : Nat} {ps : List α} {cs : List Value} (h : Reps R size ps cs) (hR : ∀ p c, R p c → R' p c) : Reps R' size ps cs := ⟨h.1, fun j p hj => hR _ _ (h.2 j p hj)⟩

def ReadsRow {α : Type} (R : α → List Value → Prop) (size : Nat) (w : World) (A : Option Addr) (n : Nat) (ps : List α) : Prop :=
  ps.length = n ∧ n ≤ 9223372036854775807 ∧ (0 < n → ∃ ad, A = some ad ∧ ∀ j p, ps[j]? = some p → ∃ c, c.length = size ∧ R p c ∧ ∀ i u, c[i]? = some u → w.cell? (ad.add (j * size + i)) = some u)
theorem ReadsRow.imp_ {α : Type} {R R' : α → List Value → Prop} {size : Nat} {w w1 : World} {A : Option Addr} {n : Nat} {ps : List α} (h : ReadsRow R size w A n ps) (hb : Below w.heap.size w w1) (hR : ∀ p c, R p c → R' p c) : ReadsRow R' size w1 A n ps :=
  ⟨h.1, h.2.1, fun hn => by
    obtain ⟨ad, e, hc⟩ := h.2.2 hn
    refine ⟨ad, e, fun j p hj => ?_⟩
    obtain ⟨c, hs, hr, hcell⟩ := hc j p hj
    exact ⟨c, hs, hR _ _ hr, fun i u hu => pw_cell_below hb (hcell i u hu)⟩⟩
theorem own_reads_row {α : Type} {R : α → List Value → Prop} {w : World} {base n size : Nat} {e : TypeId} {v : Value} {ps : List α} {cs : List Value} (h : w.ownsRow base e size v n cs) (hR : Reps R size ps cs) (hn : ps.length = n) :
    ∃ A c, v = .slice A n c ∧ ReadsRow R size w A n ps := by
  rcases Nat.eq_zero_or_pos n with h0 | h0
  · rcases h.2 with ⟨rfl, rfl⟩ | ⟨g, cap, cur, rfl, _⟩
    · exact ⟨none, 0, rfl, hn, by omega, fun hp => absurd hp (by omega)⟩
    · exact ⟨_, cap, rfl, hn, by omega, fun hp => absurd hp (by omega)⟩
  · obtain ⟨g, cap, rfl, _, _⟩ := h.form h0
    have hm : n ≤ 9223372036854775807 := by
      rcases h.2 with ⟨_, h1⟩ | ⟨g', cap', cur, he, _, _, h1, h2, _⟩
      · omega
      · simp only [maxLen] at h2
        omega
    refine ⟨_, cap, rfl, hn, hm, fun _ => ⟨_, rfl, fun j p hj => ⟨(cs.drop (j * size)).take size, ?_, hR.2 j p hj, fun i u hu => ?_⟩⟩⟩
    · have hjl := (List.getElem?_eq_some_iff.1 hj).1
      have h1 : j * size + size ≤ cs.length := by rw [hR.1, ← Nat.succ_mul]; exact Nat.mul_le_mul_right _ hjl
      rw [List.length_take, List.length_drop]
      omega
    · refine h.cells (g := g) rfl _ u ?_
      rw [List.getElem?_take] at hu
      split at hu
      · rw [List.getElem?_drop] at hu
        exact hu
      · cases hu
section
variable {P : Program} {ops : Array Oper} {rest : List Oper} {o : Oper} {a : Act} {Q : Exit → Act → World → Prop}
/-- append(v, x), x of several cells; behind 'at_builtin'; the goal's world is 'W.alloc' of the variadic's box. -/
theorem print_append_cells {w0 W : World} (base : Nat) (hgd : o.guard = none) (s x : Operand) (t e : TypeId) (z : Value) (size bytes : Nat)
    (ho : o.op = .call { callee := .builtin .append, args := #[s, x], argTypes := #[t, t] })
    (ht : P.underlying t = some (.slice e)) (hinfo : (P.info? e).map (fun i => (i.zero, i.size, i.bytes)) = some (some z, size, bytes)) (hz : z.cells.size = size) (hs0 : 0 < size) (hb0 : 0 < bytes)
    (v : Value) (n : Nat) (xs ys : List Value) (hs : a.eval s = v) (hx : a.eval x = .slice (some ⟨W.heap.size, 0, none⟩) 1 1) (hys : ys.length = size) (h1 : ∀ u ∈ ys, u.oneCell' = true)
    (HO : W.ownsRow base e size v n xs) (HB : Below base w0 W) (hbase : base ≤ W.heap.size) (hl : (n + 1) * bytes ≤ 140737488355328)
    (h : ∀ v1 w1, w1.ownsRow base e size v1 (n + 1) (xs ++ ys) → Below base w0 w1 → W.grownBy w1 v.ownBlock → (v1.ownBlock = v.ownBlock ∨ ∃ b, v1.ownBlock = some b ∧ W.heap.size ≤ b) → wpList P ops Q rest (a.put o.dst v1) w1) :
    wpList P ops Q (o :: rest) a (W.alloc (.cells ys.toArray e)) := by
  obtain ⟨i0, hi, hzz⟩ := Option.map_eq_some_iff.1 hinfo
  simp only [Prod.mk.injEq] at hzz
  obtain ⟨hz0, hz1, hz2⟩ := hzz
  have hlen : n + 1 ≤ 140737488355328 := Nat.le_trans (Nat.le_mul_of_pos_right _ hb0) hl
  refine wpList_append_own_at (W.alloc (.cells ys.toArray e)) hgd s x t ho base e i0 z size bytes ht hi hz0 hz1 hz2 hz hs0 v n xs hs (HO.alloc _) ⟨W.heap.size, 0, none⟩ 1 1 ys hx (by rw [hys]; simp)
    (by simpa using World.news_of_block (cs := ys.toArray) (t := e) (fr := (0, 0)) (heap_alloc_new W (.cells ys.toArray e))) h1 (by simp only [maxLen]; omega) hl (by simp; omega) ?_
  intro v1 w1 hown hg _ hat
  refine h v1 w1 hown ((HB.alloc hbase _).grown hg (by simp; omega) (own_base HO)) (World.grownBy.trans (World.grownBy_alloc W _ _) hg) ?_
  rcases hat with hat | hat
  · exact .inl hat
  · exact .inr ⟨_, hat, by simp⟩
end

/-! ### 12. A block of one's own that is a state: its cells, what a store leaves -/
theorem own_ne {w : World} {base : Nat} {e t : TypeId} {size n g : Nat} {v : Value} {xs : List Value} {cs : Array Value} (h : w.ownsRow base e size v n xs) (hg : w.heap[g]? = some (.cells cs t (0, 0))) (hne : e ≠ t) : some g ≠ v.ownBlock := by
  rcases h.2 with ⟨rfl, _⟩ | ⟨g', cap, cur, rfl, _, hh, _⟩
  · simp [Value.ownBlock]
  · intro he
    have : g = g' := by simpa [Value.ownBlock] using he
    subst this
    rw [hg] at hh
    injection hh with hh
    injection hh with _ ht
    exact hne ht.symm
theorem blk_set {w : World} {g : Nat} {t : TypeId} {cs : Array Value} (h : w.heap[g]? = some (.cells cs t (0, 0))) (i : Nat) (u : Value) : (w.setCell ⟨g, i, none⟩ u).heap[g]? = some (.cells (cs.setIfInBounds i u) t (0, 0)) := by
  simp [World.setCell, Array.getElem?_modify, h]
theorem blk_lt {w : World} {g : Nat} {o : Obj} (h : w.heap[g]? = some o) : g < w.heap.size := (Array.getElem?_eq_some_iff.1 h).1
theorem blk_frozen {w : World} {g : Nat} {t : TypeId} {cs : Array Value} (h : w.heap[g]? = some (.cells cs t (0, 0))) (i : Nat) : w.frozen? ⟨g, i, none⟩ = false := by simp [World.frozen?, h]
/-! ### 13. Two states at once: what a call on the state at block g (its row before: 'row') has turned -/
def KeepBut (w w' : World) (g : Nat) (row : Option Nat) : Prop := w.heap.size ≤ w'.heap.size ∧ ∀ i, i < w.heap.size → i ≠ g → some i ≠ row → w'.heap[i]? = w.heap[i]?
theorem KeepBut.refl (w : World) (g : Nat) (row : Option Nat) : KeepBut w w g row := ⟨Nat.le_refl _, fun _ _ _ _ => rfl⟩
theorem KeepBut.of_below {w w1 : World} (h : Below w.heap.size w w1) (g : Nat) (row : Option Nat) : KeepBut w w1 g row := ⟨h.size, fun i hi _ _ => h.block i hi⟩
theorem KeepBut.trans {w w1 w2 : World} {g : Nat} {row row1 : Option Nat} (h : KeepBut w w1 g row) (k : KeepBut w1 w2 g row1) (hr : row1 = row ∨ ∃ b, row1 = some b ∧ w.heap.size ≤ b) : KeepBut w w2 g row :=
  ⟨Nat.le_trans h.1 k.1, fun i hi hg hn => by
    refine (k.2 i (Nat.lt_of_lt_of_le hi h.1) hg ?_).trans (h.2 i hi hg hn)
    rcases hr with rfl | ⟨b, rfl, hb⟩
    · exact hn
    · intro e
      injection e with e
      omega⟩
/-- Another block, another row: they live on. -/
theorem KeepBut.blk {w w1 : World} {g g' : Nat} {row : Option Nat} {o : Obj} (h : KeepBut w w1 g row) (hb : w.heap[g']? = some o) (hg : g' ≠ g) (hr : some g' ≠ row) : w1.heap[g']? = some o := (h.2 g' (blk_lt hb) hg hr).trans hb
theorem KeepBut.own {w w1 : World} {g : Nat} {row : Option Nat} {base : Nat} {e : TypeId} {size n : Nat} {v : Value} {xs : List Value} (h : KeepBut w w1 g row) (ho : w.ownsRow base e size v n xs) (hg : v.ownBlock ≠ some g) (hr : v.ownBlock = none ∨ v.ownBlock ≠ row) : w1.ownsRow base e size v n xs := by
  obtain ⟨h1, h2⟩ := ho
  refine ⟨h1, ?_⟩
  rcases h2 with h2 | ⟨b, cap, cur, rfl, hb, hh, r⟩
  · exact .inl h2
  · refine .inr ⟨b, cap, cur, rfl, hb, h.blk hh ?_ ?_, r⟩
    · intro e
      exact hg (by rw [← e]; rfl)
    · rcases hr with hr | hr
      · simp [Value.ownBlock] at hr
      · exact hr
/-! ### 10b. From some number of rounds on -/
def Ev {α : Type} (g : Nat → Option α) (r : α) : Prop := ∃ K, ∀ k, K ≤ k → g k = some r
theorem Ev.of {α : Type} {g : Nat → Option α} {r : α} (hg : ∀ k, LeO (g k) (g (k + 1))) {k : Nat} (h : g k = some r) : Ev g r := ⟨k, fun _ hk => at_rounds hg hk h⟩
theorem Ev.bind {α β : Type} {g : Nat → Option α} {f : Nat → α → Option β} {a : α} {r : β} (h : Ev g a) (k : Ev (fun n => f n a) r) : Ev (fun n => (g n).bind (f n)) r := by
  obtain ⟨K, h⟩ := h
  obtain ⟨K', k⟩ := k
  refine ⟨max K K', fun n hn => ?_⟩
  have h1 := h n (by omega)
  have h2 := k n (by omega)
  simp only [h1, Option.bind_some]
  exact h2
/-- One round of a loop. -/
theorem Ev.step {α : Type} {g f : Nat → Option α} {r : α} (h : ∀ k, g (k + 1) = f k) (k : Ev f r) : Ev g r := by
  obtain ⟨K, k⟩ := k
  refine ⟨K + 1, fun n hn => ?_⟩
  obtain ⟨m, rfl⟩ : ∃ m, n = m + 1 := ⟨n - 1, by omega⟩
  rw [h]
  exact k m (by omega)
theorem Ev.congr {α : Type} {g f : Nat → Option α} {r : α} (h : ∀ k, g k = f k) (k : Ev f r) : Ev g r := by
  obtain ⟨K, k⟩ := k
  exact ⟨K, fun n hn => (h n).trans (k n hn)⟩
/-! ### 14. append as_ one step of a region that draws its order: for 'go_region_law' (and a region walked by hand) -/
section
variable {P : Program} {ops : Array Oper} {o : Oper} {a : Act} {Q : Exit → Act → World → Prop} {K : Act → World → Prop}
end
/-! ### 15. A row's base may be lowered -/
theorem own_weaken {w : World} {base base' : Nat} {e : TypeId} {size n : Nat} {v : Value} {xs : List Value} (h : w.ownsRow base e size v n xs) (hb : base' ≤ base) : w.ownsRow base' e size v n xs := by
  obtain ⟨h1, h2⟩ := h
  refine ⟨h1, ?_⟩
  rcases h2 with h2 | ⟨g, cap, cur, rfl, hg, r⟩
  · exact .inl h2
  · exact .inr ⟨g, cap, cur, rfl, Nat.le_trans hb hg, r⟩
/-! ### 16. Parts 3 to 9 for ANY element of one cell: 'enc' (Value.int k, Value.string, Value.bool), a default 'd' -/
section
variable {α : Type} {enc : α → Value} {d : α}
def encs (enc : α → Value) (xs : List α) : List Value := xs.map enc
theorem encs_length (xs : List α) : (encs enc xs).length = xs.length := by simp [encs]
def ReadsOf (enc : α → Value) (d : α) (w : World) (A : Option Addr) (n : Nat) (xs : List α) : Prop :=
  xs.length = n ∧ n ≤ 9223372036854775807 ∧ (0 < n → ∃ ad, A = some ad ∧ ∀ j, j < n → w.cell? (ad.add j) = some (enc (xs.getD j d)))
theorem ReadsOf.below {w w1 : World} {A : Option Addr} {n : Nat} {xs : List α} (h : ReadsOf enc d w A n xs) (hb : Below w.heap.size w w1) : ReadsOf enc d w1 A n xs :=
  ⟨h.1, h.2.1, fun hn => by
    obtain ⟨ad, e, hc⟩ := h.2.2 hn
    exact ⟨ad, e, fun j hj => pw_cell_below hb (hc j hj)⟩⟩
end
section
variable {α : Type} {P : Program} {ops : Array Oper} {rest : List Oper} {o : Oper} {a : Act} {Q : Exit → Act → World → Prop}
end

/-! ### 17. Rows of one element type held at once: no two share a block -/
/-! ### 18. A block behind a new one; behind a draw -/
theorem blk_new (w : World) (o : Obj) : (w.alloc o).heap[w.heap.size]? = some o := heap_alloc_new w o
/-! ### 19. Results that lie in memory beside others -/
section
variable {P : Program}
end
/-! ### 20. Rows of elements of any kind: R is what an element's cells say -/
theorem own_le {w : World} {base n m c size : Nat} {e : TypeId} {A : Option Addr} {xs : List Value} (h : w.ownsRow base e size (.slice A m c) n xs) : m ≤ c := by
  rcases h.2 with ⟨he, _⟩ | ⟨g, cap, cur, he, _, _, hnc, _⟩
  · injection he with _ h2 h3
    omega
  · injection he with _ h2 h3
    omega
def OwnRow {α : Type} (R : α → List Value → Prop) (e : TypeId) (size : Nat) (w : World) (base : Nat) (v : Value) (ps : List α) : Prop :=
  ∃ inner, w.ownsRow base e size v ps.length inner ∧ Reps R size ps inner
section
variable {α : Type} {R R' : α → List Value → Prop} {e : TypeId} {size : Nat} {w w1 : World} {base : Nat} {v : Value} {ps : List α}
theorem OwnRow.none_ (R : α → List Value → Prop) (e : TypeId) (size : Nat) (w : World) (base : Nat) : OwnRow R e size w base (.slice none 0 0) [] := ⟨[], own_nil _ _ _ _, Reps.none _ _⟩
theorem OwnRow.imp_ (h : OwnRow R e size w base v ps) (hR : ∀ p c, R p c → R' p c) : OwnRow R' e size w base v ps := by
  obtain ⟨inner, ho, hr⟩ := h
  exact ⟨inner, ho, hr.imp_ hR⟩
theorem OwnRow.below (h : OwnRow R e size w base v ps) (hb : Below w.heap.size w w1) : OwnRow R e size w1 base v ps := by
  obtain ⟨inner, ho, hr⟩ := h
  exact ⟨inner, pw_own_below ho hb, hr⟩
theorem OwnRow.other (h : OwnRow R e size w base v ps) {row : Option Nat} (hg : w.grownBy w1 row) (hne : v.ownBlock = none ∨ v.ownBlock ≠ row) : OwnRow R e size w1 base v ps := by
  obtain ⟨inner, ho, hr⟩ := h
  exact ⟨inner, own_other ho hg hne, hr⟩
theorem OwnRow.keep (h : OwnRow R e size w base v ps) {g : Nat} {t : TypeId} {cells : Array Value} (hb : w.heap[g]? = some (.cells cells t (0, 0))) (ht : e ≠ t) (hk : KeepBut w w1 g none) : OwnRow R e size w1 base v ps := by
  obtain ⟨inner, ho, hr⟩ := h
  exact ⟨inner, hk.own ho (Ne.symm (own_ne ho hb ht)) (by cases v.ownBlock <;> simp), hr⟩
theorem OwnRow.reads (h : OwnRow R e size w base v ps) : ∃ A c, v = .slice A ps.length c ∧ ps.length ≤ c ∧ ReadsRow R size w A ps.length ps := by
  obtain ⟨inner, ho, hr⟩ := h
  obtain ⟨A, c, rfl, hrow⟩ := own_reads_row ho hr rfl
  exact ⟨A, c, rfl, own_le ho, hrow⟩
/-- A literal: the elements' cells one behind the other. -/
theorem OwnRow.lit (W : World) (base : Nat) {inner : List Value} (hr : Reps R size ps inner) (hb : base ≤ W.heap.size) (hm : ps.length ≤ 9223372036854775807) :
    OwnRow R e size (W.alloc (.cells inner.toArray e)) base (.slice (some ⟨W.heap.size, 0, none⟩) ps.length ps.length) ps := by
  have h := World.ownsRow_lit (base := base) (e := e) (size := size) W inner.toArray ps.length hb (by simpa [maxLen] using hm) (by simpa using hr.1)
  exact ⟨inner, by simpa using h, hr⟩
end
section
variable {P : Program} {ops : Array Oper} {rest : List Oper} {o : Oper} {a : Act} {Q : Exit → Act → World → Prop} {α : Type} {R : α → List Value → Prop}
/-- append(v, x): x's cells are cs. R is that of the world AHEAD; move it over hg ('OwnRow.imp_'). -/
theorem OwnRow.append {w0 W : World} (base : Nat) (hgd : o.guard = none) (s x : Operand) (t e : TypeId) (z : Value) (size bytes : Nat)
    (ho : o.op = .call { callee := .builtin .append, args := #[s, x], argTypes := #[t, t] })
    (ht : P.underlying t = some (.slice e)) (hinfo : (P.info? e).map (fun i => (i.zero, i.size, i.bytes)) = some (some z, size, bytes)) (hz : z.cells.size = size) (hs0 : 0 < size) (hb0 : 0 < bytes)
    (v : Value) (ps : List α) (p : α) (cs : List Value) (hs : a.eval s = v) (hx : a.eval x = .slice (some ⟨W.heap.size, 0, none⟩) 1 1) (hp : R p cs) (hcs : cs.length = size) (h1 : ∀ u ∈ cs, u.oneCell' = true)
    (HO : OwnRow R e size W base v ps) (HB : Below base w0 W) (hbase : base ≤ W.heap.size) (hl : (ps.length + 1) * bytes ≤ 140737488355328)
    (h : ∀ v1 w1, OwnRow R e size w1 base v1 (ps ++ [p]) → Below base w0 w1 → W.grownBy w1 v.ownBlock → (v1.ownBlock = v.ownBlock ∨ ∃ b, v1.ownBlock = some b ∧ W.heap.size ≤ b) → wpList P ops Q rest (a.put o.dst v1) w1) :
    wpList P ops Q (o :: rest) a (W.alloc (.cells cs.toArray e)) := by
  obtain ⟨inner, hown, hr⟩ := HO
  refine print_append_cells base hgd s x t e z size bytes ho ht hinfo hz hs0 hb0 v ps.length inner cs hs hx hcs h1 hown HB hbase hl ?_
  intro v1 w1 hown1 hb1 hg1 hat1
  exact h v1 w1 ⟨inner ++ cs, by rw [List.length_append, List.length_singleton]; exact hown1, hr.snoc hp hcs⟩ hb1 hg1 hat1
end
section
variable {P : Program} {ops : Array Oper} {o : Oper} {a : Act} {Q : Exit → Act → World → Prop} {K : Act → World → Prop} {α : Type} {R : α → List Value → Prop}
end
/-- What is read as_ a row has its cells one behind the other. -/
theorem ReadsRow.inner_ {α : Type} {R : α → List Value → Prop} {size : Nat} {w : World} {ad : Addr} {n : Nat} {ps : List α} (h : ReadsRow R size w (some ad) n ps) :
    ∃ inner, Reps R size ps inner ∧ ∀ j u, inner[j]? = some u → w.cell? (ad.add j) = some u := by
  have key : ∀ m, m ≤ ps.length → ∃ inner, Reps R size (ps.take m) inner ∧ ∀ j u, inner[j]? = some u → w.cell? (ad.add j) = some u := by
    intro m
    induction m with
    | zero => exact fun _ => ⟨[], Reps.none _ _, fun j u hu => by simp at hu⟩
    | succ m ih =>
      intro hm
      obtain ⟨inner, hr, hc⟩ := ih (by omega)
      obtain ⟨ad', he, hcell⟩ := h.2.2 (by have := h.1; omega)
      injection he with he
      subst he
      obtain ⟨c, hcl, hp, hcc⟩ := hcell m _ (List.getElem?_eq_getElem (show m < ps.length by omega))
      refine ⟨inner ++ c, ?_, fun j u hu => ?_⟩
      · rw [List.take_succ_eq_append_getElem (show m < ps.length by omega)]
        exact hr.snoc hp hcl
      · have hil : inner.length = m * size := by rw [hr.1, List.length_take, Nat.min_eq_left (by omega)]
        rcases Nat.lt_or_ge j inner.length with hj | hj
        · rw [List.getElem?_append_left hj] at hu
          exact hc j u hu
        · rw [List.getElem?_append_right hj] at hu
          have := hcc (j - inner.length) u hu
          rwa [hil, Nat.add_sub_cancel' (by omega)] at this
  obtain ⟨inner, hr, hc⟩ := key ps.length (Nat.le_refl _)
  rw [List.take_length] at hr
  exact ⟨inner, hr, hc⟩
/-! ### 21. Cuts of a slice that came in, lengths spelled as_ the lists' -/
section
variable {α : Type} {P : Program}
theorem ReadsOf.len_ {enc : α → Value} {d : α} {w : World} {A : Option Addr} {n : Nat} {xs : List α} (h : ReadsOf enc d w A n xs) : ReadsOf enc d w A xs.length xs := by rw [h.1]; exact h
end

/-! ### 22. append([]byte, s...), s a string; behind 'at_builtin'. (No word on where the new row lies: two rows of bytes at once don't go by it.) -/
section
variable {P : Program} {ops : Array Oper} {rest : List Oper} {o : Oper} {a : Act} {Q : Exit → Act → World → Prop}
end
/-! ### 23. KINDS: what a value's cells say, read (K) and made (M), kind by kind; every mover proved once -/
/-- ok: which blocks the rows inside may be ('not the row that is being written'). -/
structure Kd (α : Type) where
  sz : Nat
  E : List Nat
  K : World → α → List Value → Prop
  M : World → Nat → (Nat → Prop) → α → List Value → Prop
  K_len : ∀ {w x cs}, K w x cs → cs.length = sz
  K_one : ∀ {w x cs}, K w x cs → ∀ u ∈ cs, u.oneCell' = true
  K_below : ∀ {w w1 : World} {x cs}, Below w.heap.size w w1 → K w x cs → K w1 x cs
  K_of_M : ∀ {w base ok x cs}, M w base ok x cs → K w x cs
  M_mono : ∀ {w base ok ok' x cs}, (∀ k, ok k → ok' k) → M w base ok x cs → M w base ok' x cs
  M_bound : ∀ {w : World} {base ok x cs}, M w base ok x cs → M w base (fun k => ok k ∧ base ≤ k ∧ k < w.heap.size ∧ ∃ q, q ∈ E ∧ ∃ cells, w.heap[k]? = some (.cells cells q (0, 0))) x cs
  M_move : ∀ {w w1 : World} {base ok x cs}, (∀ k, ok k → w1.heap[k]? = w.heap[k]?) → M w base ok x cs → M w1 base ok x cs
  M_lower : ∀ {w base base' ok x cs}, base' ≤ base → M w base ok x cs → M w base' ok x cs

theorem own_move {w w1 : World} {base : Nat} {e : TypeId} {size n : Nat} {v : Value} {xs : List Value} (h : w.ownsRow base e size v n xs) (hm : ∀ k, v.ownBlock = some k → w1.heap[k]? = w.heap[k]?) : w1.ownsRow base e size v n xs := by
  obtain ⟨h1, h2⟩ := h
  refine ⟨h1, ?_⟩
  rcases h2 with h2 | ⟨g, cap, cur, rfl, hg, hh, r⟩
  · exact .inl h2
  · exact .inr ⟨g, cap, cur, rfl, hg, (hm g (by simp [Value.ownBlock])).trans hh, r⟩
theorem own_typed {w : World} {base : Nat} {e : TypeId} {size n : Nat} {v : Value} {xs : List Value} (h : w.ownsRow base e size v n xs) (k : Nat) (hk : v.ownBlock = some k) : ∃ cells, w.heap[k]? = some (.cells cells e (0, 0)) := by
  rcases h.2 with ⟨rfl, _⟩ | ⟨g, cap, cur, rfl, hg, hh, r⟩
  · simp [Value.ownBlock] at hk
  · have : g = k := by simpa [Value.ownBlock] using hk
    subst this
    exact ⟨cur, hh⟩

namespace Kd
/-- A row of elements that is read. -/
def C {α : Type} (d : Kd α) (w : World) (A : Option Addr) (n : Nat) (xs : List α) : Prop := ReadsRow (d.K w) d.sz w A n xs
/-- A row of elements (type e) of the call's own; the elements' rows are not this one. -/
def R {α : Type} (d : Kd α) (e : Nat) (w : World) (base : Nat) (ok : Nat → Prop) (v : Value) (xs : List α) : Prop :=
  (∀ k, v.ownBlock = some k → ok k) ∧ OwnRow (d.M w base (fun k => ok k ∧ some k ≠ v.ownBlock)) e d.sz w base v xs
section
variable {α : Type} {d : Kd α} {e : Nat} {w w1 : World} {base : Nat} {ok ok' : Nat → Prop} {v : Value} {xs : List α}
theorem C_below {A : Option Addr} {n : Nat} (h : d.C w A n xs) (hb : Below w.heap.size w w1) : d.C w1 A n xs := ReadsRow.imp_ h hb (fun _ _ hp => d.K_below hb hp)
theorem R_nil (d : Kd α) (e : Nat) (w : World) (base : Nat) (ok : Nat → Prop) : d.R e w base ok (.slice none 0 0) [] := ⟨fun k hk => by simp [Value.ownBlock] at hk, OwnRow.none_ _ _ _ _ _⟩
theorem R_mono (h : d.R e w base ok v xs) (hok : ∀ k, ok k → ok' k) : d.R e w base ok' v xs := ⟨fun k hk => hok k (h.1 k hk), h.2.imp_ (fun _ _ hp => d.M_mono (fun k hk => ⟨hok k hk.1, hk.2⟩) hp)⟩
theorem R_bound (h : d.R e w base ok v xs) : d.R e w base (fun k => ok k ∧ base ≤ k ∧ k < w.heap.size ∧ ∃ q, q ∈ e :: d.E ∧ ∃ cells, w.heap[k]? = some (.cells cells q (0, 0))) v xs := by
  obtain ⟨h0, inner, ho, hr⟩ := h
  refine ⟨fun k hk => ?_, inner, ho, hr.imp_ (fun _ _ hp => d.M_mono (fun k hk => ?_) (d.M_bound hp))⟩
  · obtain ⟨cells, hc⟩ := own_typed ho k hk
    exact ⟨h0 k hk, own_base ho k hk, own_lt ho k hk, e, List.mem_cons_self, cells, hc⟩
  · obtain ⟨⟨h1, h2⟩, h3, h4, q, hq, hc⟩ := hk
    exact ⟨⟨h1, h3, h4, q, List.mem_cons_of_mem _ hq, hc⟩, h2⟩
theorem R_move (h : d.R e w base ok v xs) (hm : ∀ k, ok k → w1.heap[k]? = w.heap[k]?) : d.R e w1 base ok v xs := by
  obtain ⟨h0, inner, ho, hr⟩ := h
  exact ⟨h0, inner, own_move ho (fun k hk => hm k (h0 k hk)), hr.imp_ (fun _ _ hp => d.M_move (fun k hk => hm k hk.1) hp)⟩
theorem R_lower {base' : Nat} (h : d.R e w base ok v xs) (hb : base' ≤ base) : d.R e w base' ok v xs := by
  obtain ⟨h0, inner, ho, hr⟩ := h
  exact ⟨h0, inner, own_weaken ho hb, hr.imp_ (fun _ _ hp => d.M_lower hb hp)⟩
theorem M_step {x : α} {cs : List Value} (h : d.M w base ok x cs) (hm : ∀ k, ok k → k < w.heap.size → w1.heap[k]? = w.heap[k]?) : d.M w1 base ok x cs :=
  d.M_mono (fun _ hk => hk.1) (d.M_move (fun k hk => hm k hk.1 hk.2.2.1) (d.M_bound h))
theorem M_below {x : α} {cs : List Value} (h : d.M w base ok x cs) (hb : Below w.heap.size w w1) : d.M w1 base ok x cs := M_step h (fun k _ hk => hb.block k hk)
theorem R_reads (h : d.R e w base ok v xs) : ∃ A c, v = .slice A xs.length c ∧ xs.length ≤ c ∧ d.C w A xs.length xs := by
  obtain ⟨A, c, he, hl, hr⟩ := OwnRow.reads h.2
  exact ⟨A, c, he, hl, hr.imp_ (Below.refl _ _) (fun _ _ hp => d.K_of_M hp)⟩
theorem R_own (h : d.R e w base ok v xs) : ∃ inner, w.ownsRow base e d.sz v xs.length inner := by
  obtain ⟨_, inner, ho, _⟩ := h
  exact ⟨inner, ho⟩
end

/-! #### the kinds -/
def scalar {α : Type} (enc : α → Value) (h1 : ∀ x, (enc x).oneCell' = true) : Kd α where
  sz := 1
  E := []
  K := fun _ x cs => cs = [enc x]
  M := fun _ _ _ x cs => cs = [enc x]
  K_len := fun h => by rw [h]; rfl
  K_one := fun h u hu => by
    rw [h] at hu
    rw [List.mem_singleton.1 hu]
    exact h1 _
  K_below := fun _ h => h
  K_of_M := fun h => h
  M_mono := fun _ h => h
  M_bound := fun h => h
  M_move := fun _ h => h
  M_lower := fun _ h => h
def int (k : IntKind) : Kd Int := scalar (Value.int k) (fun _ => rfl)
def bool : Kd Bool := scalar Value.bool (fun _ => rfl)
def string : Kd ByteArray := scalar Value.string (fun _ => rfl)
def slice {α : Type} (e : Nat) (d : Kd α) : Kd (List α) where
  sz := 1
  E := e :: d.E
  K := fun w xs cs => ∃ A c, cs = [.slice A xs.length c] ∧ xs.length ≤ c ∧ d.C w A xs.length xs
  M := fun w base ok xs cs => ∃ v, cs = [v] ∧ d.R e w base ok v xs
  K_len := by
    rintro w x cs ⟨A, c, rfl, _⟩
    rfl
  K_one := by
    rintro w x cs ⟨A, c, rfl, _⟩ u hu
    rw [List.mem_singleton.1 hu]
    rfl
  K_below := by
    rintro w w1 x cs hb ⟨A, c, rfl, hl, hr⟩
    exact ⟨A, c, rfl, hl, C_below hr hb⟩
  K_of_M := by
    rintro w base ok x cs ⟨v, rfl, h⟩
    obtain ⟨A, c, rfl, hl, hr⟩ := R_reads h
    exact ⟨A, c, rfl, hl, hr⟩
  M_mono := by
    rintro w base ok ok' x cs hok ⟨v, rfl, h⟩
    exact ⟨v, rfl, R_mono h hok⟩
  M_bound := by
    rintro w base ok x cs ⟨v, rfl, h⟩
    exact ⟨v, rfl, R_bound h⟩
  M_move := by
    rintro w w1 base ok x cs hm ⟨v, rfl, h⟩
    exact ⟨v, rfl, R_move h hm⟩
  M_lower := by
    rintro w base base' ok x cs hb ⟨v, rfl, h⟩
    exact ⟨v, rfl, R_lower h hb⟩
/-- Two in line. -/
def pair {α β : Type} (a : Kd α) (b : Kd β) : Kd (α × β) where
  sz := a.sz + b.sz
  E := a.E ++ b.E
  K := fun w x cs => ∃ c0 c1, cs = c0 ++ c1 ∧ a.K w x.1 c0 ∧ b.K w x.2 c1
  M := fun w base ok x cs => ∃ c0 c1, cs = c0 ++ c1 ∧ a.M w base ok x.1 c0 ∧ b.M w base ok x.2 c1
  K_len := by
    rintro w x cs ⟨c0, c1, rfl, h0, h1⟩
    rw [List.length_append, a.K_len h0, b.K_len h1]
  K_one := by
    rintro w x cs ⟨c0, c1, rfl, h0, h1⟩ u hu
    rcases List.mem_append.1 hu with hu | hu
    · exact a.K_one h0 u hu
    · exact b.K_one h1 u hu
  K_below := by
    rintro w w1 x cs hb ⟨c0, c1, rfl, h0, h1⟩
    exact ⟨c0, c1, rfl, a.K_below hb h0, b.K_below hb h1⟩
  K_of_M := by
    rintro w base ok x cs ⟨c0, c1, rfl, h0, h1⟩
    exact ⟨c0, c1, rfl, a.K_of_M h0, b.K_of_M h1⟩
  M_mono := by
    rintro w base ok ok' x cs hok ⟨c0, c1, rfl, h0, h1⟩
    exact ⟨c0, c1, rfl, a.M_mono hok h0, b.M_mono hok h1⟩
  M_bound := by
    rintro w base ok x cs ⟨c0, c1, rfl, h0, h1⟩
    refine ⟨c0, c1, rfl, a.M_mono ?_ (a.M_bound h0), b.M_mono ?_ (b.M_bound h1)⟩
    · rintro k ⟨h2, h3, h4, q, hq, hc⟩
      exact ⟨h2, h3, h4, q, List.mem_append_left _ hq, hc⟩
    · rintro k ⟨h2, h3, h4, q, hq, hc⟩
      exact ⟨h2, h3, h4, q, List.mem_append_right _ hq, hc⟩
  M_move := by
    rintro w w1 base ok x cs hm ⟨c0, c1, rfl, h0, h1⟩
    exact ⟨c0, c1, rfl, a.M_move hm h0, b.M_move hm h1⟩
  M_lower := by
    rintro w base base' ok x cs hb ⟨c0, c1, rfl, h0, h1⟩
    exact ⟨c0, c1, rfl, a.M_lower hb h0, b.M_lower hb h1⟩
/-- Nothing is of this kind: where the nesting's depth is used up. -/
def bot {α : Type} (sz : Nat) (E : List Nat) : Kd α where
  sz := sz
  E := E
  K := fun _ _ _ => False
  M := fun _ _ _ _ _ => False
  K_len := fun h => h.elim
  K_one := fun h => h.elim
  K_below := fun _ h => h
  K_of_M := fun h => h
  M_mono := fun _ h => h
  M_bound := fun h => h
  M_move := fun _ h => h
  M_lower := fun _ h => h
/-- A type nested in itself: nested at most n deep .. -/
def upto {α : Type} (F : Kd α → Kd α) (sz : Nat) (E : List Nat) : Nat → Kd α
  | 0 => bot sz E
  | n + 1 => F (upto F sz E n)
/-! #### an element of a row that is read; an element appended -/
section
variable {P : Program} {ops : Array Oper} {rest : List Oper} {o : Oper} {a : Act} {Q : Exit → Act → World → Prop} {α : Type}
end
section
variable {P : Program} {ops : Array Oper} {o : Oper} {a : Act} {Q : Exit → Act → World → Prop} {Kc : Act → World → Prop} {α : Type}
end
/-- A row of scalars is the elder form. -/
theorem reps_scalar {α : Type} {enc : α → Value} (xs : List α) : Reps (fun (x : α) (cs : List Value) => cs = [enc x]) 1 xs (encs enc xs) := by
  refine ⟨by simp [encs], fun j p hj => ?_⟩
  obtain ⟨hl, hp⟩ := List.getElem?_eq_some_iff.1 hj
  have hl' : j < (encs enc xs).length := by rw [encs_length]; exact hl
  rw [Nat.mul_one, List.drop_eq_getElem_cons hl']
  simp [encs, hp]
theorem R_of_own {α : Type} {enc : α → Value} {h1 : ∀ x, (enc x).oneCell' = true} {e : Nat} {w : World} {base : Nat} {ok : Nat → Prop} {v : Value} {xs : List α} (ho : w.ownsRow base e 1 v xs.length (encs enc xs)) (hok : ∀ k, v.ownBlock = some k → ok k) : (scalar enc h1).R e w base ok v xs := ⟨hok, encs enc xs, ho, reps_scalar xs⟩
theorem own_of_R {α : Type} {enc : α → Value} {h1 : ∀ x, (enc x).oneCell' = true} {e : Nat} {w : World} {base : Nat} {ok : Nat → Prop} {v : Value} {xs : List α} (h : (scalar enc h1).R e w base ok v xs) : w.ownsRow base e 1 v xs.length (encs enc xs) := by
  obtain ⟨_, inner, ho, hr⟩ := h
  have : inner = encs enc xs := by
    apply List.ext_getElem?
    intro j
    rcases Nat.lt_or_ge j xs.length with hj | hj
    · have h2 := hr.2 j _ (List.getElem?_eq_getElem hj)
      have hl : j < inner.length := by have := hr.1; simp [scalar] at this; omega
      have h3 : (inner.drop (j * 1)).take 1 = [enc xs[j]] := h2
      rw [Nat.mul_one, List.drop_eq_getElem_cons hl] at h3
      have h4 : inner[j] = enc xs[j] := by
        have h5 := congrArg List.head? h3
        rw [List.take_succ_cons] at h5
        exact Option.some.inj h5
      rw [List.getElem?_eq_getElem hl, h4]
      simp [encs, List.getElem?_eq_getElem hj]
    · have h3 : inner.length = xs.length := by have := hr.1; simp [scalar] at this; omega
      rw [List.getElem?_eq_none (by omega), List.getElem?_eq_none (by rw [encs_length]; omega)]
  rw [← this]
  exact ho
end Kd
/-! ### 24. Kinds nested in themselves -/
namespace Kd
section
variable {α : Type} {F : Kd α → Kd α} {sz : Nat} {E : List Nat} {hs : ∀ n, (upto F sz E n).sz = sz} {hE : ∀ n q, q ∈ (upto F sz E n).E → q ∈ E}
end
end Kd
/-! ### 25. What is held while another row is written: 'ok' says that its rows are none of that row's block -/
namespace Kd
end Kd
/-! ### 26. Words for a printer that takes every slice by its kind -/
namespace Kd
section
variable {α β : Type} {d : Kd α} {d' : Kd β} {e e' : Nat} {w w1 W : World} {base b b' : Nat} {ok ok' okv oku : Nat → Prop} {v u : Value} {xs : List α} {ys : List β}
theorem C_nil (d : Kd α) (w : World) : d.C w none ([] : List α).length [] := ⟨rfl, by simp, fun h => absurd h (Nat.lt_irrefl 0)⟩
theorem R_base (h : d.R e w base ok v xs) : ∀ k, v.ownBlock = some k → base ≤ k := by
  obtain ⟨inner, ho⟩ := R_own h
  exact own_base ho
end
/-! #### scalars -/
section
variable {w W : World} {A : Option Addr} {n : Nat}
variable {α : Type} {enc : α → Value} {h1 : ∀ x, (enc x).oneCell' = true} {e base g cap : Nat} {ok : Nat → Prop} {xs : List α}
end

/-! #### events: a letter for what make and a literal leave -/
section
variable {P : Program} {ops : Array Oper} {rest : List Oper} {o : Oper} {a : Act} {Q : Exit → Act → World → Prop}
theorem event_run {W w1 : World} {v : Value} (hgd : o.guard = none) (hrun : (execOp a.eval o).run P W = .ok (.value v) w1) (h : wpList P ops Q rest (a.put o.dst v) w1) : wpList P ops Q (o :: rest) a W := by
  refine wpList_plain hgd fun K hK => ?_
  unfold Oper.wp
  rw [hrun]
  exact hK _ _ h
variable {α : Type}
/-- A literal '[]T{..}': inner its cells. 'hd' picks the operation; 'hrun' by '(by go_simp; rfl)'. -/
theorem R_lit (d : Kd α) {w0 W : World} (base e : Nat) (hgd : o.guard = none) {N : Tmp} (_hd : o.dst = some N) {xs : List α} {inner : List Value} {ok okp : Nat → Prop}
    (hrun : (execOp a.eval o).run P W = .ok (.value (.slice (some ⟨W.heap.size, 0, none⟩) xs.length xs.length)) (W.alloc (.cells inner.toArray e)))
    (hrep : Reps (d.M W base okp) d.sz xs inner) (hok : ∀ k, okp k → ok k) (hfresh : ok W.heap.size) (HB : Below base w0 W) (hbase : base ≤ W.heap.size) (hm : xs.length ≤ 9223372036854775807)
    (h : ∀ v1 w1, d.R e w1 base ok v1 xs → Below base w0 w1 → W.grownBy w1 none → (∃ b, v1.ownBlock = some b ∧ W.heap.size ≤ b) → wpList P ops Q rest (a.put o.dst v1) w1) : wpList P ops Q (o :: rest) a W := by
  refine event_run hgd hrun (h _ _ ⟨fun k hk => ?_, inner, ?_, ?_⟩ (HB.alloc hbase _) (World.grownBy_alloc W _ none) ⟨W.heap.size, by simp [Value.ownBlock], Nat.le_refl _⟩)
  · have : W.heap.size = k := by simpa [Value.ownBlock] using hk
    subst this
    exact hfresh
  · have h2 := World.ownsRow_lit (base := base) (e := e) (size := d.sz) W inner.toArray xs.length hbase (by simpa [maxLen] using hm) (by simpa using hrep.1)
    simpa using h2
  · refine hrep.imp_ (fun p c hp => d.M_mono (fun k hk => ⟨hok k hk.1, fun he => ?_⟩) (M_below (d.M_bound hp) (below_alloc (Below.refl _ _) _)))
    have h3 : k = W.heap.size := by simpa [Value.ownBlock] using he
    have := hk.2.2.1
    omega
theorem reps_made {α : Type} {R : α → List Value → Prop} {z : Value} {size : Nat} {z0 : α} (hz : z.cells.size = size) (hs : 0 < size) (h0 : R z0 z.cells.toList) (m : Nat) : Reps R size (List.replicate m z0) (madeCells z.cells (m * size)).toList := by
  refine ⟨by simp [size_madeCells], fun j p hj => ?_⟩
  obtain ⟨hjl, hp⟩ := List.getElem?_eq_some_iff.1 hj
  have hjm : j < m := by simpa using hjl
  have hp' : z0 = p := by simpa using hp
  subst hp'
  have hle : j * size + size ≤ m * size := by rw [← Nat.succ_mul]; exact Nat.mul_le_mul_right _ hjm
  have : ((madeCells z.cells (m * size)).toList.drop (j * size)).take size = z.cells.toList := by
    apply List.ext_getElem
    · simp [size_madeCells, hz]
      omega
    · intro i h1 h2
      have hi : i < size := by rw [Array.length_toList, hz] at h2; exact h2
      have hmod : (j * size + i) % size = i := by
        rw [Nat.mul_comm, Nat.mul_add_mod]
        exact Nat.mod_eq_of_lt hi
      simp [madeCells, hz, hmod]
      rw [getElem!_pos z.cells i (by omega)]
  rw [this]
  exact h0
end
end Kd
/-! ### 27. Cuts of a row of one's own: 'xs = xs[:n]' stays a row (R_take); 'xs = xs[k:]' is a row that begins inside its block (Kd.Q), append goes on it too -/
section
variable {P : Program}
theorem cut_to (t e : TypeId) (kh : IntKind) {i : TypeInfo} (ht : P.underlying t = some (.slice e)) (hi : P.info? e = some i) (A : Option Addr) (n c : Nat) (j : Int) (h0 : 0 ≤ j) (hm : j ≤ n) (hc : n ≤ c) :
    ∀ W : World, (Instr.slice t (.slice A n c) none (some (.int kh j)) none).run P W = .ok (.slice A j.toNat c) W := by
  intro W
  have hel : P.elem t = e := by simp [Program.elem, ht]
  have hu : P.underlying t = some (.slice (P.elem t)) := by rw [hel]; exact ht
  have ha : (A.map fun x => x.add 0) = A := by cases A <;> simp [Addr.add]
  rw [run_slice_h W t A n c hu kh j h0 (by omega), hel]
  simp [sizeOf, typeInfo, hi, sliced, Result.andThen, ha]
end
/-- A row of one's own that may begin inside its block. -/
def QRow (w : World) (base : Nat) (e : TypeId) (size : Nat) (v : Value) (n : Nat) (xs : List Value) : Prop :=
  xs.length = n * size ∧
  ((n = 0 ∧ ∃ A, v = .slice A 0 0 ∧ ∀ a, A = some a → base ≤ a.block ∧ ∃ cur, w.heap[a.block]? = some (.cells cur e (0, 0))) ∨
   ∃ g off cap cur, v = .slice (some ⟨g, off * size, none⟩) n cap ∧ base ≤ g ∧ w.heap[g]? = some (.cells cur e (0, 0)) ∧ n ≤ cap ∧ off + cap ≤ maxLen ∧ cur.size = (off + cap) * size ∧ (cur.toList.drop (off * size)).take (n * size) = xs)
section
variable {w w1 : World} {base n size : Nat} {e : TypeId} {v : Value} {xs : List Value}
/-- What a run of cells written leaves. -/
theorem setCells_far {g : Nat} : ∀ (vs : List Value) (o : Nat) {w : World} (k : Nat), k ≠ g → (w.setCells g o vs).heap[k]? = w.heap[k]?
  | [], _, _, _, _ => rfl
  | v :: r, o, w, k, hk => by
    rw [World.setCells, setCells_far r (o + 1) k hk]
    exact Below.heap_setCell w ⟨g, o, none⟩ v k hk
theorem setCells_same (g : Nat) : ∀ (vs : List Value) (o : Nat) (w : World), (w.setCells g o vs).os = w.os ∧ (w.setCells g o vs).tape = w.tape ∧ (w.setCells g o vs).output = w.output ∧ (w.setCells g o vs).heap.size = w.heap.size
  | [], _, _ => ⟨rfl, rfl, rfl, rfl⟩
  | v :: r, o, w => by
    obtain ⟨h1, h2, h3, h4⟩ := setCells_same g r (o + 1) (w.setCell ⟨g, o, none⟩ v)
    rw [World.setCells]
    exact ⟨h1, h2, h3, by rw [h4]; simp [World.setCell]⟩
theorem setCells_row {g : Nat} {e : TypeId} : ∀ (vs : List Value) (o : Nat) (w : World) (cur : Array Value), w.heap[g]? = some (.cells cur e (0, 0)) → o + vs.length ≤ cur.size →
    ∃ cur', (w.setCells g o vs).heap[g]? = some (.cells cur' e (0, 0)) ∧ cur'.size = cur.size ∧ cur'.toList = cur.toList.take o ++ vs ++ cur.toList.drop (o + vs.length)
  | [], o, w, cur, h, _ => ⟨cur, h, rfl, by simp⟩
  | v :: r, o, w, cur, h, hl => by
    have h2 := blk_set h o v
    simp only [List.length_cons] at hl
    obtain ⟨cur', h3, h4, h5⟩ := setCells_row r (o + 1) (w.setCell ⟨g, o, none⟩ v) _ h2 (by simp; omega)
    refine ⟨cur', h3, by rw [h4]; simp, ?_⟩
    rw [h5, Array.toList_setIfInBounds]
    have ho : o < cur.toList.length := by rw [Array.length_toList]; omega
    rw [List.take_set, List.drop_set_of_lt (by omega)]
    simp only [List.length_cons]
    rw [show o + 1 + r.length = o + (r.length + 1) by omega]
    congr 1
    rw [List.take_succ_eq_append_getElem ho, List.set_append_right _ _ (by rw [List.length_take]; omega)]
    have ho' : o < cur.size := by omega
    simp [Nat.min_eq_left (Nat.le_of_lt ho')]
end
section
variable {P : Program}
end
/-! ### 28. The kinds' words for cuts: R_take; Q (a row that may begin inside its block) with all of R's movers -/
namespace Kd
def Q {α : Type} (d : Kd α) (e : Nat) (w : World) (base : Nat) (ok : Nat → Prop) (v : Value) (xs : List α) : Prop :=
  (∀ k, v.ownBlock = some k → ok k) ∧ ∃ inner, QRow w base e d.sz v xs.length inner ∧ Reps (d.M w base (fun k => ok k ∧ some k ≠ v.ownBlock)) d.sz xs inner
section
variable {α : Type} {d : Kd α} {e : Nat} {w w1 W : World} {base : Nat} {ok ok' : Nat → Prop} {v : Value} {xs : List α}
end
section
variable {P : Program} {ops : Array Oper} {rest : List Oper} {o : Oper} {a : Act} {Q' : Exit → Act → World → Prop} {Kc : Act → World → Prop} {α : Type}
end
end Kd
/-! ### 29. Movers that ask of another row no more than they need: for R and for Q -/
namespace Kd
section
variable {α : Type} {d : Kd α} {e e' : Nat} {w w1 W : World} {base : Nat} {ok : Nat → Prop} {u v : Value} {xs : List α}
end
end Kd
/-! ### 30. Elements written: x[i] = T{..}, x[i].f = v, swaps, in a row of elements of any kind -/
namespace Kd
section
variable {α : Type} {d : Kd α} {e base g n cap : Nat} {ok okp : Nat → Prop} {W : World} {xs : List α}
end
end Kd
/-! ### 31. What came in, put into what is made: 'fixed d w0' (read in w0, whatever happens since), 'or_ a b', 'mix' (a slice that came in, or one that is made) -/
namespace Kd
section
variable {α : Type} {F : Kd α → Kd α} {sz : Nat} {E : List Nat} {hs : ∀ n, (upto F sz E n).sz = sz} {hE : ∀ n q, q ∈ (upto F sz E n).E → q ∈ E}
end
end Kd
/-! ### 32. A whole row appended, of elements of any kind; copy onto a row of scalars of one's own -/
namespace Kd
theorem reps_append {α : Type} {R : α → List Value → Prop} {size : Nat} {ps qs : List α} {cs ds : List Value} (h : Reps R size ps cs) (h' : Reps R size qs ds) : Reps R size (ps ++ qs) (cs ++ ds) := by
  refine ⟨by rw [List.length_append, List.length_append, h.1, h'.1, Nat.add_mul], fun j p hj => ?_⟩
  rcases Nat.lt_or_ge j ps.length with hlt | hge
  · rw [List.getElem?_append_left hlt] at hj
    have hle : j * size + size ≤ cs.length := by rw [h.1, ← Nat.succ_mul]; exact Nat.mul_le_mul_right _ hlt
    rw [List.drop_append_of_le_length (by omega), List.take_append_of_le_length (by rw [List.length_drop]; omega)]
    exact h.2 j p hj
  · rw [List.getElem?_append_right hge] at hj
    have h2 := h'.2 (j - ps.length) p hj
    have hle : ps.length * size ≤ j * size := Nat.mul_le_mul_right _ hge
    rw [List.drop_append, List.drop_eq_nil_of_le (by rw [h.1]; exact hle), List.nil_append, h.1, ← Nat.sub_mul]
    exact h2
section
variable {P : Program} {ops : Array Oper} {rest : List Oper} {o : Oper} {a : Act} {Q : Exit → Act → World → Prop} {α : Type}
/-- append(v, ys...): Rr is what is known of a read element's cells (d.K W; or k<T>.K w0 for a row that came in), hKM: it may stand as_ made. -/
theorem R_append_rows (d : Kd α) {Rr : α → List Value → Prop} {w0 W : World} (base : Nat) (hgd : o.guard = none) (s x : Operand) (t e : TypeId) (z : Value) (bytes : Nat)
    (ho : o.op = .call { callee := .builtin .append, args := #[s, x], argTypes := #[t, t] })
    (ht : P.underlying t = some (.slice e)) (hinfo : (P.info? e).map (fun i => (i.zero, i.size, i.bytes)) = some (some z, d.sz, bytes)) (hz : z.cells.size = d.sz) (hs0 : 0 < d.sz) (hb0 : 0 < bytes)
    (v : Value) (xs ys : List α) (A : Option Addr) (m c : Nat) (ok okp : Nat → Prop) (hs : a.eval s = v) (hx : a.eval x = .slice A m c)
    (HO : d.R e W base ok v xs) (HR : ReadsRow Rr d.sz W A m ys) (hKM : ∀ x cs, Rr x cs → d.M W base okp x cs) (hokp : ∀ k, okp k → ok k ∧ some k ≠ v.ownBlock) (hfresh : ∀ k, W.heap.size ≤ k → ok k)
    (HB : Below base w0 W) (hbase : base ≤ W.heap.size) (hl : (xs.length + m) * bytes ≤ 140737488355328)
    (h : ∀ v1 w1, d.R e w1 base ok v1 (xs ++ ys) → Below base w0 w1 → W.grownBy w1 v.ownBlock → (v1.ownBlock = v.ownBlock ∨ ∃ b, v1.ownBlock = some b ∧ W.heap.size ≤ b) → wpList P ops Q rest (a.put o.dst v1) w1) :
    wpList P ops Q (o :: rest) a W := by
  obtain ⟨i0, hi, hzz⟩ := Option.map_eq_some_iff.1 hinfo
  simp only [Prod.mk.injEq] at hzz
  obtain ⟨hz0, hz1, hz2⟩ := hzz
  have hm : ys.length = m := HR.1
  have hlen : xs.length + m ≤ 140737488355328 := Nat.le_trans (Nat.le_mul_of_pos_right _ hb0) hl
  obtain ⟨hok, inner, hown, hr⟩ := HO
  have hrun : ∃ v1 w1, (Builtin.append_ #[t, t] o.type #[v, .slice A m c]).run P W = .ok v1 w1 ∧ d.R e w1 base ok v1 (xs ++ ys) ∧ W.grownBy w1 v.ownBlock ∧ (v1.ownBlock = v.ownBlock ∨ ∃ b, v1.ownBlock = some b ∧ W.heap.size ≤ b) := by
    rcases A with _ | ad
    · have h0 : m = 0 := by
        rcases Nat.eq_zero_or_pos m with h0 | h0
        · exact h0
        · obtain ⟨ad, h, _⟩ := HR.2.2 h0
          cases h
      subst h0
      obtain rfl : ys = [] := List.eq_nil_of_length_eq_zero hm
      refine ⟨v, W, ?_, by rw [List.append_nil]; exact ⟨hok, inner, hown, hr⟩, World.grownBy.refl W _, .inl rfl⟩
      rcases hown.2 with ⟨rfl, hn⟩ | ⟨g, cap, cur, rfl, _, _, hnc, _⟩
      · simp [Builtin.append_, run_underlying ht, sizeOf, typeInfo, hi, Builtin.lenOf, Builtin.firstCells]
      · simp [Builtin.append_, run_underlying ht, sizeOf, typeInfo, hi, Builtin.lenOf, Builtin.firstCells, hnc, storeCells]
    · obtain ⟨news, hnr, hnc⟩ := ReadsRow.inner_ HR
      have hnM : Reps (d.M W base okp) d.sz ys news := hnr.imp_ (fun p c hp => hKM p c hp)
      have hone : ∀ u ∈ news, u.oneCell' = true := by
        intro u hu
        obtain ⟨q, hq, rfl⟩ := List.mem_iff_getElem.1 hu
        have hql : q / d.sz < ys.length := by
          rw [Nat.div_lt_iff_lt_mul hs0]
          rw [← hnM.1]
          exact hq
        have hc := hnM.2 (q / d.sz) _ (List.getElem?_eq_getElem hql)
        refine d.K_one (d.K_of_M hc) _ ?_
        rw [List.mem_iff_getElem?]
        refine ⟨q % d.sz, ?_⟩
        rw [List.getElem?_take, if_pos (Nat.mod_lt _ hs0), List.getElem?_drop, Nat.mul_comm, Nat.div_add_mod, List.getElem?_eq_getElem hq]
      obtain ⟨v1, w1, hrun, h2, hg, _, hat⟩ := run_append_own_at (P := P) W base t o.type e i0 z d.sz bytes ht hi hz0 hz1 hz2 hz hs0 v xs.length inner hown ad m c news (by rw [hnM.1, hm]) hnc hone (by simp only [maxLen]; omega) hl hbase
      have hat' : v1.ownBlock = v.ownBlock ∨ ∃ b, v1.ownBlock = some b ∧ W.heap.size ≤ b := by
        rcases hat with hat | hat
        · exact .inl hat
        · exact .inr ⟨_, hat, Nat.le_refl _⟩
      have hne : ∀ k, some k ≠ v.ownBlock → k < W.heap.size → some k ≠ v1.ownBlock := by
        intro k hk hlt
        rcases hat' with hat | ⟨b, hb, hle⟩
        · rw [hat]; exact hk
        · rw [hb]
          intro he
          injection he with he
          omega
      have step : ∀ {q : α} {c : List Value} {o : Nat → Prop}, d.M W base o q c → (∀ k, o k → ok k ∧ some k ≠ v.ownBlock) → d.M w1 base (fun k => ok k ∧ some k ≠ v1.ownBlock) q c := by
        intro q c o hq ho
        have h1 := d.M_move (w1 := w1) (fun k hk => hg.block k hk.2.2.1 (ho k hk.1).2) (d.M_bound hq)
        exact d.M_mono (fun k hk => ⟨(ho k hk.1).1, hne k (ho k hk.1).2 hk.2.2.1⟩) h1
      refine ⟨v1, w1, hrun, ⟨fun k hk => ?_, inner ++ news, by rw [List.length_append, hm]; exact h2, reps_append (hr.imp_ (fun _ _ hq => step hq (fun _ hk => hk))) (hnM.imp_ (fun _ _ hq => step hq hokp))⟩, hg, hat'⟩
      rcases hat' with hat | ⟨b, hb, hle⟩
      · exact hok k (hat ▸ hk)
      · rw [hb] at hk
        injection hk with hk
        exact hfresh k (by omega)
  obtain ⟨v1, w1, hr1, h1, hg, hat⟩ := hrun
  refine wpList_plain hgd fun K hK => ?_
  unfold Oper.wp execOp
  simp only [ho, resolve, invoke, builtin, Sem.run_bind, Sem.run_pure, Result.andThen_ok, List.map_toArray, List.map_cons, List.map_nil, hs, hx, hr1]
  exact hK _ _ (h v1 w1 h1 (HB.grown hg hbase (own_base hown)) hg hat)
end
end Kd
/-! ### 33. A store into a row of one's own, as_ an event: no go_simp -/
namespace Kd
section
variable {P : Program} {ops : Array Oper} {rest : List Oper} {o : Oper} {a : Act} {Q : Exit → Act → World → Prop} {α : Type}
end
end Kd
/-! ### 34. Cuts that are only read, of any row -/
theorem add_add (a : Addr) (i j : Nat) : (a.add i).add j = a.add (i + j) := by
  unfold Addr.add
  by_cases h1 : i = 0 <;> by_cases h2 : j = 0 <;> simp [h1, h2, Nat.add_assoc]
namespace Kd
section
variable {α : Type} {k : Kd α} {w : World} {A : Option Addr} {xs : List α} {m c : Nat}
end
end Kd
section
variable {P : Program}
end
/-! ### 35. string(b), b read (a cut too) -/
/-! ### 6. What the printer adds -/
theorem ReadsInt.nil (W : World) (k : IntKind) : ReadsInt W k none ([] : List Int).length [] := ⟨rfl, by simp, fun h => absurd h (Nat.lt_irrefl 0)⟩
theorem ReadsInt.drewN {W : World} {k : IntKind} {A : Option Addr} {n : Nat} {xs : List Int} (h : ReadsInt W k A n xs) (m : Nat) : ReadsInt (W.drewN m) k A n xs := h
theorem keep_cell {w W : World} {g : Nat} (h : KeepBut w W g none) {a : Addr} {v : Value} (hc : w.cell? a = some v) (hne : a.block ≠ g) : W.cell? a = some v := by
  have := h.2 a.block (World.block_lt_of_cell? w a hc) hne (by simp)
  simpa [World.cell?, this] using hc
theorem add_block (a : Addr) (i : Nat) : (a.add i).block = a.block := by unfold Addr.add; split <;> rfl
theorem ReadsOf.nil {α : Type} (enc : α → Value) (d : α) (W : World) : ReadsOf enc d W none ([] : List α).length [] := ⟨rfl, by simp, fun h => absurd h (Nat.lt_irrefl 0)⟩
theorem ReadsOf.drewN {α : Type} {enc : α → Value} {d : α} {W : World} {A : Option Addr} {n : Nat} {xs : List α} (h : ReadsOf enc d W A n xs) (m : Nat) : ReadsOf enc d (W.drewN m) A n xs := h
theorem ReadsInt.keep {w W : World} {k : IntKind} {A : Option Addr} {n g : Nat} {xs : List Int} (h : ReadsInt w k A n xs) (hk : KeepBut w W g none) (hf : ∀ ad, A = some ad → 0 < n → ad.block ≠ g) : ReadsInt W k A n xs :=
  ⟨h.1, h.2.1, fun hn => by
    obtain ⟨ad, e, hc⟩ := h.2.2 hn
    exact ⟨ad, e, fun j hj => keep_cell hk (hc j hj) (by rw [add_block]; exact hf ad e hn)⟩⟩
theorem ReadsOf.keep {α : Type} {enc : α → Value} {d : α} {w W : World} {A : Option Addr} {n g : Nat} {xs : List α} (h : ReadsOf enc d w A n xs) (hk : KeepBut w W g none) (hf : ∀ ad, A = some ad → 0 < n → ad.block ≠ g) : ReadsOf enc d W A n xs :=
  ⟨h.1, h.2.1, fun hn => by
    obtain ⟨ad, e, hc⟩ := h.2.2 hn
    exact ⟨ad, e, fun j hj => keep_cell hk (hc j hj) (by rw [add_block]; exact hf ad e hn)⟩⟩
namespace Kd
section
variable {α β : Type} {d : Kd α} {d' : Kd β} {e e' base base' n : Nat} {ok ok' : Nat → Prop} {w W w1 W1 : World} {v u : Value} {xs : List α} {ys : List β} {A : Option Addr} {c : Nat}
end
section
variable {α : Type} {enc : α → Value} {h1 : ∀ x, (enc x).oneCell' = true} {w W : World} {A : Option Addr} {n g : Nat} {xs : List α}
end
end Kd
namespace Kd
section
variable {α : Type} {d : Kd α} {e base g : Nat} {ok : Nat → Prop} {w w1 : World} {v : Value} {xs : List α} {o : Obj}
end
end Kd
section
variable {P : Program} {ops : Array Oper} {rest : List Oper} {o : Oper} {a : Act} {Q : Exit → Act → World → Prop}
end
namespace Kd
section
variable {α : Type} {enc : α → Value} {h1 : ∀ x, (enc x).oneCell' = true} {e base g n cap : Nat} {ok : Nat → Prop} {W : World} {xs : List α}
end
end Kd
section
variable {P : Program} {ops : Array Oper} {rest : List Oper} {o : Oper} {a : Act} {Q : Exit → Act → World → Prop}
end
namespace Kd
section
variable {α : Type} {enc : α → Value} {h1 : ∀ x, (enc x).oneCell' = true} {e base g n cap : Nat} {ok : Nat → Prop} {W : World} {xs : List α}
end
end Kd
section
variable {P : Program} {ops : Array Oper} {rest : List Oper} {o : Oper} {a : Act} {Q : Exit → Act → World → Prop} {W : World}
theorem gate_dst {N : Tmp} (_hN : o.dst = some N) (h : wpList P ops Q (o :: rest) a W) : wpList P ops Q (o :: rest) a W := h
end
/-! ### 36. Events as_ one step of a region that draws (for one_, two_, three_) -/
section
variable {P : Program} {ops : Array Oper} {o : Oper} {a : Act} {Q : Exit → Act → World → Prop} {Kc : Act → World → Prop}
namespace Kd
variable {α : Type}
end Kd
end
/-! ### 37. Results of any shape -/
section
variable {P : Program} {tmps : Array Value} {w : World}
end
/-! ### 38. 'out = append(out[:k], out[k+1:]...)': an element taken out of a row of one's own, in place -/
namespace Kd
section
variable {P : Program} {α : Type}
end
section
variable {P : Program} {ops : Array Oper} {rest : List Oper} {o : Oper} {a : Act} {Q : Exit → Act → World → Prop} {Kc : Act → World → Prop} {α : Type}
end
end Kd

end Go.Proofs.YtokecnkjgoghhaaDoorW.PrintWords
end
section
/- Words of the walks of this place: lemmas on rows, regions and rounds, those that the texts beside use. No condition. -/
/-
  PRINTED WORDS, second file: A REGION THAT DRAWS ITS ORDER, WALKED BY HAND, where its last store writes what its own loads read ('x.f = append(x.f, f(i))'). Plain theorems; no macro, no elab. A claim may hold it (turn the namespace's name).
  A load may be taken first in every world that meets S; behind the operations of ds nothing is shown; sound because each of ds waits for what is taken (Region.lastB). The kernel checks it.
  By an AI agent of Go's test side, Mon Nov 16 2026. No person has read it.
-/
namespace Go.Proofs.YtokecnkjgoghhaaDoorW.PrintLast

section
variable {P : Program} {ops : Array Oper} {Q : Exit → Act → World → Prop} {md : Region.Mode} {S : World → Prop} {ds : List Nat}

def ListedClosed (md : Region.Mode) (ops : Array Oper) (listed : Array Bool) : Prop :=
  ∀ j oj, ops[j]? = some oj → listed.getD j false = true → ∀ e ∈ oj.after, Region.binds md e = true → listed.getD e.on false = true

theorem ListedClosed.set {listed : Array Bool} {i : Nat} (h : ListedClosed md ops listed) (hi : i ∈ Region.ready md ops listed) : ListedClosed md ops (listed.setIfInBounds i true) := by
  obtain ⟨_, oi, hoi, hall⟩ := mem_ready.1 hi
  intro j oj hj hl e he hb
  by_cases hij : i = j
  · subst hij
    have : oj = oi := Option.some.inj (hj.symm.trans hoi)
    subst this
    exact getD_set_true (hall e he hb)
  · rw [getD_set_ne false hij] at hl
    exact getD_set_true (h j oj hj hl e he hb)

/-- Whatever order is picked from here on, AND 'S' HOLDS BEHIND EVERY OPERATION THAT IS CARRIED OUT, those of ds apart. -/
def wpAnyLast (P : Program) (md : Region.Mode) (ops : Array Oper) (Q : Exit → Act → World → Prop) (S : World → Prop) (ds : List Nat) : Nat → Array Bool → Act → World → Prop
  | 0, listed, a, w => Region.ready md ops listed = [] ∧ Q .normal a w
  | fuel + 1, listed, a, w =>
    (Region.ready md ops listed = [] → Q .normal a w) ∧
    ∀ i ∈ Region.ready md ops listed, wpOp P ops Q i (fun a' w' => (i ∉ ds → S w → S w') ∧ wpAnyLast P md ops Q S ds fuel (listed.setIfInBounds i true) a' w') a w

end

section
variable {P : Program} {ops : Array Oper} {Q : Exit → Act → World → Prop} {md : Region.Mode} {S : World → Prop} {ds : List Nat}

def AllReadyL (P : Program) (md : Region.Mode) (ops : Array Oper) (Q : Exit → Act → World → Prop) (S : World → Prop) (ds : List Nat) (fuel : Nat) (listed : Array Bool) (a : Act) (w : World) (rs : List Nat) : Prop :=
  ∀ i ∈ rs, wpOp P ops Q i (fun a' w' => (i ∉ ds → S w → S w') ∧ wpAnyLast P md ops Q S ds fuel (listed.setIfInBounds i true) a' w') a w
theorem AllReadyL.nil {fuel : Nat} {listed : Array Bool} {a : Act} {w : World} : AllReadyL P md ops Q S ds fuel listed a w [] := fun _ h => by cases h
theorem AllReadyL.cons {fuel : Nat} {listed : Array Bool} {a : Act} {w : World} {i : Nat} {o : Oper} {rs : List Nat} (ho : ops[i]? = some o) (hd : i ∉ ds)
    (h : ∀ K' : Act → World → Prop, Shut (∀ a w, S w → (S w → wpAnyLast P md ops Q S ds fuel (listed.setIfInBounds i true) a w) → K' a w) → if Region.wanted o (yielded ops a.tmps) = true then Oper.wp P o a w K' Q else K' (a.put o.dst undef) w)
    (hs : AllReadyL P md ops Q S ds fuel listed a w rs) : AllReadyL P md ops Q S ds fuel listed a w (i :: rs) := fun j hj => by
  rcases List.mem_cons.1 hj with rfl | hj
  · exact wpOp_step ho (fun K' hK => h K' (fun a w hS hW => hK a w ⟨fun _ _ => hS, hW hS⟩))
  · exact hs j hj
/-! ### Several operations that write or call may come up: each order is walked, what follows is shown once (join_) -/
end
end Go.Proofs.YtokecnkjgoghhaaDoorW.PrintLast
end
section
/- Words of the walks of this place: lemmas on rows, regions and rounds, those that the texts beside use. No condition. -/
/-! ### 39. Stores into a row that may begin inside its block (Q): Q_form, Q_elem, Q_seg; scalars: Q_cell, Q_putg -/
namespace Go.Proofs.YtokecnkjgoghhaaDoorW.PrintWords
open Go.RowKit
namespace Kd
section
variable {α : Type} {d : Kd α} {e base g o n cap : Nat} {ok okp : Nat → Prop} {w W : World} {v : Value} {xs : List α}
end
section
variable {α : Type} {enc : α → Value} {h1 : ∀ x, (enc x).oneCell' = true} {e base g o n cap : Nat} {ok : Nat → Prop} {W : World} {xs : List α}
end
end Kd
end Go.Proofs.YtokecnkjgoghhaaDoorW.PrintWords
end
section
/- Words of the walks of this place: lemmas on rows, regions and rounds, those that the texts beside use. No condition. -/
/-! ### 40. Elements whose inner rows lie apart: what is stored into one says nothing of the others.
   S: as R, with an owner function f (block to element's index). H: as S with a hole: of element i its cells alone are told, its blocks are oki. -/
namespace Go.Proofs.YtokecnkjgoghhaaDoorW.PrintWords
open Go.RowKit
namespace Kd
/-- An element with its index: its blocks are those that f gives to it. -/
def tag {α : Type} (f : Nat → Nat) (d : Kd α) : Kd (α × Nat) where
  sz := d.sz
  E := d.E
  K := fun w x cs => d.K w x.1 cs
  M := fun w base ok x cs => d.M w base (fun k => ok k ∧ f k = x.2) x.1 cs
  K_len := fun h => d.K_len h
  K_one := fun h => d.K_one h
  K_below := fun hb h => d.K_below hb h
  K_of_M := fun h => d.K_of_M h
  M_mono := fun hok h => d.M_mono (fun k hk => ⟨hok k hk.1, hk.2⟩) h
  M_bound := fun h => d.M_mono (fun _ hk => ⟨⟨hk.1.1, hk.2⟩, hk.1.2⟩) (d.M_bound h)
  M_move := fun hm h => d.M_move (fun k hk => hm k hk.1) h
  M_lower := fun hb h => d.M_lower hb h
/-- The cells themselves. -/
def raw (sz : Nat) : Kd (List Value) where
  sz := sz
  E := []
  K := fun _ x cs => cs = x ∧ cs.length = sz ∧ ∀ u ∈ cs, u.oneCell' = true
  M := fun _ _ _ x cs => cs = x ∧ cs.length = sz ∧ ∀ u ∈ cs, u.oneCell' = true
  K_len := fun h => h.2.1
  K_one := fun h => h.2.2
  K_below := fun _ h => h
  K_of_M := fun h => h
  M_mono := fun _ h => h
  M_bound := fun h => h
  M_move := fun _ h => h
  M_lower := fun _ h => h
/-- A row of elements (type e) of the call's own, no two of which lead to one block. -/
def S {α : Type} (d : Kd α) (e : Nat) (w : World) (base : Nat) (ok : Nat → Prop) (v : Value) (xs : List α) : Prop := ∃ f, (tag f d).R e w base ok v xs.zipIdx
section
variable {α β : Type} {d : Kd α} {d' : Kd β} {e e' : Nat} {w w1 W : World} {base b : Nat} {ok ok' okv oku : Nat → Prop} {u v : Value} {xs : List α} {ys : List β}
end
section
variable {α β : Type} {d : Kd α} {d' : Kd β} {e e' g : Nat} {w w1 W : World} {base b : Nat} {ok ok' okv oku : Nat → Prop} {u v : Value} {xs : List α} {ys : List β}
end
/-! #### append, make, literals: the new element's blocks are none of the elder ones' -/
section
open Classical in
variable {P : Program} {ops : Array Oper} {rest : List Oper} {o : Oper} {a : Act} {Q : Exit → Act → World → Prop} {Kc : Act → World → Prop} {α : Type}
end
/-! #### a row with a hole: element i is lent, its blocks are oki; of it the row says its cells alone -/
/-- Element i is these cells; the others are d's. -/
def gap {α : Type} (f : Nat → Nat) (d : Kd α) (i : Nat) (c : List Value) : Kd (α × Nat) where
  sz := d.sz
  E := d.E
  K := fun w x cs => (x.2 = i → cs = c ∧ cs.length = d.sz ∧ ∀ u ∈ cs, u.oneCell' = true) ∧ (x.2 ≠ i → d.K w x.1 cs)
  M := fun w base ok x cs => (x.2 = i → cs = c ∧ cs.length = d.sz ∧ ∀ u ∈ cs, u.oneCell' = true) ∧ (x.2 ≠ i → d.M w base (fun k => ok k ∧ f k = x.2) x.1 cs)
  K_len := fun {w x cs} h => by
    by_cases hx : x.2 = i
    · exact (h.1 hx).2.1
    · exact d.K_len (h.2 hx)
  K_one := fun {w x cs} h => by
    by_cases hx : x.2 = i
    · exact (h.1 hx).2.2
    · exact d.K_one (h.2 hx)
  K_below := fun hb h => ⟨h.1, fun hx => d.K_below hb (h.2 hx)⟩
  K_of_M := fun h => ⟨h.1, fun hx => d.K_of_M (h.2 hx)⟩
  M_mono := fun hok h => ⟨h.1, fun hx => d.M_mono (fun k hk => ⟨hok k hk.1, hk.2⟩) (h.2 hx)⟩
  M_bound := fun h => ⟨h.1, fun hx => d.M_mono (fun _ hk => ⟨⟨hk.1.1, hk.2⟩, hk.1.2⟩) (d.M_bound (h.2 hx))⟩
  M_move := fun hm h => ⟨h.1, fun hx => d.M_move (fun k hk => hm k hk.1) (h.2 hx)⟩
  M_lower := fun hb h => ⟨h.1, fun hx => d.M_lower hb (h.2 hx)⟩
def H {α : Type} (d : Kd α) (e : Nat) (w : World) (base : Nat) (ok : Nat → Prop) (v : Value) (xs : List α) (i : Int) (oki : Nat → Prop) (c : List Value) : Prop :=
  (∀ k, oki k → ok k) ∧ ∃ f, (gap f d i.toNat c).R e w base (fun k => ok k ∧ ¬ oki k) v xs.zipIdx
section
variable {α β : Type} {d : Kd α} {e e' g n cap : Nat} {w w1 W : World} {base : Nat} {ok ok' oki okp : Nat → Prop} {u v : Value} {xs : List α} {i : Int} {c : List Value}
open Classical in
end
section
variable {P : Program} {ops : Array Oper} {rest : List Oper} {o : Oper} {a : Act} {Q : Exit → Act → World → Prop} {α : Type}
end
end Kd
end Go.Proofs.YtokecnkjgoghhaaDoorW.PrintWords
end
section
/- Words of the walks of this place: lemmas on rows, regions and rounds, those that the texts beside use. No condition. -/
/-! ### 41. Arrays '[n]T' as_ values: a kind (a field, an element of a row), an element read, an element set -/
namespace Go.Proofs.YtokecnkjgoghhaaDoorW.PrintWords
open Go.RowKit
namespace Kd
theorem reps_one {α : Type} {R : α → List Value → Prop} {size : Nat} {ps : List α} {cs : List Value} (h : Reps R size ps cs) (hs0 : 0 < size) (hR : ∀ p c, R p c → ∀ u ∈ c, u.oneCell' = true) : ∀ u ∈ cs, u.oneCell' = true := by
  intro u hu
  obtain ⟨q, hq, rfl⟩ := List.mem_iff_getElem.1 hu
  have hql : q / size < ps.length := by
    rw [Nat.div_lt_iff_lt_mul hs0, ← h.1]
    exact hq
  refine hR _ _ (h.2 (q / size) _ (List.getElem?_eq_getElem hql)) _ ?_
  rw [List.mem_iff_getElem?]
  refine ⟨q % size, ?_⟩
  rw [List.getElem?_take, if_pos (Nat.mod_lt _ hs0), List.getElem?_drop, Nat.mul_comm, Nat.div_add_mod, List.getElem?_eq_getElem hq]
/-- An array of n elements of kind d. -/
def arr {α : Type} (n : Nat) (d : Kd α) (hs : 0 < d.sz) : Kd (List α) where
  sz := n * d.sz
  E := d.E
  K := fun w xs cs => xs.length = n ∧ Reps (d.K w) d.sz xs cs
  M := fun w base ok xs cs => xs.length = n ∧ Reps (d.M w base ok) d.sz xs cs
  K_len := fun h => by rw [← h.1]; exact h.2.1
  K_one := fun h => reps_one h.2 hs (fun _ _ hk => d.K_one hk)
  K_below := fun hb h => ⟨h.1, h.2.imp_ (fun _ _ hk => d.K_below hb hk)⟩
  K_of_M := fun h => ⟨h.1, h.2.imp_ (fun _ _ hk => d.K_of_M hk)⟩
  M_mono := fun hok h => ⟨h.1, h.2.imp_ (fun _ _ hk => d.M_mono hok hk)⟩
  M_bound := fun h => ⟨h.1, h.2.imp_ (fun _ _ hk => d.M_bound hk)⟩
  M_move := fun hm h => ⟨h.1, h.2.imp_ (fun _ _ hk => d.M_move hm hk)⟩
  M_lower := fun hb h => ⟨h.1, h.2.imp_ (fun _ _ hk => d.M_lower hb hk)⟩
section
variable {α : Type} {n : Nat} {d : Kd α} {hs : 0 < d.sz} {w : World} {base : Nat} {ok : Nat → Prop} {xs : List α} {cs : List Value}
end
section
variable {α : Type} {n : Nat} {enc : α → Value} {h1 : ∀ x, (enc x).oneCell' = true} {hs : 0 < (scalar enc h1).sz} {w : World} {base : Nat} {ok : Nat → Prop} {xs : List α} {cs : List Value}
end
end Kd
end Go.Proofs.YtokecnkjgoghhaaDoorW.PrintWords
end
section
/- Words of the walks of this place: lemmas on rows, regions and rounds, those that the texts beside use. No condition. -/
/-! ### 42. append(v, make([]T, n)...): the operation comes as_ append with the number in the second place -/
namespace Go.Proofs.YtokecnkjgoghhaaDoorW.PrintWords
open Go.RowKit
section
variable {P : Program}
theorem run_append_zeros (w : World) (base : Nat) (t ti ty e : TypeId) (i : TypeInfo) (z : Value) (size bytes : Nat) (ht : P.underlying t = some (.slice e)) {k : IntKind} (hti : P.underlying ti = some (.int k)) (hi : P.info? e = some i) (hz : i.zero = some z)
    (hsize : i.size = size) (hby : i.bytes = bytes) (hzs : z.cells.size = size) (hsz : 0 < size) (hb0 : 0 < bytes)
    (v : Value) (n : Nat) (xs : List Value) (hown : w.ownsRow base e size v n xs) (kx : IntKind) (m : Nat) (h1 : ∀ u ∈ (Builtin.zeroCells z.cells m).toList, u.oneCell' = true)
    (hbytes : (n + m) * bytes ≤ 140737488355328) (hbase : base ≤ w.heap.size) :
    ∃ v' w', (Builtin.append_ #[t, ti] ty #[v, .int kx m]).run P w = .ok v' w' ∧ w'.ownsRow base e size v' (n + m) (xs ++ (Builtin.zeroCells z.cells m).toList) ∧ w.grownBy w' v.ownBlock ∧
      (v'.ownBlock = v.ownBlock ∨ v'.ownBlock = some w.heap.size) := by
  subst hsize
  subst hby
  have hle : n + m ≤ 140737488355328 := Nat.le_trans (Nat.le_mul_of_pos_right _ hb0) hbytes
  have h63 : n + m ≤ maxLen := by simp only [maxLen]; omega
  have hw : IntKind.i64.wrap (m : Int) = m := by rw [IntKind.wrap_i64]; omega
  have hw0 : IntKind.i64.wrap 0 = 0 := by rw [IntKind.wrap_i64]; rfl
  have hneg : ¬ ((m : Int) < 0) := by omega
  have hmb : m * i.bytes ≤ 140737488355328 := Nat.le_trans (Nat.mul_le_mul_right _ (Nat.le_add_left m n)) hbytes
  have hbig : ¬ (281474976710656 < (m : Int) * (i.bytes : Int)) := by
    rw [← Int.natCast_mul]
    omega
  have hsn : i.size ≠ 0 := by omega
  obtain ⟨news, hnews⟩ : ∃ news, news = (Builtin.zeroCells z.cells m).toList := ⟨_, rfl⟩
  rw [← hnews] at h1 ⊢
  have hl : news.length = m * i.size := by rw [hnews, Array.length_toList, size_zeroCells, hzs]
  have hna : Builtin.zeroCells z.cells m = news.toArray := by rw [hnews]
  have hlen : (xs ++ news).length = (n + m) * i.size := by rw [List.length_append, hown.1, hl, Nat.add_mul]
  have hnil : m = 0 → news = [] := fun h => List.eq_nil_of_length_eq_zero (by rw [hl, h, Nat.zero_mul])
  have grown : ∀ (old : Nat), old < n + m → ∀ (row : Option Nat),
      (w.drew.alloc (.cells (xs.toArray ++ news.toArray ++ Builtin.zeroCells z.cells (grownCap w (n + m) old e - (n + m))) e)).ownsRow base e i.size
        (.slice (some ⟨w.heap.size, 0, none⟩) (n + m) (grownCap w (n + m) old e)) (n + m) (xs ++ news) ∧
      w.grownBy (w.drew.alloc (.cells (xs.toArray ++ news.toArray ++ Builtin.zeroCells z.cells (grownCap w (n + m) old e - (n + m))) e)) row := by
    intro old ho row
    have hge := grownCap_ge w (n + m) old e
    have hcm : grownCap w (n + m) old e ≤ maxLen := grownCap_le_maxLen w (n + m) old e h63
    refine ⟨⟨hlen, .inr ⟨w.heap.size, _, _, rfl, hbase, heap_alloc_new w.drew _, hge, hcm, ?_, ?_⟩⟩, ⟨rfl, rfl, rfl, by simp, fun k hk _ => heap_alloc_old w.drew _ hk⟩⟩
    · simp only [Array.size_append, List.size_toArray, size_zeroCells, hzs, hown.1, hl, ← Nat.add_mul]
      congr 1
      omega
    · simp only [Array.toList_append, List.append_assoc]
      rw [← List.append_assoc, ← hlen]
      exact List.take_left
  have runs : ∀ (A : Option Addr) (cap : Nat), cap < n + m → (Builtin.firstCells i.size n (.slice A n cap)).run P w.drew = .ok xs.toArray w.drew → (Builtin.append_ #[t, ti] ty #[.slice A n cap, .int kx m]).run P w =
      .ok (.slice (some ⟨w.heap.size, 0, none⟩) (n + m) (grownCap w (n + m) cap e)) (w.drew.alloc (.cells (xs.toArray ++ news.toArray ++ Builtin.zeroCells z.cells (grownCap w (n + m) cap e - (n + m))) e)) := by
    intro A cap hcap hfo
    have hn : ¬ (n + m ≤ cap) := by omega
    have h63' : ¬ (9223372036854775807 < ((n : Int) + (m : Int))) := by omega
    have hfit := growslice_fits hcap hbytes
    have h48' : ¬ (281474976710656 < Builtin.nextslicecap (n + m) cap * i.bytes) := by omega
    by_cases hm : m = 0
    · have hnl := hnil hm
      subst hm
      rw [hnl]
      simp only [Nat.add_zero] at hn h63' h48' ⊢
      have h63'' : ¬ (9223372036854775807 < (n : Int)) := by omega
      simp [Builtin.append_, run_underlying ht, run_underlying hti, sizeOf, typeInfo, zeroValue, hi, hz, asInt, asIntOf, hw0, hn, h63'', h48', Question.forced, hfo, newRow, grownCap]
    · have hmz : ¬ (m * i.size = 0) := Nat.mul_ne_zero hm hsn
      simp [Builtin.append_, run_underlying ht, run_underlying hti, sizeOf, typeInfo, zeroValue, hi, hz, asInt, asIntOf, hw, hneg, hbig, hn, h63', h48', Question.forced, hfo, newRow, grownCap, hmz, hna]
      congr 2
      apply Array.ext'
      simp [List.append_assoc]
  rcases hown.2 with ⟨rfl, rfl⟩ | ⟨g, cap, cur, rfl, hbg, hg, hnc, hcm, hcs, htake⟩
  · have hx : xs = [] := List.eq_nil_of_length_eq_zero (by simpa using hown.1)
    subst hx
    by_cases hm : m = 0
    · have hnl := hnil hm
      subst hm
      rw [hnl]
      refine ⟨.slice none 0 0, w, ?_, World.ownsRow_nil w base e i.size, ⟨rfl, rfl, rfl, Nat.le_refl _, fun _ _ _ => rfl⟩, Or.inl rfl⟩
      simp [Builtin.append_, run_underlying ht, run_underlying hti, sizeOf, typeInfo, hi, asInt, asIntOf, hw0]
    · have hgr := grown 0 (by omega) (Value.ownBlock (.slice none 0 0))
      exact ⟨_, _, runs none 0 (by omega) (by simp [Builtin.firstCells]), hgr.1, hgr.2, Or.inr rfl⟩
  · by_cases hroom : n + m ≤ cap
    · have hfit : n * i.size + news.length ≤ cur.size := by rw [hl, hcs, ← Nat.add_mul]; exact Nat.mul_le_mul_right _ hroom
      obtain ⟨cur', h3, h4, h5⟩ := setCells_row news (n * i.size) w cur hg hfit
      obtain ⟨s1, s2, s3, s4⟩ := setCells_same g news (n * i.size) w
      have hst := run_storeCells_cells (P := P) g (n * i.size) news 0 w (fun j hj => by rw [cell_of_row w g _ cur e (0, 0) hg]; simp; omega) (fun j _ => blk_frozen hg _) h1
      simp only [Nat.add_zero] at hst
      refine ⟨.slice (some ⟨g, 0, none⟩) (n + m) cap, w.setCells g (n * i.size) news, ?_, ⟨hlen, .inr ⟨g, cap, cur', rfl, hbg, h3, hroom, hcm, by rw [h4, hcs], ?_⟩⟩, ⟨s1, s2, s3, by rw [s4]; exact Nat.le_refl _, fun k _ hk => setCells_far news _ k (fun e => hk (by simp [Value.ownBlock, e]))⟩, Or.inl rfl⟩
      · by_cases hm : m = 0
        · have hnl := hnil hm
          subst hm
          rw [hnl] at hst ⊢
          simp [Builtin.append_, run_underlying ht, run_underlying hti, sizeOf, typeInfo, hi, asInt, asIntOf, hw0, hnc, add_plain, hst]
        · have hmz : ¬ (m * i.size = 0) := Nat.mul_ne_zero hm hsn
          simp [Builtin.append_, run_underlying ht, run_underlying hti, sizeOf, typeInfo, zeroValue, hi, hz, asInt, asIntOf, hw, hneg, hbig, hroom, hmz, hna, add_plain, hst]
      · rw [h5]
        have h6 : cur.toList.take (n * i.size) = xs := htake
        rw [h6, ← hlen]
        exact List.take_left
    · have holds : ∀ j u, xs[j]? = some u → w.cell? ((⟨g, 0, none⟩ : Addr).add j) = some u := hown.cells (g := g) rfl
      have hgr := grown cap (by omega) (Value.ownBlock (.slice (some ⟨g, 0, none⟩) n cap))
      exact ⟨_, _, runs (some ⟨g, 0, none⟩) cap (by omega) (run_firstCells_some (P := P) w.drew i.size n _ n cap xs hown.1 (by simpa using holds)), hgr.1, hgr.2, Or.inr rfl⟩
end
namespace Kd
/-- What zeros are made of. -/
theorem reps_zeros {α : Type} {R : α → List Value → Prop} {z : Value} {size : Nat} {z0 : α} (hz : z.cells.size = size) (hs : 0 < size) (h0 : R z0 z.cells.toList) (m : Nat) : Reps R size (List.replicate m z0) (Builtin.zeroCells z.cells m).toList := by
  have h := reps_made hz hs h0 m
  rw [show Builtin.zeroCells z.cells m = madeCells z.cells (m * size) by unfold Builtin.zeroCells madeCells; rw [hz]]
  exact h
section
variable {P : Program} {ops : Array Oper} {rest : List Oper} {o : Oper} {a : Act} {Q : Exit → Act → World → Prop} {Kc : Act → World → Prop} {α : Type}
theorem R_zeros_run (d : Kd α) {W : World} (base : Nat) (t ti ty e : TypeId) (z : Value) (bytes : Nat) (ht : P.underlying t = some (.slice e)) {k : IntKind} (hti : P.underlying ti = some (.int k)) (hinfo : (P.info? e).map (fun i => (i.zero, i.size, i.bytes)) = some (some z, d.sz, bytes)) (hz : z.cells.size = d.sz) (hs0 : 0 < d.sz) (hb0 : 0 < bytes)
    (v : Value) (xs : List α) (z0 : α) {ok : Nat → Prop} (hzero : d.M W base (fun _ => False) z0 z.cells.toList) (hfresh : ∀ k, W.heap.size ≤ k → ok k) (HO : d.R e W base ok v xs) (kx : IntKind) (n : Int) (h0 : 0 ≤ n) (hl : (xs.length + n.toNat) * bytes ≤ 140737488355328) (hbase : base ≤ W.heap.size) :
    ∃ v1 w1, (Builtin.append_ #[t, ti] ty #[v, .int kx n]).run P W = .ok v1 w1 ∧ d.R e w1 base ok v1 (xs ++ List.replicate n.toNat z0) ∧ W.grownBy w1 v.ownBlock ∧ (v1.ownBlock = v.ownBlock ∨ ∃ b, v1.ownBlock = some b ∧ W.heap.size ≤ b) := by
  obtain ⟨m, rfl⟩ := Int.eq_ofNat_of_zero_le h0
  simp only [Int.toNat_natCast] at hl ⊢
  obtain ⟨i0, hi, hzz⟩ := Option.map_eq_some_iff.1 hinfo
  simp only [Prod.mk.injEq] at hzz
  obtain ⟨hz0, hz1, hz2⟩ := hzz
  obtain ⟨hok, inner, hown, hr⟩ := HO
  have hnM : Reps (d.M W base (fun _ => False)) d.sz (List.replicate m z0) (Builtin.zeroCells z.cells m).toList := reps_zeros hz hs0 hzero m
  obtain ⟨v1, w1, hrun, h2, hg, hat⟩ := run_append_zeros (P := P) W base t ti ty e i0 z d.sz bytes ht hti hi hz0 hz1 hz2 hz hs0 hb0 v xs.length inner hown kx m (reps_one hnM hs0 (fun _ _ hp => d.K_one (d.K_of_M hp))) hl hbase
  have hat' : v1.ownBlock = v.ownBlock ∨ ∃ b, v1.ownBlock = some b ∧ W.heap.size ≤ b := by
    rcases hat with hat | hat
    · exact .inl hat
    · exact .inr ⟨_, hat, Nat.le_refl _⟩
  have hne : ∀ k, some k ≠ v.ownBlock → k < W.heap.size → some k ≠ v1.ownBlock := by
    intro k hk hlt
    rcases hat' with hat | ⟨b, hb, hle⟩
    · rw [hat]; exact hk
    · rw [hb]
      intro he
      injection he with he
      omega
  have step : ∀ {q : α} {c : List Value} {o : Nat → Prop}, d.M W base o q c → (∀ k, o k → ok k ∧ some k ≠ v.ownBlock) → d.M w1 base (fun k => ok k ∧ some k ≠ v1.ownBlock) q c := by
    intro q c o hq ho
    have h1 := d.M_move (w1 := w1) (fun k hk => hg.block k hk.2.2.1 (ho k hk.1).2) (d.M_bound hq)
    exact d.M_mono (fun k hk => ⟨(ho k hk.1).1, hne k (ho k hk.1).2 hk.2.2.1⟩) h1
  refine ⟨v1, w1, hrun, ⟨fun k hk => ?_, inner ++ (Builtin.zeroCells z.cells m).toList, by rw [List.length_append, List.length_replicate]; exact h2, reps_append (hr.imp_ (fun _ _ hq => step hq (fun _ hk => hk))) (hnM.imp_ (fun _ _ hq => step hq (fun _ hk => hk.elim)))⟩, hg, hat'⟩
  rcases hat' with hat | ⟨b, hb, hle⟩
  · exact hok k (hat ▸ hk)
  · rw [hb] at hk
    injection hk with hk
    exact hfresh k (by omega)
/-- append(v, make([]T, n)...): z0's cells are the type's zero's. -/
theorem R_append_zeros (d : Kd α) {w0 W : World} (base : Nat) (hgd : o.guard = none) (s x : Operand) (t ti e : TypeId) (z : Value) (bytes : Nat)
    (ho : o.op = .call { callee := .builtin .append, args := #[s, x], argTypes := #[t, ti] })
    (ht : P.underlying t = some (.slice e)) {k : IntKind} (hti : P.underlying ti = some (.int k)) (hinfo : (P.info? e).map (fun i => (i.zero, i.size, i.bytes)) = some (some z, d.sz, bytes)) (hz : z.cells.size = d.sz) (hs0 : 0 < d.sz) (hb0 : 0 < bytes)
    (v : Value) (xs : List α) (z0 : α) {kx : IntKind} (n : Int) (ok : Nat → Prop) (hs : a.eval s = v) (hx : a.eval x = .int kx n) (hzero : d.M W base (fun _ => False) z0 z.cells.toList) (hfresh : ∀ k, W.heap.size ≤ k → ok k)
    (HO : d.R e W base ok v xs) (h0 : 0 ≤ n) (HB : Below base w0 W) (hbase : base ≤ W.heap.size) (hl : (xs.length + n.toNat) * bytes ≤ 140737488355328)
    (h : ∀ v1 w1, d.R e w1 base ok v1 (xs ++ List.replicate n.toNat z0) → Below base w0 w1 → W.grownBy w1 v.ownBlock → (v1.ownBlock = v.ownBlock ∨ ∃ b, v1.ownBlock = some b ∧ W.heap.size ≤ b) → wpList P ops Q rest (a.put o.dst v1) w1) :
    wpList P ops Q (o :: rest) a W := by
  obtain ⟨v1, w1, hr1, h1, hg, hat⟩ := R_zeros_run (P := P) d base t ti o.type e z bytes ht hti hinfo hz hs0 hb0 v xs z0 hzero hfresh HO kx n h0 hl hbase
  refine wpList_plain hgd fun K hK => ?_
  unfold Oper.wp execOp
  simp only [ho, resolve, invoke, builtin, Sem.run_bind, Sem.run_pure, Result.andThen_ok, List.map_toArray, List.map_cons, List.map_nil, hs, hx, hr1]
  exact hK _ _ (h v1 w1 h1 (HB.grown hg hbase (R_base HO)) hg hat)
end
/-! #### the same for rows whose elements lie apart -/
section
variable {α : Type} {d : Kd α} {e : Nat} {w : World} {base : Nat} {ok : Nat → Prop} {v : Value} {xs : List α}
end
section
variable {P : Program} {ops : Array Oper} {rest : List Oper} {o : Oper} {a : Act} {Q : Exit → Act → World → Prop} {Kc : Act → World → Prop} {α : Type}
end
end Kd
end Go.Proofs.YtokecnkjgoghhaaDoorW.PrintWords
end
section
/- Words of the walks of this place: lemmas on rows, regions and rounds, those that the texts beside use. No condition. -/
/-! ### 43. What is read beside a state: it stays read whatever the state's calls turn ('∀ W', KeepBut w W' g none → d.C W' A n xs') -/
namespace Go.Proofs.YtokecnkjgoghhaaDoorW.PrintWords
open Go.RowKit
namespace Kd
/-- What a kind reads lies in the blocks: nothing else of the world is looked at. -/
structure Heap {α : Type} (d : Kd α) : Prop where
  K : ∀ {w w1 : World} {x : α} {cs : List Value}, (∀ k, k < w.heap.size → w1.heap[k]? = w.heap[k]?) → d.K w x cs → d.K w1 x cs
theorem cell_heap {w w1 : World} (hb : ∀ k, k < w.heap.size → w1.heap[k]? = w.heap[k]?) {a : Addr} {v : Value} (h : w.cell? a = some v) : w1.cell? a = some v := by
  have := hb a.block (World.block_lt_of_cell? w a h)
  simpa [World.cell?, this] using h
theorem Heap.C {α : Type} {d : Kd α} (hd : Heap d) {w w1 : World} {A : Option Addr} {n : Nat} {xs : List α} (hb : ∀ k, k < w.heap.size → w1.heap[k]? = w.heap[k]?) (h : d.C w A n xs) : d.C w1 A n xs :=
  ⟨h.1, h.2.1, fun hn => by
    obtain ⟨ad, e, hc⟩ := h.2.2 hn
    refine ⟨ad, e, fun j p hj => ?_⟩
    obtain ⟨c, hs, hr, hcell⟩ := hc j p hj
    exact ⟨c, hs, hd.K hb hr, fun i u hu => cell_heap hb (hcell i u hu)⟩⟩
section
variable {α : Type} {d : Kd α} {e base g n c : Nat} {ok : Nat → Prop} {w w0 W : World} {A : Option Addr} {xs : List α}
end
end Kd
end Go.Proofs.YtokecnkjgoghhaaDoorW.PrintWords
end
section
/- Words of the walks of this place: lemmas on rows, regions and rounds, those that the texts beside use. No condition. -/
/-! ### 45. What a call keeps: all but the blocks of S (the rows that it was given to write) and what is new since -/
namespace Go.Proofs.YtokecnkjgoghhaaDoorW.PrintWords
open Go.RowKit
def Kept (w W : World) (S : Nat → Prop) : Prop := w.heap.size ≤ W.heap.size ∧ ∀ i, i < w.heap.size → ¬ S i → W.heap[i]? = w.heap[i]?
section
variable {w W W2 : World} {S S2 S' : Nat → Prop}
theorem Kept.refl (w : World) (S : Nat → Prop) : Kept w w S := ⟨Nat.le_refl _, fun _ _ _ => rfl⟩
theorem Kept.of_below (h : Below w.heap.size w W) (S : Nat → Prop) : Kept w W S := ⟨h.size, fun i hi _ => h.block i hi⟩
theorem Kept.mono (h : Kept w W S) (hs : ∀ k, S k → S' k) : Kept w W S' := ⟨h.1, fun i hi hn => h.2 i hi (fun hk => hn (hs i hk))⟩
theorem Kept.then_ (h : Kept w W S) (k : Kept W W2 S2) (hs : ∀ k, S2 k → S k ∨ w.heap.size ≤ k) : Kept w W2 S :=
  ⟨Nat.le_trans h.1 k.1, fun i hi hn => (k.2 i (Nat.lt_of_lt_of_le hi h.1) (fun h2 => (hs i h2).elim hn (fun h3 => by omega))).trans (h.2 i hi hn)⟩
theorem Kept.below (h : Kept w W S) (hb : Below W.heap.size W W2) : Kept w W2 S := h.then_ (Kept.of_below hb (fun _ => False)) (fun _ hk => hk.elim)
theorem Kept.alloc (h : Kept w W S) (o : Obj) : Kept w (W.alloc o) S := h.below (below_alloc (Below.refl _ _) o)
theorem Kept.drew (h : Kept w W S) : Kept w W.drew S := h
theorem Kept.drewN (h : Kept w W S) (m : Nat) : Kept w (W.drewN m) S := h
theorem Kept.setCell (h : Kept w W S) {p : Addr} (hp : S p.block ∨ w.heap.size ≤ p.block) (u : Value) : Kept w (W.setCell p u) S :=
  h.then_ (S2 := fun k => k = p.block) ⟨by simp [World.setCell], fun i _ hn => Below.heap_setCell W p u i hn⟩ (fun k hk => by rw [hk]; exact hp)
/-- Beside a state: what was written is new since. -/
theorem Kept.keep {g : Nat} (h : KeepBut w W g none) (k : Kept W W2 S2) (hs : ∀ k, S2 k → w.heap.size ≤ k) : KeepBut w W2 g none :=
  ⟨Nat.le_trans h.1 k.1, fun i hi hg hr => (k.2 i (Nat.lt_of_lt_of_le hi h.1) (fun h2 => by have := hs i h2; omega)).trans (h.2 i hi hg hr)⟩
end
namespace Kd
section
variable {α : Type} {d : Kd α} {e base n c : Nat} {ok oki S S2 : Nat → Prop} {w w0 W W1 W2 : World} {v : Value} {A : Option Addr} {xs : List α} {i : Int} {cs : List Value}
end
end Kd
end Go.Proofs.YtokecnkjgoghhaaDoorW.PrintWords
end
section
/- Words of the walks of this place: lemmas on rows, regions and rounds, those that the texts beside use. No condition. -/
/-! ### 46. Values that share: what is only read, with the blocks it lies in (its footprint 'ok'): Foot, F (a row that is read), FK (an element's cells) -/
namespace Go.Proofs.YtokecnkjgoghhaaDoorW.PrintWords
open Go.RowKit
/-- P holds in W and in every world that has W's blocks of ok. -/
def Foot (P : World → Prop) (W : World) (ok : Nat → Prop) : Prop := ∀ W' : World, (∀ k, ok k → k < W.heap.size → W'.heap[k]? = W.heap[k]?) → P W'
theorem heap_lt {W W1 : World} {k : Nat} (h : W1.heap[k]? = W.heap[k]?) (hlt : k < W.heap.size) : k < W1.heap.size := by
  rw [Array.getElem?_eq_getElem hlt] at h
  exact (Array.getElem?_eq_some_iff.1 h).1
namespace Foot
variable {P Q : World → Prop} {W W1 : World} {ok ok' : Nat → Prop}
theorem mono (h : Foot P W ok) (hok : ∀ k, ok k → ok' k) : Foot P W ok' := fun W' hW => h W' (fun k hk hlt => hW k (hok k hk) hlt)
theorem bound (h : Foot P W ok) : Foot P W (fun k => ok k ∧ k < W.heap.size) := fun W' hW => h W' (fun k hk hlt => hW k ⟨hk, hlt⟩ hlt)
theorem step (h : Foot P W ok) (hm : ∀ k, ok k → k < W.heap.size → W1.heap[k]? = W.heap[k]?) : Foot P W1 ok := fun W' hW => h W' (fun k hk hlt => (hW k hk (heap_lt (hm k hk hlt) hlt)).trans (hm k hk hlt))
theorem imp (h : Foot P W ok) (hi : ∀ W', P W' → Q W') : Foot Q W ok := fun W' hW => hi W' (h W' hW)
/-- Moved, and still elder than what is new since W. -/
theorem old (h : Foot P W ok) (hb : Below W.heap.size W W1) : Foot P W1 (fun k => ok k ∧ k < W.heap.size) := (h.bound).step (fun k _ hlt => hb.block k hlt)
end Foot
namespace Kd
/-- A row that is only read: what it leads to lies in ok. -/
def F {α : Type} (d : Kd α) (W : World) (ok : Nat → Prop) (A : Option Addr) (n : Nat) (xs : List α) : Prop := Foot (fun W => d.C W A n xs) W ok
/-- An element's cells: what they lead to lies in ok. -/
def FK {α : Type} (d : Kd α) (W : World) (ok : Nat → Prop) (x : α) (c : List Value) : Prop := Foot (fun W => d.K W x c) W ok
section
variable {α β : Type} {d : Kd α} {e base n n' cc g N : Nat} {ok ok' okp S : Nat → Prop} {w w0 w1 W W1 : World} {A A' : Option Addr} {u v v1 : Value} {xs : List α} {xs' : List β} {d' : Kd β} {x : α} {c : List Value}
end
end Kd
end Go.Proofs.YtokecnkjgoghhaaDoorW.PrintWords
end
section
/- Words of the walks of this place: lemmas on rows, regions and rounds, those that the texts beside use. No condition. -/
/-! ### 47. N: a row of the call's own whose elements share (what they lead to is only read) -/
namespace Go.Proofs.YtokecnkjgoghhaaDoorW.PrintWords
open Go.RowKit
namespace Kd
section
variable {α : Type} {d : Kd α} {e base n cc g : Nat} {ok ok' okp S : Nat → Prop} {w w1 W W1 : World} {A : Option Addr} {u v v1 : Value} {xs : List α} {x : α} {c : List Value}
/-- A row of elements (type e) of the call's own; what the elements lead to is only read, and is not this row. -/
def N {α : Type} (d : Kd α) (e : Nat) (w : World) (base : Nat) (ok : Nat → Prop) (v : Value) (xs : List α) : Prop :=
  (∀ k, v.ownBlock = some k → ok k) ∧ ∃ rows : List (List Value), rows.length = xs.length ∧ (raw d.sz).R e w base (fun k => some k = v.ownBlock) v rows ∧ ∀ (j : Nat) (x : α) (c : List Value), xs[j]? = some x → rows[j]? = some c → FK d w (fun k => ok k ∧ some k ≠ v.ownBlock) x c
end
end Kd
end Go.Proofs.YtokecnkjgoghhaaDoorW.PrintWords
end
section
/- Words of the walks of this place: lemmas on rows, regions and rounds, those that the texts beside use. No condition. -/
/-! ### 48. N's events: append, a whole row appended, zeros appended, literals, make, stores, cuts, an element taken out -/
namespace Go.Proofs.YtokecnkjgoghhaaDoorW.PrintWords
open Go.RowKit
namespace Kd
section
variable {α : Type} {d : Kd α} {e base n cap g : Nat} {ok ok' okp : Nat → Prop} {w w1 W : World} {v v1 : Value} {xs ys : List α}
end
section
variable {P : Program} {ops : Array Oper} {rest : List Oper} {o : Oper} {a : Act} {Q : Exit → Act → World → Prop} {Kc : Act → World → Prop} {α : Type}
end
end Kd
end Go.Proofs.YtokecnkjgoghhaaDoorW.PrintWords
end
section
/- Words of the walks of this place: lemmas on rows, regions and rounds, those that the texts beside use. No condition. -/
-- PRINTED WORDS (module Derived/Print/More.lean): go-gate-2's additions: an AI agent of Go's test side, Tue Nov 17 2026; no person has read it. Lean checks it.
namespace Go.Proofs.YtokecnkjgoghhaaDoorW.PrintMore
open Go.RowKit Go.Proofs.YtokecnkjgoghhaaDoorW.PrintWords
namespace Kd
open Go.Proofs.YtokecnkjgoghhaaDoorW.PrintWords.Kd
end Kd

namespace Kd
open Go.Proofs.YtokecnkjgoghhaaDoorW.PrintWords.Kd
section
variable {α : Type} {d : Kd α} {e base g N : Nat} {ok : Nat → Prop} {W w1 : World} {u v : Value} {xs : List α}
end
end Kd
end Go.Proofs.YtokecnkjgoghhaaDoorW.PrintMore
namespace Go.Proofs.YtokecnkjgoghhaaDoorW.PrintWords
open Go.RowKit
section
variable {P : Program} {ops : Array Oper} {rest : List Oper} {o : Oper} {a : Act} {Q : Exit → Act → World → Prop} {W : World}
/-- The operation is a builtin over these places. -/
theorem gate_builtin {b : Builtin} {xs : Array Operand} {ts : Array TypeId} (_ho : o.op = .call { callee := .builtin b, args := xs, argTypes := ts }) (h : wpList P ops Q (o :: rest) a W) : wpList P ops Q (o :: rest) a W := h
end
/-- The greater of two whole numbers, as Go's max tells it. -/
def mx (a b : Int) : Int := if a < b then b else a
namespace Kd
section
variable {α : Type} {d : Kd α} {e base : Nat} {ok : Nat → Prop} {W w1 : World} {v : Value} {xs : List α}
end
section
variable {α : Type} {d : Kd α} {e base g n cap : Nat} {ok oki okp : Nat → Prop} {W : World} {xs : List α} {i : Int} {c : List Value}
end
section
variable {α : Type} {d : Kd α} {e base b b' g N : Nat} {ok ok1 : Nat → Prop} {W W2 w1 : World} {u v : Value} {xs ys : List α} {S : Nat → Prop}
end
end Kd
end Go.Proofs.YtokecnkjgoghhaaDoorW.PrintWords
namespace Go.Proofs.YtokecnkjgoghhaaDoorW.PrintWords
open Go.RowKit
namespace Kd
section
variable {α β : Type} {d : Kd α} {e base base' n m c g N' lo hi : Nat} {ok ok' S : Nat → Prop} {w W w1 : World} {A : Option Addr} {ad : Addr} {u v v1 : Value} {xs : List α}
end
end Kd
end Go.Proofs.YtokecnkjgoghhaaDoorW.PrintWords
end
