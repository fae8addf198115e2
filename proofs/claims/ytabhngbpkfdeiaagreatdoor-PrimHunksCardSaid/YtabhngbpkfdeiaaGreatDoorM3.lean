/- The machine with the tests remembered: a slot that was tested is not tested again. No condition. Words of the walks of this place: lemmas on rows, regions and rounds, those that the texts beside use. No condition. Words of the walks of this place: lemmas on rows, regions and rounds, those that the texts beside use. No condition. Words of the walks of this place: lemmas on rows, regions and rounds, those that the texts beside use. No condition. Words of the walks of this place: lemmas on rows, regions and rounds, those that the texts beside use. No condition. Words of the walks of this place: l -/
import Derived.Test.YtabhngbpkfdeiaaGreatDoorM2
import Derived.Test.YtabhngbpkfdeiaaGreatDoorM1
import Derived.Below
import Derived.Deep.Draws
import Derived.Deep.AppendLies
import Derived.Maps.AppendAt
import Derived.OwnWalk
import Derived.Laws.BytesArg
import Derived.Laws.MakeOwn
import Derived.Laws.OwnMore
import Derived.Deep.OwnRows
import Derived.Tactics
import Derived.Lib.ConvBytes
import Derived.Laws.Slices
import Derived.WalkKit
import Derived.KernelRfl
import Derived.RowKit3
import Derived.Deep.LoopGhost
import Derived.Deep.QuietTactic
import Derived.BigQuiet
import Derived.WideLaws
import Derived.Deep.DeepCutAuto
import Derived.Deep.CutBlock
import Derived.Deep.RegionHeld3
import Derived.Laws.Rows
import Derived.Lib.AppendStr
import Derived.ArgAppend
import Derived.Laws.IdiomCopy
import Derived.RowKit
import Derived.OrdersHeld
import Derived.Laws.BitsLemmas
import Derived.Shelf.Unicode.ValidAny
import Derived.Shelf.Strings.Builder1
import Derived.Shelf.Strings.Builder2
import Derived.Shelf.Strings.OnBuilder
import Derived.Shelf.Small.Bits
import Derived.Shelf.Strings.BuilderF
import Derived.Shelf.Strings.BuilderK
import Derived.Shelf.Strings.Builder2Cap
import Derived.Shelf.Strconv.Itoa0
import Derived.Shelf.Strings.Search1
import Derived.Shelf.Strings.Search2
import Derived.Shelf.Strings.Search3
import Derived.Shelf.Strings.Count
import Derived.Shelf.LaysM
import Derived.Shelf.Strings.Shaped
import Derived.Shelf.Sort.Plain
import Derived.Shelf.GgClosure.StringsIndexFunc
import Derived.Ground.GgwProg
import Derived.Shelf.GgClosure.StringsIndexFuncTop
import Derived.Shelf.GgClosure.StringsRunes
import Derived.Shelf.Strings.Prefix
import Derived.Shelf.Strings.Split
import Derived.Shelf.Strings.SplitShaped
import Derived.Shelf.Unicode.Decode
import Derived.Shelf.Unicode.DecodeSlow
import Derived.Shelf.Unicode.DecodeAny
import Derived.Shelf.Strings.FuncGrows
import Derived.Shelf.Strings.BuilderCap
import Derived.Shelf.Slices.Turned
import Derived.Shelf.Slices.Equal
import Derived.Ground.Names2Prog
import Derived.Shelf.Slices.Clone
import Derived.Shelf.Slices.CompactS
import Derived.Shelf.Slices.Cells
import Derived.Shelf.Slices.In.SortNone
import Derived.Shelf.Slices.Empties2
import Derived.Test.YtabhngbpkfdeiaaGreatDoorProg
import Derived.WalkSpells
import Derived.Lib.Hide
import Derived.Lib.OthersKept
import Derived.Sort.Row
import Derived.Sort.Grow
import Derived.Lib.SlKept
import Derived.Lib.SliceRun
import Derived.Laws.CopyRow
section
/- The machine with the tests remembered: a slot that was tested is not tested again. No condition. -/
set_option linter.unusedVariables false
set_option linter.unusedSimpArgs false
namespace Go.Proofs.YtabhngbpkfdeiaaGreatDoor.Ab
open Go Go.RowKit

abbrev Gd := List (Nat × Bool)

def dropG : Option Nat → Gd → Gd
  | none, g => g
  | some d, g => g.filter fun x => !Nat.beq x.1 d

def setG (dst : Option Nat) (v : Option Bool) (g : Gd) : Gd :=
  match v with
  | some b => match dst with
    | some d => (d, b) :: dropG (some d) g
    | none => g
  | none => dropG dst g

def beqB : Bool → Bool → Bool
  | true, b => b
  | false, b => !b

def valG (g : Gd) : Operand → Option Bool
  | .tmp t => lookN g t
  | _ => none

def cbool (b : Bool) : F := .a (.c (.sc (.bool b)))

/-! ### States brought to their form at once -/
section
variable {α : Type}

def fcB (b : Bool) (k : Bool → α) : α := match b with
  | true => k true
  | false => k false
def fcV (v : Value) (k : Value → α) : α := match v with
  | .int i n => k (.int i n)
  | .bool b => k (.bool b)
  | .string s => k (.string s)
  | .float i n => k (.float i n)
  | v => k v
def fcP (p : Pt) (k : Pt → α) : α := match p with
  | .own id i j => k (.own id i j)
  | .sh T d j => k (.sh T d j)
def fcL {β : Type} (f : β → (β → α) → α) : List β → (List β → α) → α
  | [], k => k []
  | x :: r, k => f x fun x' => fcL f r fun r' => k (x' :: r')
def fcO {β : Type} (f : β → (β → α) → α) (x : Option β) (k : Option β → α) : α := match x with
  | none => k none
  | some x => f x fun x' => k (some x')
def fcC (c : C) (k : C → α) : α := match c with
  | .sc v => fcV v fun v => k (.sc v)
  | .sl T xs => k (.sl T xs)
  | .nl => k .nl
  | .em => k .em
  | .ow id len => k (.ow id len)
  | .pt p => fcP p fun p => k (.pt p)
  | .cl f caps => fcL fcP caps fun caps => k (.cl f caps)
  | .jk => k .jk
def fcA (x : A) (k : A → α) : α := match x with
  | .c x => fcC x fun x => k (.c x)
  | .ag cs => fcL fcC cs fun cs => k (.ag cs)
def fcF (x : F) (k : F → α) : α := match x with
  | .a x => fcA x fun x => k (.a x)
  | .tp xs => fcL fcA xs fun xs => k (.tp xs)
def fcRow (x : Row) (k : Row → α) : α := match x with
  | .box t T cs fz => fcO (fun T k => k T) T fun T => fcL fcC cs fun cs => fcB fz fun fz => k (.box t T cs fz)
  | .arr e T xs fz => fcB fz fun fz => k (.arr e T xs fz)
def fcGe (x : Nat × Bool) (k : Nat × Bool → α) : α := match x with
  | (d, b) => fcB b fun b => k (d, b)

theorem fcB_eq (b : Bool) (k : Bool → α) : fcB b k = k b := by cases b <;> rfl
theorem fcV_eq (v : Value) (k : Value → α) : fcV v k = k v := by cases v <;> rfl
theorem fcP_eq (v : Pt) (k : Pt → α) : fcP v k = k v := by cases v <;> rfl
theorem fcL_eq {β : Type} {f : β → (β → α) → α} (hf : ∀ x k, f x k = k x) : ∀ (l : List β) (k : List β → α), fcL f l k = k l
  | [], k => rfl
  | x :: r, k => by rw [fcL, hf, fcL_eq hf r]
theorem fcO_eq {β : Type} {f : β → (β → α) → α} (hf : ∀ x k, f x k = k x) (l : Option β) (k : Option β → α) : fcO f l k = k l := by
  cases l with
  | none => rfl
  | some x => rw [fcO, hf]
theorem fcC_eq (v : C) (k : C → α) : fcC v k = k v := by
  cases v with
  | sc v => rw [fcC, fcV_eq]
  | pt p => rw [fcC, fcP_eq]
  | cl f caps => rw [fcC, fcL_eq fcP_eq]
  | _ => rfl
theorem fcA_eq (v : A) (k : A → α) : fcA v k = k v := by
  cases v with
  | c x => rw [fcA, fcC_eq]
  | ag cs => rw [fcA, fcL_eq fcC_eq]
theorem fcF_eq (v : F) (k : F → α) : fcF v k = k v := by
  cases v with
  | a x => rw [fcF, fcA_eq]
  | tp xs => rw [fcF, fcL_eq fcA_eq]
theorem fcRow_eq (v : Row) (k : Row → α) : fcRow v k = k v := by
  cases v with
  | box t T cs fz => rw [fcRow, fcO_eq (fun _ _ => rfl), fcL_eq fcC_eq, fcB_eq]
  | arr e T xs fz => rw [fcRow, fcB_eq]
theorem fcGe_eq (v : Nat × Bool) (k : Nat × Bool → α) : fcGe v k = k v := by
  obtain ⟨d, b⟩ := v
  rw [fcGe, fcB_eq]

def fcId {β : Type} (x : β) (k : β → α) : α := k x
def fcFr (x : Nat × F) (k : Nat × F → α) : α := match x with
  | (t, v) => fcF v fun v => k (t, v)
theorem fcFr_eq (v : Nat × F) (k : Nat × F → α) : fcFr v k = k v := by
  obtain ⟨d, b⟩ := v
  rw [fcFr, fcF_eq]

def nilG : List (Nat × LK) → List (Nat × F) → List (Option Row) → (S → α) → α
  | [], fr, mem, k => k { fr := fr, mem := mem, nx := mem.length }
  | _ :: _, [], mem, k => k { fr := [], mem := mem, nx := mem.length }
  | l :: live, p :: fr, mem, k =>
    match nilOne l.2 p.2 mem.length with
    | some (y, r) => fcL (fcO fcRow) (mem ++ [some r]) fun mem => nilG live fr mem fun s => k { fr := (p.1, y) :: s.fr, mem := s.mem, nx := s.nx }
    | none => nilG live fr mem fun s => k { fr := p :: s.fr, mem := s.mem, nx := s.nx }

theorem nilG_eq : ∀ (live : List (Nat × LK)) (fr : List (Nat × F)) (mem : List (Option Row)) (k : S → α), nilG live fr mem k = k (nilFr live fr mem)
  | [], fr, mem, k => rfl
  | _ :: _, [], mem, k => rfl
  | l :: live, p :: fr, mem, k => by
    simp only [nilG, nilFr]
    cases nilOne l.2 p.2 mem.length with
    | none => simp only [nilG_eq live]
    | some x => simp only [fcL_eq (fcO_eq fcRow_eq), nilG_eq live]

def fixG (id : Nat) (x : Nat × TypeId × Ty) (s : S) (k : S → α) : α :=
  match getM s.mem id with
  | some (.box t T0 cells fz) => match cells[x.1]? with
    | some .nl => fcL (fcO fcRow) (fixOne id x s).mem fun mem => match s with | ⟨fr, _, nx⟩ => k ⟨fr, mem, nx + 1⟩
    | _ => k s
  | _ => k s

theorem fixG_eq (id : Nat) (x : Nat × TypeId × Ty) (s : S) (k : S → α) : fixG id x s k = k (fixOne id x s) := by
  obtain ⟨fr, mem, nx⟩ := s
  obtain ⟨i, e, T⟩ := x
  unfold fixG
  cases h : getM mem id with
  | none => simp only [fixOne, h]
  | some r =>
    cases r with
    | arr => simp only [fixOne, h]
    | box t T0 cells fz =>
      simp only [h]
      cases hc : cells[i]? with
      | none => simp only [fixOne, h, hc]
      | some c =>
        cases c with
        | nl => simp only [fcL_eq (fcO_eq fcRow_eq), fixOne, h, hc]
        | _ => simp only [fixOne, h, hc]

def fixGs (id : Nat) : List (Nat × TypeId × Ty) → S → (S → α) → α
  | [], s, k => k s
  | x :: l, s, k => fixG id x s fun s => fixGs id l s k

theorem fixGs_eq (id : Nat) : ∀ (l : List (Nat × TypeId × Ty)) (s : S) (k : S → α), fixGs id l s k = k (fixCs id l s)
  | [], s, k => rfl
  | x :: l, s, k => by simp only [fixGs, fixCs, fixG_eq, fixGs_eq id l]

def fixGF (x : F) (l : List (Nat × TypeId × Ty)) (s : S) (k : S → α) : α :=
  match x with
  | .a (.c (.pt (.own id 0 0))) => fixGs id l s k
  | _ => k s

theorem fixGF_eq (x : F) (l : List (Nat × TypeId × Ty)) (s : S) (k : S → α) : fixGF x l s k = k (fixF x l s) := by
  unfold fixGF fixF
  split
  · exact fixGs_eq _ l s k
  · rename_i h
    split
    · exact absurd rfl (h _)
    · rfl

def fixGAll : List (Nat × LK) → S → (S → α) → α
  | [], s, k => k s
  | (t, .cells l) :: r, s, k => fixGF (getF s.fr t) l s fun s => fixGAll r s k
  | (_, .any) :: r, s, k => fixGAll r s k
  | (_, .own _ _) :: r, s, k => fixGAll r s k
  | (_, .sh) :: r, s, k => fixGAll r s k

theorem fixGAll_eq : ∀ (l : List (Nat × LK)) (s : S) (k : S → α), fixGAll l s k = k (fixAll l s)
  | [], s, k => rfl
  | (t, .cells l) :: r, s, k => by simp only [fixGAll, fixAll, fixGF_eq, fixGAll_eq r]
  | (_, .any) :: r, s, k => fixGAll_eq r s k
  | (_, .own _ _) :: r, s, k => fixGAll_eq r s k
  | (_, .sh) :: r, s, k => fixGAll_eq r s k

def shareG (t : Nat) (s : S) (k : S → α) : α :=
  fcL fcFr (shareS t s).fr fun fr => fcL (fcO fcRow) (shareS t s).mem fun mem => k ⟨fr, mem, (shareS t s).nx⟩

theorem shareG_eq (t : Nat) (s : S) (k : S → α) : shareG t s k = k (shareS t s) := by
  unfold shareG
  rw [fcL_eq fcFr_eq, fcL_eq (fcO_eq fcRow_eq)]

def shareGAll : List (Nat × LK) → S → (S → α) → α
  | [], s, k => k s
  | (t, .sh) :: r, s, k => shareG t s fun s => shareGAll r s k
  | (_, .any) :: r, s, k => shareGAll r s k
  | (_, .own _ _) :: r, s, k => shareGAll r s k
  | (_, .cells _) :: r, s, k => shareGAll r s k

theorem shareGAll_eq : ∀ (l : List (Nat × LK)) (s : S) (k : S → α), shareGAll l s k = k (shareAll l s)
  | [], s, k => rfl
  | (t, .sh) :: r, s, k => by simp only [shareGAll, shareAll, shareG_eq, shareGAll_eq r]
  | (_, .any) :: r, s, k => shareGAll_eq r s k
  | (_, .own _ _) :: r, s, k => shareGAll_eq r s k
  | (_, .cells _) :: r, s, k => shareGAll_eq r s k

def canonG (nio : Nat) (live : List (Nat × LK)) (s : S) (k : S → α) : α :=
  shareGAll live s fun s =>
  fcL fcFr (live.map fun x => (x.1, getF s.fr x.1)) fun fr =>
  fcL fcId (addNew (rangeL 0 nio) (fr.flatMap fun x => fDirIds x.2)) fun ids =>
  fcL fcId (addNew ids (ids.flatMap (rowIds s.mem))) fun ids =>
  fcL fcId (addNew ids (ids.flatMap (rowIds s.mem))) fun ids =>
  fcL fcId (addNew ids (ids.flatMap (rowIds s.mem))) fun ids =>
  fcL fcFr (fr.map fun x => (x.1, renF ids x.2)) fun fr =>
  fcL (fcO fcRow) (ids.map fun id => (getM s.mem id).map (renRow ids)) fun mem =>
  nilG live fr mem fun s => fixGAll live s k

theorem canonG_eq (nio : Nat) (live : List (Nat × LK)) (s : S) (k : S → α) : canonG nio live s k = k (canonS nio live s) := by
  unfold canonG canonS canon0
  have h1 : ∀ (x : Nat) (k : Nat → α), fcId x k = k x := fun _ _ => rfl
  simp only [fcL_eq fcFr_eq, fcL_eq h1, fcL_eq (fcO_eq fcRow_eq), nilG_eq, fixGAll_eq, shareGAll_eq, closeIds, List.map_map, List.flatMap_map]
  rfl

/-- The state behind an operation, in its form. -/
def stepS (s : S) (dst : Option Nat) (new : Nat) (out : OutM) (k : S → α) : α :=
  match s with
  | ⟨fr, mem, nx⟩ => fcF out.v fun v =>
    let kk (mem : List (Option Row)) : α := match dst with
      | none => k ⟨fr, mem, nx⟩
      | some d => k ⟨(d, v) :: fr, mem, nx⟩
    match out.upd, out.ups, out.rows, out.fz with
    | none, [], [], [] => kk mem
    | _, _, _, _ => fcL (fcO fcRow) (applyOut ⟨fr, mem, nx⟩ dst new out).mem kk

theorem stepS_eq (s : S) (dst : Option Nat) (new : Nat) (out : OutM) (k : S → α) : stepS s dst new out k = k (applyOut s dst new out) := by
  obtain ⟨fr, mem, nx⟩ := s
  unfold stepS
  simp only
  rw [fcF_eq]
  obtain ⟨v, rows, upd, ups, fz⟩ := out
  have main : fcL (fcO fcRow) (applyOut ⟨fr, mem, nx⟩ dst new ⟨v, rows, upd, ups, fz⟩).mem (fun mem => match dst with
      | none => k ⟨fr, mem, nx⟩
      | some d => k ⟨(d, v) :: fr, mem, nx⟩) = k (applyOut ⟨fr, mem, nx⟩ dst new ⟨v, rows, upd, ups, fz⟩) := by
    rw [fcL_eq (fcO_eq fcRow_eq)]
    cases dst <;> rfl
  cases upd with
  | some p => exact main
  | none =>
    cases ups with
    | cons a b => exact main
    | nil =>
      cases rows with
      | cons a b => exact main
      | nil =>
        cases fz with
        | cons a b => exact main
        | nil => cases dst <;> rfl
end

section
variable {R : Type} (E : Env)

def opsG (ck : Nat → List (Option Row) → OutM → Bool) (nt base : Nat) (ops : Array Oper) (vw : Nat → List (Option Row) → Nat → Option Row) : List Nat → Gd → S → (Gd → S → Option R) → Option R
  | [], g, s, K => K g s
  | i :: r, g, s, K => match ops[i]? with
    | none => none
    | some o => bif dstOk nt o.dst then
      (let fin (g : Gd) (out : OutM) : Option R := bif ck i s.mem out then none else fcL fcGe g fun g => stepS s o.dst (base + 4 * i) out fun s => opsG ck nt base ops vw r g s K
      let go (g : Gd) : Option R := match o.op with
        | .pick (.tmp c) a b => match lookN g c with
          | some t => bif t then fin (setG o.dst (valG g a) g) { v := evalF s.fr a } else fin (setG o.dst (valG g b) g) { v := evalF s.fr b }
          | none => match getF s.fr c with
            | .a (.c (.sc (.bool t))) => ifs (t = true) (fin (setG o.dst (valG ((c, true) :: g) a) ((c, true) :: g)) { v := evalF s.fr a }) (fin (setG o.dst (valG ((c, false) :: g) b) ((c, false) :: g)) { v := evalF s.fr b })
            | _ => none
        | .move x => fin (setG o.dst (valG g x) g) { v := evalF s.fr x }
        | .assign x => fin (setG o.dst (valG g x) g) { v := evalF s.fr x }
        | .unOp .not t x => aopK E (vw i s.mem) (base + 4 * i) (evalF s.fr) (.unOp .not t x) fun out => fin (setG o.dst ((valG g x).map (!·)) g) out
        | op => aopK E (vw i s.mem) (base + 4 * i) (evalF s.fr) op fun out => fin (dropG o.dst g) out
      let skip (g : Gd) : Option R := fcL fcGe (dropG o.dst g) fun g => stepS s o.dst (base + 4 * i) { v := F.un } fun s => opsG ck nt base ops vw r g s K
      match o.guard with
      | none => go g
      | some (j, want) => match ops[j]? with
        | some oj => match oj.dst with
          | some d => match lookN g d with
            | some b => bif beqB b want then go g else skip g
            | none => match getF s.fr d with
              | .a (.c (.sc (.bool b))) => ifs (b = want) (go ((d, want) :: g)) (skip ((d, !want) :: g))
              | .tp [] => skip g
              | _ => none
          | none => none
        | none => none) else none

/-- What is remembered is so. -/
def ValG (g : Gd) (fr : List (Nat × F)) : Prop := ∀ d v, lookN g d = some v → getF fr d = cbool v

theorem ValG.nil (fr : List (Nat × F)) : ValG [] fr := by intro d v h; cases h

theorem ValG.cons {g : Gd} {fr : List (Nat × F)} {d : Nat} {v : Bool} (h : ValG g fr) (hd : getF fr d = cbool v) : ValG ((d, v) :: g) fr := by
  intro t b hb
  simp only [lookN] at hb
  by_cases e : Nat.beq d t = true
  · rw [e] at hb; simp only [cond_true, Option.some.injEq] at hb
    rw [← Nat.eq_of_beq_eq_true e, ← hb]; exact hd
  · simp only [e, cond_false] at hb; exact h t b hb

theorem lookN_filter : ∀ (g : Gd) (d t : Nat), lookN (g.filter fun x => !Nat.beq x.1 d) t = if d = t then none else lookN g t
  | [], d, t => by simp [lookN]
  | (k, v) :: g, d, t => by
    have ih := lookN_filter g d t
    simp only [List.filter]
    by_cases e : Nat.beq k d = true
    · simp only [e, Bool.not_true, ih, lookN]
      by_cases e2 : d = t
      · simp [e2]
      · have : Nat.beq k t = false := by
          cases hb : Nat.beq k t with
          | false => rfl
          | true => exact absurd ((Nat.eq_of_beq_eq_true e).symm.trans (Nat.eq_of_beq_eq_true hb)) e2
        simp [e2, this]
    · simp only [e, Bool.not_false, lookN, ih]
      by_cases e2 : d = t
      · subst e2; simp [e]
      · simp [e2]

theorem ValG.put {g : Gd} {fr : List (Nat × F)} (h : ValG g fr) (dst : Option Nat) (x : F) : ValG (dropG dst g) (putF dst x fr) := by
  cases dst with
  | none => exact h
  | some d =>
    intro t b hb
    simp only [dropG, lookN_filter] at hb
    by_cases e : d = t
    · simp [e] at hb
    · simp only [e, if_false] at hb
      have : Nat.beq d t = false := by
        cases hb : Nat.beq d t with
        | false => rfl
        | true => exact absurd (Nat.eq_of_beq_eq_true hb) e
      simp only [putF, getF, this, cond_false]; exact h t b hb

theorem ValG.set {g : Gd} {fr : List (Nat × F)} (h : ValG g fr) (dst : Option Nat) (v : Option Bool) (x : F) (hx : ∀ b, v = some b → x = cbool b) : ValG (setG dst v g) (putF dst x fr) := by
  cases v with
  | none => exact h.put _ x
  | some b =>
    cases dst with
    | none => exact h.put none x
    | some d =>
      refine (h.put (some d) x).cons ?_
      simp only [putF, getF]
      have : Nat.beq d d = true := Nat.beq_refl d
      rw [this, cond_true]; exact hx b rfl

theorem ValG.val {g : Gd} {fr : List (Nat × F)} (h : ValG g fr) (x : Operand) {b : Bool} (hb : valG g x = some b) : evalF fr x = cbool b := by
  cases x with
  | tmp t => exact h t b hb
  | _ => cases hb

theorem opsG_eq {ck : Nat → List (Option Row) → OutM → Bool} {nt base : Nat} {ops : Array Oper} {vw : Nat → List (Option Row) → Nat → Option Row} {KG : Gd → S → Option R} {K : S → Option R} (hK : ∀ g s, ValG g s.fr → KG g s = K s) :
    ∀ (l : List Nat) (g : Gd) (s : S), ValG g s.fr → opsG E ck nt base ops vw l g s KG = opsK E ck nt base ops vw l s K
  | [], g, s, hv => hK g s hv
  | i :: r, g, s, hv => by
    have ih := opsG_eq (ck := ck) (nt := nt) (base := base) (ops := ops) (vw := vw) hK r
    simp only [opsG, opsK, fcL_eq fcGe_eq, stepS_eq]
    cases hi : ops[i]? with
    | none => rfl
    | some o =>
      simp only
      cases hd : dstOk nt o.dst with
      | false => rfl
      | true =>
        simp only [cond_true]
        have fin : ∀ (g' : Gd) (out : OutM), ValG g' (putF o.dst out.v s.fr) → (bif ck i s.mem out then none else opsG E ck nt base ops vw r g' (applyOut s o.dst (base + 4 * i) out) KG) = (bif ck i s.mem out then none else opsK E ck nt base ops vw r (applyOut s o.dst (base + 4 * i) out) K) := by
          intro g' out h'
          rw [ih g' _ h']
        have skip : ∀ (g' : Gd), ValG g' s.fr → opsG E ck nt base ops vw r (dropG o.dst g') (applyOut s o.dst (base + 4 * i) { v := F.un }) KG = opsK E ck nt base ops vw r (applyOut s o.dst (base + 4 * i) { v := F.un }) K := by
          intro g' h'
          exact ih _ _ (h'.put _ _)
        have go : ∀ (g' : Gd), ValG g' s.fr → (match o.op with
            | .pick (.tmp c) a b => match lookN g' c with
              | some t => bif t then (bif ck i s.mem { v := evalF s.fr a } then none else opsG E ck nt base ops vw r (setG o.dst (valG g' a) g') (applyOut s o.dst (base + 4 * i) { v := evalF s.fr a }) KG) else (bif ck i s.mem { v := evalF s.fr b } then none else opsG E ck nt base ops vw r (setG o.dst (valG g' b) g') (applyOut s o.dst (base + 4 * i) { v := evalF s.fr b }) KG)
              | none => match getF s.fr c with
                | .a (.c (.sc (.bool t))) => ifs (t = true) (bif ck i s.mem { v := evalF s.fr a } then none else opsG E ck nt base ops vw r (setG o.dst (valG ((c, true) :: g') a) ((c, true) :: g')) (applyOut s o.dst (base + 4 * i) { v := evalF s.fr a }) KG) (bif ck i s.mem { v := evalF s.fr b } then none else opsG E ck nt base ops vw r (setG o.dst (valG ((c, false) :: g') b) ((c, false) :: g')) (applyOut s o.dst (base + 4 * i) { v := evalF s.fr b }) KG)
                | _ => none
            | .move x => bif ck i s.mem { v := evalF s.fr x } then none else opsG E ck nt base ops vw r (setG o.dst (valG g' x) g') (applyOut s o.dst (base + 4 * i) { v := evalF s.fr x }) KG
            | .assign x => bif ck i s.mem { v := evalF s.fr x } then none else opsG E ck nt base ops vw r (setG o.dst (valG g' x) g') (applyOut s o.dst (base + 4 * i) { v := evalF s.fr x }) KG
            | .unOp .not t x => aopK E (vw i s.mem) (base + 4 * i) (evalF s.fr) (.unOp .not t x) fun out => bif ck i s.mem out then none else opsG E ck nt base ops vw r (setG o.dst ((valG g' x).map (!·)) g') (applyOut s o.dst (base + 4 * i) out) KG
            | op => aopK E (vw i s.mem) (base + 4 * i) (evalF s.fr) op fun out => bif ck i s.mem out then none else opsG E ck nt base ops vw r (dropG o.dst g') (applyOut s o.dst (base + 4 * i) out) KG)
            = aopK E (vw i s.mem) (base + 4 * i) (evalF s.fr) o.op fun out => bif ck i s.mem out then none else opsK E ck nt base ops vw r (applyOut s o.dst (base + 4 * i) out) K := by
          intro g' h'
          split
          · rename_i c a b hop
            rw [hop]
            have e1 : evalF s.fr (.tmp c) = getF s.fr c := rfl
            simp only [aopK, e1]
            cases hl : lookN g' c with
            | some t =>
              have hc := h' c t hl
              simp only [hc, cbool]
              cases t with
              | true =>
                simp only [cond_true, ifs, if_true]
                exact fin _ { v := evalF s.fr a } (h'.set _ _ _ fun b hb => h'.val a hb)
              | false =>
                simp only [cond_false, ifs]
                exact fin _ { v := evalF s.fr b } (h'.set _ _ _ fun b' hb => h'.val b hb)
            | none =>
              simp only
              cases hc : getF s.fr c with
              | tp xs => rfl
              | a x =>
                cases x with
                | ag cs => rfl
                | c y =>
                  cases y with
                  | sc v =>
                    cases v with
                    | bool t =>
                      simp only [ifs]
                      cases t with
                      | true =>
                        have h2 : ValG ((c, true) :: g') s.fr := h'.cons hc
                        simp only [if_true]
                        exact fin _ { v := evalF s.fr a } (h2.set _ _ _ fun b hb => h2.val a hb)
                      | false =>
                        have h2 : ValG ((c, false) :: g') s.fr := h'.cons hc
                        exact fin _ { v := evalF s.fr b } (h2.set _ _ _ fun b' hb => h2.val b hb)
                    | _ => rfl
                  | _ => rfl
          · rename_i x hop
            rw [hop]
            exact fin _ { v := evalF s.fr x } (h'.set _ _ _ fun b hb => h'.val x hb)
          · rename_i x hop
            rw [hop]
            exact fin _ { v := evalF s.fr x } (h'.set _ _ _ fun b hb => h'.val x hb)
          · rename_i t x hop
            rw [hop]
            cases hx : valG g' x with
            | none =>
              have : (fun out => bif ck i s.mem out then none else opsG E ck nt base ops vw r (setG o.dst (Option.map (!·) none) g') (applyOut s o.dst (base + 4 * i) out) KG) = fun out => bif ck i s.mem out then none else opsK E ck nt base ops vw r (applyOut s o.dst (base + 4 * i) out) K := by
                funext out
                exact fin _ out (h'.set _ _ _ fun b hb => by cases hb)
              rw [this]
            | some b =>
              have hb := h'.val x hx
              simp only [aopK, unK, hb, cbool]
              have e : free E.P (Op.unary .not (.bool b)) = some (.bool (!b)) := rfl
              rw [e]
              simp only [plain, cond_true]
              exact fin _ (outV (.bool (!b))).many (h'.set _ _ _ fun b' hb' => by simp only [Option.map_some, Option.some.injEq] at hb'; subst hb'; rfl)
          · have : (fun out => bif ck i s.mem out then none else opsG E ck nt base ops vw r (dropG o.dst g') (applyOut s o.dst (base + 4 * i) out) KG) = fun out => bif ck i s.mem out then none else opsK E ck nt base ops vw r (applyOut s o.dst (base + 4 * i) out) K := by
              funext out
              exact fin _ out (h'.put _ _)
            rw [this]
        cases hg : o.guard with
        | none => exact go g hv
        | some p =>
          obtain ⟨j, want⟩ := p
          simp only
          cases hj : ops[j]? with
          | none => rfl
          | some oj =>
            simp only
            cases hdj : oj.dst with
            | none => rfl
            | some d =>
              simp only
              cases hl : lookN g d with
              | some b =>
                have hb := hv d b hl
                simp only [hb, cbool]
                by_cases e : b = want
                · subst e
                  have : beqB b b = true := by cases b <;> rfl
                  simp only [this, cond_true, ifs, if_true]
                  exact go g hv
                · have : beqB b want = false := by cases b <;> cases want <;> first | rfl | exact absurd rfl e
                  simp only [this, cond_false, ifs, e, if_false]
                  exact skip g hv
              | none =>
                simp only
                cases hb : getF s.fr d with
                | tp xs =>
                  cases xs with
                  | nil => exact skip g hv
                  | cons y ys => rfl
                | a x =>
                  cases x with
                  | ag cs => rfl
                  | c y =>
                    cases y with
                    | sc v =>
                      cases v with
                      | bool b =>
                        simp only [ifs]
                        by_cases e : b = want
                        · subst e
                          simp only [if_true]
                          exact go _ (hv.cons hb)
                        · simp only [e, if_false]
                          have : b = !want := by cases b <;> cases want <;> simp_all
                          exact skip _ (hv.cons (by rw [hb, this]; rfl))
                      | _ => rfl
                    | _ => rfl

end

def runG (E : Env) (N : Note) (cutQ : List Item → S → Option (List RV)) : Nat → Bool → List Item → Gd → S → Option (List RV)
  | 0, _, _, _, _ => none
  | n + 1, ex, todo, g, s =>
    match todo with
    | [] => finS E N s
    | .code c :: k =>
      match c with
      | .skip => runG E N cutQ n false k g s
      | .label _ => runG E N cutQ n false k g s
      | .region id ops draw =>
        match (bif ex then none else lookN N.joins id) with
        | some live => canonG N.ios.length live s fun s => cutQ (.code c :: k) s
        | none =>
          match s with
          | ⟨fr, mem, nx⟩ =>
            bif draw then
              (let M := masks ops.toList []
              let wl := wlOf E.sg nx fr ops.toList
              bif drawOk ops M then opsG E (ckD nx ops M wl) N.nt nx ops (vwD nx ops M wl) (rangeL 0 ops.size) g ⟨fr, mem, nx⟩ fun g' s' => match s' with | ⟨fr', mem', _⟩ => runG E N cutQ n false k g' ⟨fr', mem', nx + 4 * ops.size⟩ else none)
            else opsG E (fun _ _ _ => false) N.nt nx ops (fun _ mem => getM mem) (rangeL 0 ops.size) g ⟨fr, mem, nx⟩ fun g' s' => match s' with | ⟨fr', mem', _⟩ => runG E N cutQ n false k g' ⟨fr', mem', nx + 4 * ops.size⟩
      | .seq a b => runG E N cutQ n ex (.code a :: .code b :: k) g s
      | .cond (.tmp t) a b => match lookN g t with
        | some v => bif v then runG E N cutQ n false (.code a :: k) g s else runG E N cutQ n false (.code b :: k) g s
        | none => match getF s.fr t with
          | .a (.c (.sc (.bool v))) => ifs (v = true) (runG E N cutQ n false (.code a :: k) ((t, true) :: g) s) (runG E N cutQ n false (.code b :: k) ((t, false) :: g) s)
          | _ => none
      | .cond c a b => match evalF s.fr c with
        | .a (.c (.sc (.bool v))) => ifs (v = true) (runG E N cutQ n false (.code a :: k) g s) (runG E N cutQ n false (.code b :: k) g s)
        | _ => none
      | .block id b => runG E N cutQ n ex (.code b :: .inBlock id :: k) g s
      | .scope b => runG E N cutQ n ex (.code b :: .inScope b :: k) g s
      | .loop b => match firstReg b with
        | some id => match lookN N.loops id with
          | some live => canonG N.ios.length live s fun s => cutQ (.code b :: .inLoop b :: k) s
          | none => none
        | none => none
      | .exit id => match exitTo id k with
        | some k' => runG E N cutQ n false k' g s
        | none => none
      | .ret => finS E N s
      | _ => none
    | .inBlock _ :: k => runG E N cutQ n false k g s
    | .inScope _ :: k => runG E N cutQ n false k g s
    | .inLoop b :: k => match firstReg b with
      | some id => match lookN N.loops id with
        | some live => canonG N.ios.length live s fun s => cutQ (.code b :: .inLoop b :: k) s
        | none => none
      | none => none
    | _ => none

theorem runG_eq (E : Env) (N : Note) (cutQ : List Item → S → Option (List RV)) : ∀ (n : Nat) (ex : Bool) (todo : List Item) (g : Gd) (s : S), ValG g s.fr → runG E N cutQ n ex todo g s = run E N cutQ n ex todo s
  | 0, _, _, _, _, _ => rfl
  | n + 1, ex, todo, g, s, hv => by
    have ih := runG_eq E N cutQ n
    cases todo with
    | nil => rfl
    | cons x k =>
      cases x with
      | code c =>
        cases c with
        | skip => exact ih _ _ _ _ hv
        | label => exact ih _ _ _ _ hv
        | region id ops draw =>
          simp only [runG, run]
          cases (bif ex then none else lookN N.joins id) with
          | some live => exact canonG_eq _ _ _ _
          | none =>
            obtain ⟨fr, mem, nx⟩ := s
            simp only
            cases draw with
            | true =>
              simp only [cond_true]
              cases drawOk ops (masks ops.toList []) with
              | false => rfl
              | true =>
                simp only [cond_true]
                exact opsG_eq E (fun g' s' h' => ih false k g' { fr := s'.fr, mem := s'.mem, nx := nx + 4 * ops.size } h') _ _ _ hv
            | false =>
              simp only [cond_false]
              exact opsG_eq E (fun g' s' h' => ih false k g' { fr := s'.fr, mem := s'.mem, nx := nx + 4 * ops.size } h') _ _ _ hv
        | seq a b => exact ih _ _ _ _ hv
        | cond c a b =>
          cases c with
          | tmp t =>
            simp only [runG, run, evalF]
            cases hl : lookN g t with
            | some v =>
              simp only [hv t v hl, cbool]
              cases v with
              | true => simp only [cond_true, ifs, if_true]; exact ih _ _ _ _ hv
              | false => simp only [cond_false, ifs]; exact ih _ _ _ _ hv
            | none =>
              simp only
              cases hb : getF s.fr t with
              | tp xs => rfl
              | a x =>
                cases x with
                | ag cs => rfl
                | c y =>
                  cases y with
                  | sc v =>
                    cases v with
                    | bool b =>
                      simp only [ifs]
                      cases b with
                      | true => simp only [if_true]; exact ih _ _ _ _ (hv.cons hb)
                      | false => exact ih _ _ _ _ (hv.cons hb)
                    | _ => rfl
                  | _ => rfl
          | const v => simp only [runG, run, ih _ _ _ _ hv]; rfl
          | global v => rfl
          | func v => rfl
        | block id b => exact ih _ _ _ _ hv
        | scope b => exact ih _ _ _ _ hv
        | loop b => simp only [runG, run, canonG_eq]; rfl
        | exit id =>
          simp only [runG, run]
          cases exitTo id k with
          | some k' => exact ih _ _ _ _ hv
          | none => rfl
        | ret => rfl
        | _ => rfl
      | inBlock id => exact ih _ _ _ _ hv
      | inScope id => exact ih _ _ _ _ hv
      | inLoop b => simp only [runG, run, canonG_eq]; rfl
      | _ => rfl

def callG (W : Wd) (call : FuncId → List A → Option (List RV)) (cut : Note → List Item → S → Option (List RV)) (f : FuncId) (args : List A) : Option (List RV) :=
  match W.ext f with
  | some g => g args
  | none => match W.fns f with
    | some (c, N) => match N.ios with
      | [] => runG (envOf W call) N (cut N) big true [.code c] [] { fr := initS 0 args, mem := [], nx := 0 }
      | _ :: _ => fcL fcFr (initS 0 (args.take N.na)) fun fr => fcL (fcO fcRow) (ioMem N.ios (args.drop N.na)) fun mem => runG (envOf W call) N (cut N) big true [.code c] [] { fr := fr, mem := mem, nx := N.ios.length }
    | none => none

def cutG (W : Wd) (call : FuncId → List A → Option (List RV)) (cut : Note → List Item → S → Option (List RV)) (N : Note) (todo : List Item) (s : S) : Option (List RV) :=
  runG (envOf W call) N (cut N) big true todo [] s

/-- What is to do at a region, or from the head of the loop that begins with it. -/
def findT : Code → List Item → Nat → Option (List Item)
  | .seq a b, k, r => match findT a (.code b :: k) r with
    | some x => some x
    | none => findT b k r
  | .block id b, k, r => findT b (.inBlock id :: k) r
  | .scope b, k, r => findT b (.inScope b :: k) r
  | .cond _ a b, k, r => match findT a k r with
    | some x => some x
    | none => findT b k r
  | .loop b, k, r => bif (match firstReg b with | some i => Nat.beq i r | none => false) then some (.code b :: .inLoop b :: k) else findT b (.inLoop b :: k) r
  | .region id ops draw, k, r => bif Nat.beq id r then some (.code (.region id ops draw) :: k) else none
  | _, _, _ => none

theorem callG_step {W : Wd} {f : FuncId} {args : List A} {rvs : List RV} (h : callG W (callW W) (cutW W) f args = some rvs) : callW W f args = some rvs := by
  apply callW_step
  rw [← h]
  unfold callStep callG
  cases W.ext f with
  | some g => rfl
  | none =>
    cases W.fns f with
    | none => rfl
    | some p =>
      obtain ⟨c, N⟩ := p
      simp only [fcL_eq fcFr_eq, fcL_eq (fcO_eq fcRow_eq)]
      cases N.ios with
      | nil => exact (runG_eq _ _ _ _ _ _ _ _ (ValG.nil _)).symm
      | cons x xs => exact (runG_eq _ _ _ _ _ _ _ _ (ValG.nil _)).symm

theorem cutG_step {W : Wd} {N : Note} {t : List Item} {s : S} {rvs : List RV} (h : cutG W (callW W) (cutW W) N t s = some rvs) : cutW W N t s = some rvs := by
  apply cutW_step
  rw [← h]
  exact (runG_eq _ _ _ _ _ _ _ _ (ValG.nil _)).symm

theorem prjC_injC : ∀ (T : Ty) (x : T.den) (l : List C), prjC T (injC T x ++ l) = some (x, l)
  | .int k, n, l => by simp [injC, prjC]
  | .bool, n, l => by simp [injC, prjC]
  | .str, n, l => by simp [injC, prjC]
  | .flt k, n, l => by simp [injC, prjC]
  | .unit, n, l => by simp [injC, prjC]
  | .sl t, n, l => by simp [injC, prjC, castL]
  | .pair a b, x, l => by
    simp only [injC, prjC, List.append_assoc, prjC_injC a, prjC_injC b]

theorem cells_inj (T : Ty) (x : T.den) : (inj T x).cells = injC T x := by cases T <;> rfl

theorem prj_inj (T : Ty) (x : T.den) : prj T (inj T x).cells = some x := by
  have := prjC_injC T x []
  rw [List.append_nil] at this
  rw [cells_inj, prj, this]

theorem prj_injR (r : RT) (x : r.den) : prjR r (injR r x) = some x := by
  cases r with
  | d T =>
    simp only [prjR, injR]
    have h1 : shapeOk T (inj T x) = true := by cases T <;> rfl
    rw [h1, cond_true]
    exact prj_inj T x
  | own e T => simp [prjR, injR, castL]

theorem prj_injRs : ∀ (rs : List RT) (x : dens rs), prjRs rs (injRs rs x) = some x
  | [], _ => rfl
  | [r], x => prj_injR r x
  | r :: r' :: rs, x => by
    simp only [injRs, prjRs, prj_injR, prj_injRs (r' :: rs) x.2]

/-- A call's answer, from the step's. -/
theorem callT_of {W : Wd} {f : FuncId} {args : List A} {rts : List RT} {d : dens rts} (h : callG W (callW W) (cutW W) f args = some (injRs rts d)) : callT (envOf W (callW W)) rts f args = some d := by
  show (callW W f args).bind (prjRs rts) = some d
  rw [callG_step h]
  exact prj_injRs rts d

theorem injRs_length : ∀ (rs : List RT) (x : dens rs), (injRs rs x).length = rs.length
  | [], _ => rfl
  | [r], _ => rfl
  | r :: r' :: rs, x => by simp only [injRs, List.length_cons, injRs_length (r' :: rs) x.2]

/-- The same for a call that writes variables of the caller's. -/
theorem callT2_of {W : Wd} {f : FuncId} {args : List A} {rts : List RT} {os : List Ty} {d : dens rts} {o : dens (os.map RT.d)} (h : callG W (callW W) (cutW W) f args = some (injRs rts d ++ injRs (os.map RT.d) o)) : callT2 (envOf W (callW W)) rts os f args = some (d, o) := by
  show (callW W f args).bind _ = some (d, o)
  rw [callG_step h]
  have hl := injRs_length rts d
  simp only [Option.bind_some, ← hl, List.take_left, List.drop_left, prj_injRs]

end Go.Proofs.YtabhngbpkfdeiaaGreatDoor.Ab
end
section
/- Words of the walks of this place: lemmas on rows, regions and rounds, those that the texts beside use. No condition. -/
-- PRINTED WORDS (module Derived/Print/Words.lean): go-wishes' parts 1 to 38 and go-gate-2's additions: AI agents of Go's test side, Mon Nov 16 2026; no person has read them. Plain theorems and definitions: no macro, no elab, no axiom.
set_option linter.unusedVariables false
set_option linter.unusedSimpArgs false
namespace Go.Proofs.YtabhngbpkfdeiaaGreatDoorW.PrintWords
open Go.RowKit

/-- A fact that the walk's simp doesn't look into. -/
structure Aside0 (p : Prop) : Prop where mk :: (out : p)
/-- The world is the old one, some orders having been drawn. -/
structure Drawn0 (w w' : World) : Prop where mk :: (out : ∃ n, w' = w.drewN n)
theorem Drawn0.refl (w : World) : Drawn0 w w := ⟨⟨0, rfl⟩⟩
theorem Drawn0.step {w w' : World} (h : Drawn0 w w') (n : Nat) : Drawn0 w (w'.drewN n) := by
  obtain ⟨m, rfl⟩ := h
  exact ⟨⟨m + n, World.drewN_drewN ..⟩⟩
theorem Drawn0.grown {w w' : World} (h : Drawn0 w w') : Grown w w' := by
  obtain ⟨n, rfl⟩ := h
  induction n with
  | zero => exact Grown.refl _
  | succ n ih => rw [← World.drew_drewN]; exact Grown.drew ih
theorem Drawn0.below {w w' : World} (h : Drawn0 w w') : Below w.heap.size w w' := by
  obtain ⟨n, rfl⟩ := h
  induction n with
  | zero => exact Below.refl _ _
  | succ n ih => rw [← World.drew_drewN]; exact ih.drew

/-! ### 1. Values and lists -/
/-! ### 2. The world -/
theorem below_alloc {w W : World} (h : Below w.heap.size w W) (o : Obj) : Below w.heap.size w (W.alloc o) := h.alloc h.size o
theorem grown_of_below {w w1 : World} (h : Below w.heap.size w w1) (row : Option Nat) : w.grownBy w1 row := ⟨h.os, h.tape, h.output, h.size, fun i hi _ => h.block i hi⟩
theorem pw_cell_below {w w1 : World} (h : Below w.heap.size w w1) {a : Addr} {v : Value} (hc : w.cell? a = some v) : w1.cell? a = some v := (h.cell (World.block_lt_of_cell? w a hc)).trans hc

theorem add_plain (g j : Nat) : (⟨g, 0, none⟩ : Addr).add j = ⟨g, j, none⟩ := by unfold Addr.add; split <;> simp_all

/-! ### 3. A slice of whole numbers that is read; nil, empty and other slices alike -/
def ReadsInt (w : World) (k : IntKind) (A : Option Addr) (n : Nat) (xs : List Int) : Prop :=
  xs.length = n ∧ n ≤ 9223372036854775807 ∧ (0 < n → ∃ ad, A = some ad ∧ ∀ j, j < n → w.cell? (ad.add j) = some (.int k (xs.getD j 0)))
theorem ReadsInt.below {w w1 : World} {k : IntKind} {A : Option Addr} {n : Nat} {xs : List Int} (h : ReadsInt w k A n xs) (hb : Below w.heap.size w w1) : ReadsInt w1 k A n xs :=
  ⟨h.1, h.2.1, fun hn => by
    obtain ⟨ad, e, hc⟩ := h.2.2 hn
    exact ⟨ad, e, fun j hj => pw_cell_below hb (hc j hj)⟩⟩

/-! ### 4. A row of the call's own -/
theorem own_nil (W : World) (base : Nat) (e : TypeId) (size : Nat) : W.ownsRow base e size (.slice none 0 0) 0 [] := ⟨by simp, .inl ⟨rfl, rfl⟩⟩
theorem own_base {w : World} {base : Nat} {e : TypeId} {size n : Nat} {v : Value} {xs : List Value} (h : w.ownsRow base e size v n xs) (k : Nat) (hk : v.ownBlock = some k) : base ≤ k := by
  rcases h.2 with ⟨rfl, _⟩ | ⟨g, cap, cur, rfl, hb, _⟩
  · simp [Value.ownBlock] at hk
  · have : g = k := by simpa [Value.ownBlock] using hk
    omega
theorem own_lt {w : World} {base : Nat} {e : TypeId} {size n : Nat} {v : Value} {xs : List Value} (h : w.ownsRow base e size v n xs) (k : Nat) (hk : v.ownBlock = some k) : k < w.heap.size := by
  rcases h.2 with ⟨rfl, _⟩ | ⟨g, cap, cur, rfl, hb, hh, _⟩
  · simp [Value.ownBlock] at hk
  · have : g = k := by simpa [Value.ownBlock] using hk
    subst this
    exact (Array.getElem?_eq_some_iff.1 hh).1
theorem pw_own_below {w w1 : World} {base : Nat} {e : TypeId} {size n : Nat} {v : Value} {xs : List Value} (h : w.ownsRow base e size v n xs) (hb : Below w.heap.size w w1) : w1.ownsRow base e size v n xs :=
  h.kept (grown_of_below hb none) (by cases v.ownBlock <;> simp)
/-- What is written is another row: this one lives on. -/
theorem own_other {w w1 : World} {base : Nat} {e : TypeId} {size n : Nat} {v : Value} {xs : List Value} (h : w.ownsRow base e size v n xs) {row : Option Nat} (hg : w.grownBy w1 row) (hne : v.ownBlock = none ∨ v.ownBlock ≠ row) : w1.ownsRow base e size v n xs := h.kept hg hne
/-! ### 5. append(v, x): behind 'at_builtin'; the goal's world is 'W.alloc' of the variadic's box -/
section
variable {P : Program} {ops : Array Oper} {rest : List Oper} {o : Oper} {a : Act} {Q : Exit → Act → World → Prop}

end

/-! ### 6. make([]T, n), n an Int; a literal -/
section
variable {P : Program}
end
/-! ### 7. v[i] read and v[i] = x, v a row of the call's own: 'obtain ⟨g, cap, rfl, hgb, hgl⟩ := HO.out.form (by omega)' first -/
/-! ### 8. append(v, ys...): ys a slice that is read, nil let in; behind 'at_builtin' -/
section
variable {P : Program} {ops : Array Oper} {rest : List Oper} {o : Oper} {a : Act} {Q : Exit → Act → World → Prop}
end

/-! ### 9. []byte(s): a slice that is read (its row bears a conversion's mark: no row of one's own); cuts of a slice that is read -/
/-! ### 10. Rounds: more rounds give the same answer; what ends gives a number of rounds -/
/-- Where the first answers, the second answers the same. -/
def LeO {α : Type} (a b : Option α) : Prop := ∀ r, a = some r → b = some r
theorem LeO.refl {α : Type} (a : Option α) : LeO a a := fun _ h => h
theorem LeO.none {α : Type} (b : Option α) : LeO Option.none b := fun _ h => by cases h
theorem LeO.trans {α : Type} {a b c : Option α} (h : LeO a b) (k : LeO b c) : LeO a c := fun r hr => k r (h r hr)
theorem LeO.bind {α β : Type} {a a' : Option α} {f f' : α → Option β} (h : LeO a a') (k : ∀ x, LeO (f x) (f' x)) : LeO (a.bind f) (a'.bind f') := by
  intro r hr
  obtain ⟨x, hx, hf⟩ := Option.bind_eq_some_iff.1 hr
  exact Option.bind_eq_some_iff.2 ⟨x, h x hx, k x r hf⟩
theorem LeO.map {α β : Type} {a a' : Option α} (f : α → β) (h : LeO a a') : LeO (a.map f) (a'.map f) := by
  intro r hr
  obtain ⟨x, hx, hf⟩ := Option.map_eq_some_iff.1 hr
  exact Option.map_eq_some_iff.2 ⟨x, h x hx, hf⟩
theorem more_rounds {α : Type} {g : Nat → Option α} (h : ∀ k, LeO (g k) (g (k + 1))) (k : Nat) : ∀ j, LeO (g k) (g (k + j))
  | 0 => LeO.refl _
  | j + 1 => (more_rounds h k j).trans (h (k + j))
theorem at_rounds {α : Type} {g : Nat → Option α} (h : ∀ k, LeO (g k) (g (k + 1))) {k k' : Nat} (hk : k ≤ k') {r : α} (hr : g k = some r) : g k' = some r := by
  have := more_rounds h k (k' - k) r hr
  rwa [Nat.add_sub_cancel' hk] at this
/-! ### 11. Rows of elements of several cells (structs): read, made. R: what an element's cells say ('RepItem w': printed for each type) -/
def Reps {α : Type} (R : α → List Value → Prop) (size : Nat) (ps : List α) (cs : List Value) : Prop :=
  cs.length = ps.length * size ∧ ∀ j p, ps[j]? = some p → R p ((cs.drop (j * size)).take size)
theorem Reps.none {α : Type} (R : α → List Value → Prop) (size : Nat) : Reps R size [] [] := ⟨by simp, fun j p h => by simp at h⟩
theorem Reps.snoc {α : Type} {R : α → List Value → Prop} {size : Nat} {ps : List α} {cs c : List Value} {p : α} (h : Reps R size ps cs) (hp : R p c) (hc : c.length = size) : Reps R size (ps ++ [p]) (cs ++ c) := by
  refine ⟨by rw [List.length_append, h.1, hc, List.length_append, List.length_singleton, Nat.add_mul, Nat.one_mul], fun j q hq => ?_⟩
  rcases Nat.lt_or_ge j ps.length with hj | hj
  · rw [List.getElem?_append_left hj] at hq
    have h1 : j * size + size ≤ cs.length := by rw [h.1, ← Nat.succ_mul]; exact Nat.mul_le_mul_right _ hj
    have h2 := h.2 j q hq
    rw [List.drop_append_of_le_length (by omega), List.take_append_of_le_length (by rw [List.length_drop]; omega)]
    exact h2
  · have hj' : j = ps.length := by
      have := (List.getElem?_eq_some_iff.1 hq).1
      rw [List.length_append, List.length_singleton] at this
      omega
    subst hj'
    have hq' : p = q := by simpa using hq
    subst hq'
    rw [← h.1, List.drop_left, ← hc, List.take_length]
    exact hp
theorem Reps.imp_ {α : Type} {R R' : α → List Value → Prop} {size : Nat} {ps : List α} {cs : List Value} (h : Reps R size ps cs) (hR : ∀ p c, R p c → R' p c) : Reps R' size ps cs := ⟨h.1, fun j p hj => hR _ _ (h.2 j p hj)⟩

def ReadsRow {α : Type} (R : α → List Value → Prop) (size : Nat) (w : World) (A : Option Addr) (n : Nat) (ps : List α) : Prop :=
  ps.length = n ∧ n ≤ 9223372036854775807 ∧ (0 < n → ∃ ad, A = some ad ∧ ∀ j p, ps[j]? = some p → ∃ c, c.length = size ∧ R p c ∧ ∀ i u, c[i]? = some u → w.cell? (ad.add (j * size + i)) = some u)
theorem ReadsRow.imp_ {α : Type} {R R' : α → List Value → Prop} {size : Nat} {w w1 : World} {A : Option Addr} {n : Nat} {ps : List α} (h : ReadsRow R size w A n ps) (hb : Below w.heap.size w w1) (hR : ∀ p c, R p c → R' p c) : ReadsRow R' size w1 A n ps :=
  ⟨h.1, h.2.1, fun hn => by
    obtain ⟨ad, e, hc⟩ := h.2.2 hn
    refine ⟨ad, e, fun j p hj => ?_⟩
    obtain ⟨c, hs, hr, hcell⟩ := hc j p hj
    exact ⟨c, hs, hR _ _ hr, fun i u hu => pw_cell_below hb (hcell i u hu)⟩⟩
theorem own_reads_row {α : Type} {R : α → List Value → Prop} {w : World} {base n size : Nat} {e : TypeId} {v : Value} {ps : List α} {cs : List Value} (h : w.ownsRow base e size v n cs) (hR : Reps R size ps cs) (hn : ps.length = n) :
    ∃ A c, v = .slice A n c ∧ ReadsRow R size w A n ps := by
  rcases Nat.eq_zero_or_pos n with h0 | h0
  · rcases h.2 with ⟨rfl, rfl⟩ | ⟨g, cap, cur, rfl, _⟩
    · exact ⟨none, 0, rfl, hn, by omega, fun hp => absurd hp (by omega)⟩
    · exact ⟨_, cap, rfl, hn, by omega, fun hp => absurd hp (by omega)⟩
  · obtain ⟨g, cap, rfl, _, _⟩ := h.form h0
    have hm : n ≤ 9223372036854775807 := by
      rcases h.2 with ⟨_, h1⟩ | ⟨g', cap', cur, he, _, _, h1, h2, _⟩
      · omega
      · simp only [maxLen] at h2
        omega
    refine ⟨_, cap, rfl, hn, hm, fun _ => ⟨_, rfl, fun j p hj => ⟨(cs.drop (j * size)).take size, ?_, hR.2 j p hj, fun i u hu => ?_⟩⟩⟩
    · have hjl := (List.getElem?_eq_some_iff.1 hj).1
      have h1 : j * size + size ≤ cs.length := by rw [hR.1, ← Nat.succ_mul]; exact Nat.mul_le_mul_right _ hjl
      rw [List.length_take, List.length_drop]
      omega
    · refine h.cells (g := g) rfl _ u ?_
      rw [List.getElem?_take] at hu
      split at hu
      · rw [List.getElem?_drop] at hu
        exact hu
      · cases hu
section
variable {P : Program} {ops : Array Oper} {rest : List Oper} {o : Oper} {a : Act} {Q : Exit → Act → World → Prop}
/-- append(v, x), x of several cells; behind 'at_builtin'; the goal's world is 'W.alloc' of the variadic's box. -/
theorem print_append_cells {w0 W : World} (base : Nat) (hgd : o.guard = none) (s x : Operand) (t e : TypeId) (z : Value) (size bytes : Nat)
    (ho : o.op = .call { callee := .builtin .append, args := #[s, x], argTypes := #[t, t] })
    (ht : P.underlying t = some (.slice e)) (hinfo : (P.info? e).map (fun i => (i.zero, i.size, i.bytes)) = some (some z, size, bytes)) (hz : z.cells.size = size) (hs0 : 0 < size) (hb0 : 0 < bytes)
    (v : Value) (n : Nat) (xs ys : List Value) (hs : a.eval s = v) (hx : a.eval x = .slice (some ⟨W.heap.size, 0, none⟩) 1 1) (hys : ys.length = size) (h1 : ∀ u ∈ ys, u.oneCell' = true)
    (HO : W.ownsRow base e size v n xs) (HB : Below base w0 W) (hbase : base ≤ W.heap.size) (hl : (n + 1) * bytes ≤ 140737488355328)
    (h : ∀ v1 w1, w1.ownsRow base e size v1 (n + 1) (xs ++ ys) → Below base w0 w1 → W.grownBy w1 v.ownBlock → (v1.ownBlock = v.ownBlock ∨ ∃ b, v1.ownBlock = some b ∧ W.heap.size ≤ b) → wpList P ops Q rest (a.put o.dst v1) w1) :
    wpList P ops Q (o :: rest) a (W.alloc (.cells ys.toArray e)) := by
  obtain ⟨i0, hi, hzz⟩ := Option.map_eq_some_iff.1 hinfo
  simp only [Prod.mk.injEq] at hzz
  obtain ⟨hz0, hz1, hz2⟩ := hzz
  have hlen : n + 1 ≤ 140737488355328 := Nat.le_trans (Nat.le_mul_of_pos_right _ hb0) hl
  refine wpList_append_own_at (W.alloc (.cells ys.toArray e)) hgd s x t ho base e i0 z size bytes ht hi hz0 hz1 hz2 hz hs0 v n xs hs (HO.alloc _) ⟨W.heap.size, 0, none⟩ 1 1 ys hx (by rw [hys]; simp)
    (by simpa using World.news_of_block (cs := ys.toArray) (t := e) (fr := (0, 0)) (heap_alloc_new W (.cells ys.toArray e))) h1 (by simp only [maxLen]; omega) hl (by simp; omega) ?_
  intro v1 w1 hown hg _ hat
  refine h v1 w1 hown ((HB.alloc hbase _).grown hg (by simp; omega) (own_base HO)) (World.grownBy.trans (World.grownBy_alloc W _ _) hg) ?_
  rcases hat with hat | hat
  · exact .inl hat
  · exact .inr ⟨_, hat, by simp⟩
end

/-! ### 12. A block of one's own that is a state: its cells, what a store leaves -/
theorem own_ne {w : World} {base : Nat} {e t : TypeId} {size n g : Nat} {v : Value} {xs : List Value} {cs : Array Value} (h : w.ownsRow base e size v n xs) (hg : w.heap[g]? = some (.cells cs t (0, 0))) (hne : e ≠ t) : some g ≠ v.ownBlock := by
  rcases h.2 with ⟨rfl, _⟩ | ⟨g', cap, cur, rfl, _, hh, _⟩
  · simp [Value.ownBlock]
  · intro he
    have : g = g' := by simpa [Value.ownBlock] using he
    subst this
    rw [hg] at hh
    injection hh with hh
    injection hh with _ ht
    exact hne ht.symm
theorem blk_set {w : World} {g : Nat} {t : TypeId} {cs : Array Value} (h : w.heap[g]? = some (.cells cs t (0, 0))) (i : Nat) (u : Value) : (w.setCell ⟨g, i, none⟩ u).heap[g]? = some (.cells (cs.setIfInBounds i u) t (0, 0)) := by
  simp [World.setCell, Array.getElem?_modify, h]
theorem blk_lt {w : World} {g : Nat} {o : Obj} (h : w.heap[g]? = some o) : g < w.heap.size := (Array.getElem?_eq_some_iff.1 h).1
theorem blk_frozen {w : World} {g : Nat} {t : TypeId} {cs : Array Value} (h : w.heap[g]? = some (.cells cs t (0, 0))) (i : Nat) : w.frozen? ⟨g, i, none⟩ = false := by simp [World.frozen?, h]
/-! ### 13. Two states at once: what a call on the state at block g (its row before: 'row') has turned -/
def KeepBut (w w' : World) (g : Nat) (row : Option Nat) : Prop := w.heap.size ≤ w'.heap.size ∧ ∀ i, i < w.heap.size → i ≠ g → some i ≠ row → w'.heap[i]? = w.heap[i]?
theorem KeepBut.refl (w : World) (g : Nat) (row : Option Nat) : KeepBut w w g row := ⟨Nat.le_refl _, fun _ _ _ _ => rfl⟩
theorem KeepBut.of_below {w w1 : World} (h : Below w.heap.size w w1) (g : Nat) (row : Option Nat) : KeepBut w w1 g row := ⟨h.size, fun i hi _ _ => h.block i hi⟩
theorem KeepBut.trans {w w1 w2 : World} {g : Nat} {row row1 : Option Nat} (h : KeepBut w w1 g row) (k : KeepBut w1 w2 g row1) (hr : row1 = row ∨ ∃ b, row1 = some b ∧ w.heap.size ≤ b) : KeepBut w w2 g row :=
  ⟨Nat.le_trans h.1 k.1, fun i hi hg hn => by
    refine (k.2 i (Nat.lt_of_lt_of_le hi h.1) hg ?_).trans (h.2 i hi hg hn)
    rcases hr with rfl | ⟨b, rfl, hb⟩
    · exact hn
    · intro e
      injection e with e
      omega⟩
/-- Another block, another row: they live on. -/
theorem KeepBut.blk {w w1 : World} {g g' : Nat} {row : Option Nat} {o : Obj} (h : KeepBut w w1 g row) (hb : w.heap[g']? = some o) (hg : g' ≠ g) (hr : some g' ≠ row) : w1.heap[g']? = some o := (h.2 g' (blk_lt hb) hg hr).trans hb
theorem KeepBut.own {w w1 : World} {g : Nat} {row : Option Nat} {base : Nat} {e : TypeId} {size n : Nat} {v : Value} {xs : List Value} (h : KeepBut w w1 g row) (ho : w.ownsRow base e size v n xs) (hg : v.ownBlock ≠ some g) (hr : v.ownBlock = none ∨ v.ownBlock ≠ row) : w1.ownsRow base e size v n xs := by
  obtain ⟨h1, h2⟩ := ho
  refine ⟨h1, ?_⟩
  rcases h2 with h2 | ⟨b, cap, cur, rfl, hb, hh, r⟩
  · exact .inl h2
  · refine .inr ⟨b, cap, cur, rfl, hb, h.blk hh ?_ ?_, r⟩
    · intro e
      exact hg (by rw [← e]; rfl)
    · rcases hr with hr | hr
      · simp [Value.ownBlock] at hr
      · exact hr
/-! ### 10b. From some number of rounds on -/
def Ev {α : Type} (g : Nat → Option α) (r : α) : Prop := ∃ K, ∀ k, K ≤ k → g k = some r
theorem Ev.of {α : Type} {g : Nat → Option α} {r : α} (hg : ∀ k, LeO (g k) (g (k + 1))) {k : Nat} (h : g k = some r) : Ev g r := ⟨k, fun _ hk => at_rounds hg hk h⟩
theorem Ev.bind {α β : Type} {g : Nat → Option α} {f : Nat → α → Option β} {a : α} {r : β} (h : Ev g a) (k : Ev (fun n => f n a) r) : Ev (fun n => (g n).bind (f n)) r := by
  obtain ⟨K, h⟩ := h
  obtain ⟨K', k⟩ := k
  refine ⟨max K K', fun n hn => ?_⟩
  have h1 := h n (by omega)
  have h2 := k n (by omega)
  simp only [h1, Option.bind_some]
  exact h2
/-- One round of a loop. -/
theorem Ev.step {α : Type} {g f : Nat → Option α} {r : α} (h : ∀ k, g (k + 1) = f k) (k : Ev f r) : Ev g r := by
  obtain ⟨K, k⟩ := k
  refine ⟨K + 1, fun n hn => ?_⟩
  obtain ⟨m, rfl⟩ : ∃ m, n = m + 1 := ⟨n - 1, by omega⟩
  rw [h]
  exact k m (by omega)
theorem Ev.congr {α : Type} {g f : Nat → Option α} {r : α} (h : ∀ k, g k = f k) (k : Ev f r) : Ev g r := by
  obtain ⟨K, k⟩ := k
  exact ⟨K, fun n hn => (h n).trans (k n hn)⟩
/-! ### 14. append as_ one step of a region that draws its order: for 'go_region_law' (and a region walked by hand) -/
section
variable {P : Program} {ops : Array Oper} {o : Oper} {a : Act} {Q : Exit → Act → World → Prop} {K : Act → World → Prop}
end
/-! ### 15. A row's base may be lowered -/
theorem own_weaken {w : World} {base base' : Nat} {e : TypeId} {size n : Nat} {v : Value} {xs : List Value} (h : w.ownsRow base e size v n xs) (hb : base' ≤ base) : w.ownsRow base' e size v n xs := by
  obtain ⟨h1, h2⟩ := h
  refine ⟨h1, ?_⟩
  rcases h2 with h2 | ⟨g, cap, cur, rfl, hg, r⟩
  · exact .inl h2
  · exact .inr ⟨g, cap, cur, rfl, Nat.le_trans hb hg, r⟩
/-! ### 16. Parts 3 to 9 for ANY element of one cell: 'enc' (Value.int k, Value.string, Value.bool), a default 'd' -/
section
variable {α : Type} {enc : α → Value} {d : α}
def encs (enc : α → Value) (xs : List α) : List Value := xs.map enc
theorem encs_length (xs : List α) : (encs enc xs).length = xs.length := by simp [encs]
def ReadsOf (enc : α → Value) (d : α) (w : World) (A : Option Addr) (n : Nat) (xs : List α) : Prop :=
  xs.length = n ∧ n ≤ 9223372036854775807 ∧ (0 < n → ∃ ad, A = some ad ∧ ∀ j, j < n → w.cell? (ad.add j) = some (enc (xs.getD j d)))
theorem ReadsOf.below {w w1 : World} {A : Option Addr} {n : Nat} {xs : List α} (h : ReadsOf enc d w A n xs) (hb : Below w.heap.size w w1) : ReadsOf enc d w1 A n xs :=
  ⟨h.1, h.2.1, fun hn => by
    obtain ⟨ad, e, hc⟩ := h.2.2 hn
    exact ⟨ad, e, fun j hj => pw_cell_below hb (hc j hj)⟩⟩
end
section
variable {α : Type} {P : Program} {ops : Array Oper} {rest : List Oper} {o : Oper} {a : Act} {Q : Exit → Act → World → Prop}
end

/-! ### 17. Rows of one element type held at once: no two share a block -/
/-! ### 18. A block behind a new one; behind a draw -/
theorem blk_new (w : World) (o : Obj) : (w.alloc o).heap[w.heap.size]? = some o := heap_alloc_new w o
/-! ### 19. Results that lie in memory beside others -/
section
variable {P : Program}
end
/-! ### 20. Rows of elements of any kind: R is what an element's cells say -/
theorem own_le {w : World} {base n m c size : Nat} {e : TypeId} {A : Option Addr} {xs : List Value} (h : w.ownsRow base e size (.slice A m c) n xs) : m ≤ c := by
  rcases h.2 with ⟨he, _⟩ | ⟨g, cap, cur, he, _, _, hnc, _⟩
  · injection he with _ h2 h3
    omega
  · injection he with _ h2 h3
    omega
def OwnRow {α : Type} (R : α → List Value → Prop) (e : TypeId) (size : Nat) (w : World) (base : Nat) (v : Value) (ps : List α) : Prop :=
  ∃ inner, w.ownsRow base e size v ps.length inner ∧ Reps R size ps inner
section
variable {α : Type} {R R' : α → List Value → Prop} {e : TypeId} {size : Nat} {w w1 : World} {base : Nat} {v : Value} {ps : List α}
theorem OwnRow.none_ (R : α → List Value → Prop) (e : TypeId) (size : Nat) (w : World) (base : Nat) : OwnRow R e size w base (.slice none 0 0) [] := ⟨[], own_nil _ _ _ _, Reps.none _ _⟩
theorem OwnRow.imp_ (h : OwnRow R e size w base v ps) (hR : ∀ p c, R p c → R' p c) : OwnRow R' e size w base v ps := by
  obtain ⟨inner, ho, hr⟩ := h
  exact ⟨inner, ho, hr.imp_ hR⟩
theorem OwnRow.below (h : OwnRow R e size w base v ps) (hb : Below w.heap.size w w1) : OwnRow R e size w1 base v ps := by
  obtain ⟨inner, ho, hr⟩ := h
  exact ⟨inner, pw_own_below ho hb, hr⟩
theorem OwnRow.other (h : OwnRow R e size w base v ps) {row : Option Nat} (hg : w.grownBy w1 row) (hne : v.ownBlock = none ∨ v.ownBlock ≠ row) : OwnRow R e size w1 base v ps := by
  obtain ⟨inner, ho, hr⟩ := h
  exact ⟨inner, own_other ho hg hne, hr⟩
theorem OwnRow.keep (h : OwnRow R e size w base v ps) {g : Nat} {t : TypeId} {cells : Array Value} (hb : w.heap[g]? = some (.cells cells t (0, 0))) (ht : e ≠ t) (hk : KeepBut w w1 g none) : OwnRow R e size w1 base v ps := by
  obtain ⟨inner, ho, hr⟩ := h
  exact ⟨inner, hk.own ho (Ne.symm (own_ne ho hb ht)) (by cases v.ownBlock <;> simp), hr⟩
theorem OwnRow.reads (h : OwnRow R e size w base v ps) : ∃ A c, v = .slice A ps.length c ∧ ps.length ≤ c ∧ ReadsRow R size w A ps.length ps := by
  obtain ⟨inner, ho, hr⟩ := h
  obtain ⟨A, c, rfl, hrow⟩ := own_reads_row ho hr rfl
  exact ⟨A, c, rfl, own_le ho, hrow⟩
/-- A literal: the elements' cells one behind the other. -/
theorem OwnRow.lit (W : World) (base : Nat) {inner : List Value} (hr : Reps R size ps inner) (hb : base ≤ W.heap.size) (hm : ps.length ≤ 9223372036854775807) :
    OwnRow R e size (W.alloc (.cells inner.toArray e)) base (.slice (some ⟨W.heap.size, 0, none⟩) ps.length ps.length) ps := by
  have h := World.ownsRow_lit (base := base) (e := e) (size := size) W inner.toArray ps.length hb (by simpa [maxLen] using hm) (by simpa using hr.1)
  exact ⟨inner, by simpa using h, hr⟩
end
section
variable {P : Program} {ops : Array Oper} {rest : List Oper} {o : Oper} {a : Act} {Q : Exit → Act → World → Prop} {α : Type} {R : α → List Value → Prop}
/-- append(v, x): x's cells are cs. R is that of the world AHEAD; move it over hg ('OwnRow.imp_'). -/
theorem OwnRow.append {w0 W : World} (base : Nat) (hgd : o.guard = none) (s x : Operand) (t e : TypeId) (z : Value) (size bytes : Nat)
    (ho : o.op = .call { callee := .builtin .append, args := #[s, x], argTypes := #[t, t] })
    (ht : P.underlying t = some (.slice e)) (hinfo : (P.info? e).map (fun i => (i.zero, i.size, i.bytes)) = some (some z, size, bytes)) (hz : z.cells.size = size) (hs0 : 0 < size) (hb0 : 0 < bytes)
    (v : Value) (ps : List α) (p : α) (cs : List Value) (hs : a.eval s = v) (hx : a.eval x = .slice (some ⟨W.heap.size, 0, none⟩) 1 1) (hp : R p cs) (hcs : cs.length = size) (h1 : ∀ u ∈ cs, u.oneCell' = true)
    (HO : OwnRow R e size W base v ps) (HB : Below base w0 W) (hbase : base ≤ W.heap.size) (hl : (ps.length + 1) * bytes ≤ 140737488355328)
    (h : ∀ v1 w1, OwnRow R e size w1 base v1 (ps ++ [p]) → Below base w0 w1 → W.grownBy w1 v.ownBlock → (v1.ownBlock = v.ownBlock ∨ ∃ b, v1.ownBlock = some b ∧ W.heap.size ≤ b) → wpList P ops Q rest (a.put o.dst v1) w1) :
    wpList P ops Q (o :: rest) a (W.alloc (.cells cs.toArray e)) := by
  obtain ⟨inner, hown, hr⟩ := HO
  refine print_append_cells base hgd s x t e z size bytes ho ht hinfo hz hs0 hb0 v ps.length inner cs hs hx hcs h1 hown HB hbase hl ?_
  intro v1 w1 hown1 hb1 hg1 hat1
  exact h v1 w1 ⟨inner ++ cs, by rw [List.length_append, List.length_singleton]; exact hown1, hr.snoc hp hcs⟩ hb1 hg1 hat1
end
section
variable {P : Program} {ops : Array Oper} {o : Oper} {a : Act} {Q : Exit → Act → World → Prop} {K : Act → World → Prop} {α : Type} {R : α → List Value → Prop}
end
/-- What is read as_ a row has its cells one behind the other. -/
theorem ReadsRow.inner_ {α : Type} {R : α → List Value → Prop} {size : Nat} {w : World} {ad : Addr} {n : Nat} {ps : List α} (h : ReadsRow R size w (some ad) n ps) :
    ∃ inner, Reps R size ps inner ∧ ∀ j u, inner[j]? = some u → w.cell? (ad.add j) = some u := by
  have key : ∀ m, m ≤ ps.length → ∃ inner, Reps R size (ps.take m) inner ∧ ∀ j u, inner[j]? = some u → w.cell? (ad.add j) = some u := by
    intro m
    induction m with
    | zero => exact fun _ => ⟨[], Reps.none _ _, fun j u hu => by simp at hu⟩
    | succ m ih =>
      intro hm
      obtain ⟨inner, hr, hc⟩ := ih (by omega)
      obtain ⟨ad', he, hcell⟩ := h.2.2 (by have := h.1; omega)
      injection he with he
      subst he
      obtain ⟨c, hcl, hp, hcc⟩ := hcell m _ (List.getElem?_eq_getElem (show m < ps.length by omega))
      refine ⟨inner ++ c, ?_, fun j u hu => ?_⟩
      · rw [List.take_succ_eq_append_getElem (show m < ps.length by omega)]
        exact hr.snoc hp hcl
      · have hil : inner.length = m * size := by rw [hr.1, List.length_take, Nat.min_eq_left (by omega)]
        rcases Nat.lt_or_ge j inner.length with hj | hj
        · rw [List.getElem?_append_left hj] at hu
          exact hc j u hu
        · rw [List.getElem?_append_right hj] at hu
          have := hcc (j - inner.length) u hu
          rwa [hil, Nat.add_sub_cancel' (by omega)] at this
  obtain ⟨inner, hr, hc⟩ := key ps.length (Nat.le_refl _)
  rw [List.take_length] at hr
  exact ⟨inner, hr, hc⟩
/-! ### 21. Cuts of a slice that came in, lengths spelled as_ the lists' -/
section
variable {α : Type} {P : Program}
theorem ReadsOf.len_ {enc : α → Value} {d : α} {w : World} {A : Option Addr} {n : Nat} {xs : List α} (h : ReadsOf enc d w A n xs) : ReadsOf enc d w A xs.length xs := by rw [h.1]; exact h
end

/-! ### 22. append([]byte, s...), s a string; behind 'at_builtin'. (No word on where the new row lies: two rows of bytes at once don't go by it.) -/
section
variable {P : Program} {ops : Array Oper} {rest : List Oper} {o : Oper} {a : Act} {Q : Exit → Act → World → Prop}
end
/-! ### 23. KINDS: what a value's cells say, read (K) and made (M), kind by kind; every mover proved once -/
/-- ok: which blocks the rows inside may be ('not the row that is being written'). -/
structure Kd (α : Type) where
  sz : Nat
  E : List Nat
  K : World → α → List Value → Prop
  M : World → Nat → (Nat → Prop) → α → List Value → Prop
  K_len : ∀ {w x cs}, K w x cs → cs.length = sz
  K_one : ∀ {w x cs}, K w x cs → ∀ u ∈ cs, u.oneCell' = true
  K_below : ∀ {w w1 : World} {x cs}, Below w.heap.size w w1 → K w x cs → K w1 x cs
  K_of_M : ∀ {w base ok x cs}, M w base ok x cs → K w x cs
  M_mono : ∀ {w base ok ok' x cs}, (∀ k, ok k → ok' k) → M w base ok x cs → M w base ok' x cs
  M_bound : ∀ {w : World} {base ok x cs}, M w base ok x cs → M w base (fun k => ok k ∧ base ≤ k ∧ k < w.heap.size ∧ ∃ q, q ∈ E ∧ ∃ cells, w.heap[k]? = some (.cells cells q (0, 0))) x cs
  M_move : ∀ {w w1 : World} {base ok x cs}, (∀ k, ok k → w1.heap[k]? = w.heap[k]?) → M w base ok x cs → M w1 base ok x cs
  M_lower : ∀ {w base base' ok x cs}, base' ≤ base → M w base ok x cs → M w base' ok x cs

theorem own_move {w w1 : World} {base : Nat} {e : TypeId} {size n : Nat} {v : Value} {xs : List Value} (h : w.ownsRow base e size v n xs) (hm : ∀ k, v.ownBlock = some k → w1.heap[k]? = w.heap[k]?) : w1.ownsRow base e size v n xs := by
  obtain ⟨h1, h2⟩ := h
  refine ⟨h1, ?_⟩
  rcases h2 with h2 | ⟨g, cap, cur, rfl, hg, hh, r⟩
  · exact .inl h2
  · exact .inr ⟨g, cap, cur, rfl, hg, (hm g (by simp [Value.ownBlock])).trans hh, r⟩
theorem own_typed {w : World} {base : Nat} {e : TypeId} {size n : Nat} {v : Value} {xs : List Value} (h : w.ownsRow base e size v n xs) (k : Nat) (hk : v.ownBlock = some k) : ∃ cells, w.heap[k]? = some (.cells cells e (0, 0)) := by
  rcases h.2 with ⟨rfl, _⟩ | ⟨g, cap, cur, rfl, hg, hh, r⟩
  · simp [Value.ownBlock] at hk
  · have : g = k := by simpa [Value.ownBlock] using hk
    subst this
    exact ⟨cur, hh⟩

namespace Kd
/-- A row of elements that is read. -/
def C {α : Type} (d : Kd α) (w : World) (A : Option Addr) (n : Nat) (xs : List α) : Prop := ReadsRow (d.K w) d.sz w A n xs
/-- A row of elements (type e) of the call's own; the elements' rows are not this one. -/
def R {α : Type} (d : Kd α) (e : Nat) (w : World) (base : Nat) (ok : Nat → Prop) (v : Value) (xs : List α) : Prop :=
  (∀ k, v.ownBlock = some k → ok k) ∧ OwnRow (d.M w base (fun k => ok k ∧ some k ≠ v.ownBlock)) e d.sz w base v xs
section
variable {α : Type} {d : Kd α} {e : Nat} {w w1 : World} {base : Nat} {ok ok' : Nat → Prop} {v : Value} {xs : List α}
theorem C_below {A : Option Addr} {n : Nat} (h : d.C w A n xs) (hb : Below w.heap.size w w1) : d.C w1 A n xs := ReadsRow.imp_ h hb (fun _ _ hp => d.K_below hb hp)
theorem R_nil (d : Kd α) (e : Nat) (w : World) (base : Nat) (ok : Nat → Prop) : d.R e w base ok (.slice none 0 0) [] := ⟨fun k hk => by simp [Value.ownBlock] at hk, OwnRow.none_ _ _ _ _ _⟩
theorem R_mono (h : d.R e w base ok v xs) (hok : ∀ k, ok k → ok' k) : d.R e w base ok' v xs := ⟨fun k hk => hok k (h.1 k hk), h.2.imp_ (fun _ _ hp => d.M_mono (fun k hk => ⟨hok k hk.1, hk.2⟩) hp)⟩
theorem R_bound (h : d.R e w base ok v xs) : d.R e w base (fun k => ok k ∧ base ≤ k ∧ k < w.heap.size ∧ ∃ q, q ∈ e :: d.E ∧ ∃ cells, w.heap[k]? = some (.cells cells q (0, 0))) v xs := by
  obtain ⟨h0, inner, ho, hr⟩ := h
  refine ⟨fun k hk => ?_, inner, ho, hr.imp_ (fun _ _ hp => d.M_mono (fun k hk => ?_) (d.M_bound hp))⟩
  · obtain ⟨cells, hc⟩ := own_typed ho k hk
    exact ⟨h0 k hk, own_base ho k hk, own_lt ho k hk, e, List.mem_cons_self, cells, hc⟩
  · obtain ⟨⟨h1, h2⟩, h3, h4, q, hq, hc⟩ := hk
    exact ⟨⟨h1, h3, h4, q, List.mem_cons_of_mem _ hq, hc⟩, h2⟩
theorem R_move (h : d.R e w base ok v xs) (hm : ∀ k, ok k → w1.heap[k]? = w.heap[k]?) : d.R e w1 base ok v xs := by
  obtain ⟨h0, inner, ho, hr⟩ := h
  exact ⟨h0, inner, own_move ho (fun k hk => hm k (h0 k hk)), hr.imp_ (fun _ _ hp => d.M_move (fun k hk => hm k hk.1) hp)⟩
theorem R_lower {base' : Nat} (h : d.R e w base ok v xs) (hb : base' ≤ base) : d.R e w base' ok v xs := by
  obtain ⟨h0, inner, ho, hr⟩ := h
  exact ⟨h0, inner, own_weaken ho hb, hr.imp_ (fun _ _ hp => d.M_lower hb hp)⟩
theorem M_step {x : α} {cs : List Value} (h : d.M w base ok x cs) (hm : ∀ k, ok k → k < w.heap.size → w1.heap[k]? = w.heap[k]?) : d.M w1 base ok x cs :=
  d.M_mono (fun _ hk => hk.1) (d.M_move (fun k hk => hm k hk.1 hk.2.2.1) (d.M_bound h))
theorem M_below {x : α} {cs : List Value} (h : d.M w base ok x cs) (hb : Below w.heap.size w w1) : d.M w1 base ok x cs := M_step h (fun k _ hk => hb.block k hk)
theorem R_reads (h : d.R e w base ok v xs) : ∃ A c, v = .slice A xs.length c ∧ xs.length ≤ c ∧ d.C w A xs.length xs := by
  obtain ⟨A, c, he, hl, hr⟩ := OwnRow.reads h.2
  exact ⟨A, c, he, hl, hr.imp_ (Below.refl _ _) (fun _ _ hp => d.K_of_M hp)⟩
theorem R_own (h : d.R e w base ok v xs) : ∃ inner, w.ownsRow base e d.sz v xs.length inner := by
  obtain ⟨_, inner, ho, _⟩ := h
  exact ⟨inner, ho⟩
end

/-! #### the kinds -/
def scalar {α : Type} (enc : α → Value) (h1 : ∀ x, (enc x).oneCell' = true) : Kd α where
  sz := 1
  E := []
  K := fun _ x cs => cs = [enc x]
  M := fun _ _ _ x cs => cs = [enc x]
  K_len := fun h => by rw [h]; rfl
  K_one := fun h u hu => by
    rw [h] at hu
    rw [List.mem_singleton.1 hu]
    exact h1 _
  K_below := fun _ h => h
  K_of_M := fun h => h
  M_mono := fun _ h => h
  M_bound := fun h => h
  M_move := fun _ h => h
  M_lower := fun _ h => h
def int (k : IntKind) : Kd Int := scalar (Value.int k) (fun _ => rfl)
def bool : Kd Bool := scalar Value.bool (fun _ => rfl)
def string : Kd ByteArray := scalar Value.string (fun _ => rfl)
def slice {α : Type} (e : Nat) (d : Kd α) : Kd (List α) where
  sz := 1
  E := e :: d.E
  K := fun w xs cs => ∃ A c, cs = [.slice A xs.length c] ∧ xs.length ≤ c ∧ d.C w A xs.length xs
  M := fun w base ok xs cs => ∃ v, cs = [v] ∧ d.R e w base ok v xs
  K_len := by
    rintro w x cs ⟨A, c, rfl, _⟩
    rfl
  K_one := by
    rintro w x cs ⟨A, c, rfl, _⟩ u hu
    rw [List.mem_singleton.1 hu]
    rfl
  K_below := by
    rintro w w1 x cs hb ⟨A, c, rfl, hl, hr⟩
    exact ⟨A, c, rfl, hl, C_below hr hb⟩
  K_of_M := by
    rintro w base ok x cs ⟨v, rfl, h⟩
    obtain ⟨A, c, rfl, hl, hr⟩ := R_reads h
    exact ⟨A, c, rfl, hl, hr⟩
  M_mono := by
    rintro w base ok ok' x cs hok ⟨v, rfl, h⟩
    exact ⟨v, rfl, R_mono h hok⟩
  M_bound := by
    rintro w base ok x cs ⟨v, rfl, h⟩
    exact ⟨v, rfl, R_bound h⟩
  M_move := by
    rintro w w1 base ok x cs hm ⟨v, rfl, h⟩
    exact ⟨v, rfl, R_move h hm⟩
  M_lower := by
    rintro w base base' ok x cs hb ⟨v, rfl, h⟩
    exact ⟨v, rfl, R_lower h hb⟩
/-- Two in line. -/
def pair {α β : Type} (a : Kd α) (b : Kd β) : Kd (α × β) where
  sz := a.sz + b.sz
  E := a.E ++ b.E
  K := fun w x cs => ∃ c0 c1, cs = c0 ++ c1 ∧ a.K w x.1 c0 ∧ b.K w x.2 c1
  M := fun w base ok x cs => ∃ c0 c1, cs = c0 ++ c1 ∧ a.M w base ok x.1 c0 ∧ b.M w base ok x.2 c1
  K_len := by
    rintro w x cs ⟨c0, c1, rfl, h0, h1⟩
    rw [List.length_append, a.K_len h0, b.K_len h1]
  K_one := by
    rintro w x cs ⟨c0, c1, rfl, h0, h1⟩ u hu
    rcases List.mem_append.1 hu with hu | hu
    · exact a.K_one h0 u hu
    · exact b.K_one h1 u hu
  K_below := by
    rintro w w1 x cs hb ⟨c0, c1, rfl, h0, h1⟩
    exact ⟨c0, c1, rfl, a.K_below hb h0, b.K_below hb h1⟩
  K_of_M := by
    rintro w base ok x cs ⟨c0, c1, rfl, h0, h1⟩
    exact ⟨c0, c1, rfl, a.K_of_M h0, b.K_of_M h1⟩
  M_mono := by
    rintro w base ok ok' x cs hok ⟨c0, c1, rfl, h0, h1⟩
    exact ⟨c0, c1, rfl, a.M_mono hok h0, b.M_mono hok h1⟩
  M_bound := by
    rintro w base ok x cs ⟨c0, c1, rfl, h0, h1⟩
    refine ⟨c0, c1, rfl, a.M_mono ?_ (a.M_bound h0), b.M_mono ?_ (b.M_bound h1)⟩
    · rintro k ⟨h2, h3, h4, q, hq, hc⟩
      exact ⟨h2, h3, h4, q, List.mem_append_left _ hq, hc⟩
    · rintro k ⟨h2, h3, h4, q, hq, hc⟩
      exact ⟨h2, h3, h4, q, List.mem_append_right _ hq, hc⟩
  M_move := by
    rintro w w1 base ok x cs hm ⟨c0, c1, rfl, h0, h1⟩
    exact ⟨c0, c1, rfl, a.M_move hm h0, b.M_move hm h1⟩
  M_lower := by
    rintro w base base' ok x cs hb ⟨c0, c1, rfl, h0, h1⟩
    exact ⟨c0, c1, rfl, a.M_lower hb h0, b.M_lower hb h1⟩
/-- Nothing is of this kind: where the nesting's depth is used up. -/
def bot {α : Type} (sz : Nat) (E : List Nat) : Kd α where
  sz := sz
  E := E
  K := fun _ _ _ => False
  M := fun _ _ _ _ _ => False
  K_len := fun h => h.elim
  K_one := fun h => h.elim
  K_below := fun _ h => h
  K_of_M := fun h => h
  M_mono := fun _ h => h
  M_bound := fun h => h
  M_move := fun _ h => h
  M_lower := fun _ h => h
/-- A type nested in itself: nested at most n deep .. -/
def upto {α : Type} (F : Kd α → Kd α) (sz : Nat) (E : List Nat) : Nat → Kd α
  | 0 => bot sz E
  | n + 1 => F (upto F sz E n)
/-! #### an element of a row that is read; an element appended -/
section
variable {P : Program} {ops : Array Oper} {rest : List Oper} {o : Oper} {a : Act} {Q : Exit → Act → World → Prop} {α : Type}
end
section
variable {P : Program} {ops : Array Oper} {o : Oper} {a : Act} {Q : Exit → Act → World → Prop} {Kc : Act → World → Prop} {α : Type}
end
/-- A row of scalars is the elder form. -/
theorem reps_scalar {α : Type} {enc : α → Value} (xs : List α) : Reps (fun (x : α) (cs : List Value) => cs = [enc x]) 1 xs (encs enc xs) := by
  refine ⟨by simp [encs], fun j p hj => ?_⟩
  obtain ⟨hl, hp⟩ := List.getElem?_eq_some_iff.1 hj
  have hl' : j < (encs enc xs).length := by rw [encs_length]; exact hl
  rw [Nat.mul_one, List.drop_eq_getElem_cons hl']
  simp [encs, hp]
theorem R_of_own {α : Type} {enc : α → Value} {h1 : ∀ x, (enc x).oneCell' = true} {e : Nat} {w : World} {base : Nat} {ok : Nat → Prop} {v : Value} {xs : List α} (ho : w.ownsRow base e 1 v xs.length (encs enc xs)) (hok : ∀ k, v.ownBlock = some k → ok k) : (scalar enc h1).R e w base ok v xs := ⟨hok, encs enc xs, ho, reps_scalar xs⟩
theorem own_of_R {α : Type} {enc : α → Value} {h1 : ∀ x, (enc x).oneCell' = true} {e : Nat} {w : World} {base : Nat} {ok : Nat → Prop} {v : Value} {xs : List α} (h : (scalar enc h1).R e w base ok v xs) : w.ownsRow base e 1 v xs.length (encs enc xs) := by
  obtain ⟨_, inner, ho, hr⟩ := h
  have : inner = encs enc xs := by
    apply List.ext_getElem?
    intro j
    rcases Nat.lt_or_ge j xs.length with hj | hj
    · have h2 := hr.2 j _ (List.getElem?_eq_getElem hj)
      have hl : j < inner.length := by have := hr.1; simp [scalar] at this; omega
      have h3 : (inner.drop (j * 1)).take 1 = [enc xs[j]] := h2
      rw [Nat.mul_one, List.drop_eq_getElem_cons hl] at h3
      have h4 : inner[j] = enc xs[j] := by
        have h5 := congrArg List.head? h3
        rw [List.take_succ_cons] at h5
        exact Option.some.inj h5
      rw [List.getElem?_eq_getElem hl, h4]
      simp [encs, List.getElem?_eq_getElem hj]
    · have h3 : inner.length = xs.length := by have := hr.1; simp [scalar] at this; omega
      rw [List.getElem?_eq_none (by omega), List.getElem?_eq_none (by rw [encs_length]; omega)]
  rw [← this]
  exact ho
end Kd
/-! ### 24. Kinds nested in themselves -/
namespace Kd
section
variable {α : Type} {F : Kd α → Kd α} {sz : Nat} {E : List Nat} {hs : ∀ n, (upto F sz E n).sz = sz} {hE : ∀ n q, q ∈ (upto F sz E n).E → q ∈ E}
end
end Kd
/-! ### 25. What is held while another row is written: 'ok' says that its rows are none of that row's block -/
namespace Kd
end Kd
/-! ### 26. Words for a printer that takes every slice by its kind -/
namespace Kd
section
variable {α β : Type} {d : Kd α} {d' : Kd β} {e e' : Nat} {w w1 W : World} {base b b' : Nat} {ok ok' okv oku : Nat → Prop} {v u : Value} {xs : List α} {ys : List β}
theorem R_base (h : d.R e w base ok v xs) : ∀ k, v.ownBlock = some k → base ≤ k := by
  obtain ⟨inner, ho⟩ := R_own h
  exact own_base ho
end
/-! #### scalars -/
section
variable {w W : World} {A : Option Addr} {n : Nat}
variable {α : Type} {enc : α → Value} {h1 : ∀ x, (enc x).oneCell' = true} {e base g cap : Nat} {ok : Nat → Prop} {xs : List α}
end

/-! #### events: a letter for what make and a literal leave -/
section
variable {P : Program} {ops : Array Oper} {rest : List Oper} {o : Oper} {a : Act} {Q : Exit → Act → World → Prop}
theorem event_run {W w1 : World} {v : Value} (hgd : o.guard = none) (hrun : (execOp a.eval o).run P W = .ok (.value v) w1) (h : wpList P ops Q rest (a.put o.dst v) w1) : wpList P ops Q (o :: rest) a W := by
  refine wpList_plain hgd fun K hK => ?_
  unfold Oper.wp
  rw [hrun]
  exact hK _ _ h
variable {α : Type}
/-- A literal '[]T{..}': inner its cells. 'hd' picks the operation; 'hrun' by '(by go_simp; rfl)'. -/
theorem R_lit (d : Kd α) {w0 W : World} (base e : Nat) (hgd : o.guard = none) {N : Tmp} (_hd : o.dst = some N) {xs : List α} {inner : List Value} {ok okp : Nat → Prop}
    (hrun : (execOp a.eval o).run P W = .ok (.value (.slice (some ⟨W.heap.size, 0, none⟩) xs.length xs.length)) (W.alloc (.cells inner.toArray e)))
    (hrep : Reps (d.M W base okp) d.sz xs inner) (hok : ∀ k, okp k → ok k) (hfresh : ok W.heap.size) (HB : Below base w0 W) (hbase : base ≤ W.heap.size) (hm : xs.length ≤ 9223372036854775807)
    (h : ∀ v1 w1, d.R e w1 base ok v1 xs → Below base w0 w1 → W.grownBy w1 none → (∃ b, v1.ownBlock = some b ∧ W.heap.size ≤ b) → wpList P ops Q rest (a.put o.dst v1) w1) : wpList P ops Q (o :: rest) a W := by
  refine event_run hgd hrun (h _ _ ⟨fun k hk => ?_, inner, ?_, ?_⟩ (HB.alloc hbase _) (World.grownBy_alloc W _ none) ⟨W.heap.size, by simp [Value.ownBlock], Nat.le_refl _⟩)
  · have : W.heap.size = k := by simpa [Value.ownBlock] using hk
    subst this
    exact hfresh
  · have h2 := World.ownsRow_lit (base := base) (e := e) (size := d.sz) W inner.toArray xs.length hbase (by simpa [maxLen] using hm) (by simpa using hrep.1)
    simpa using h2
  · refine hrep.imp_ (fun p c hp => d.M_mono (fun k hk => ⟨hok k hk.1, fun he => ?_⟩) (M_below (d.M_bound hp) (below_alloc (Below.refl _ _) _)))
    have h3 : k = W.heap.size := by simpa [Value.ownBlock] using he
    have := hk.2.2.1
    omega
theorem reps_made {α : Type} {R : α → List Value → Prop} {z : Value} {size : Nat} {z0 : α} (hz : z.cells.size = size) (hs : 0 < size) (h0 : R z0 z.cells.toList) (m : Nat) : Reps R size (List.replicate m z0) (madeCells z.cells (m * size)).toList := by
  refine ⟨by simp [size_madeCells], fun j p hj => ?_⟩
  obtain ⟨hjl, hp⟩ := List.getElem?_eq_some_iff.1 hj
  have hjm : j < m := by simpa using hjl
  have hp' : z0 = p := by simpa using hp
  subst hp'
  have hle : j * size + size ≤ m * size := by rw [← Nat.succ_mul]; exact Nat.mul_le_mul_right _ hjm
  have : ((madeCells z.cells (m * size)).toList.drop (j * size)).take size = z.cells.toList := by
    apply List.ext_getElem
    · simp [size_madeCells, hz]
      omega
    · intro i h1 h2
      have hi : i < size := by rw [Array.length_toList, hz] at h2; exact h2
      have hmod : (j * size + i) % size = i := by
        rw [Nat.mul_comm, Nat.mul_add_mod]
        exact Nat.mod_eq_of_lt hi
      simp [madeCells, hz, hmod]
      rw [getElem!_pos z.cells i (by omega)]
  rw [this]
  exact h0
end
end Kd
/-! ### 27. Cuts of a row of one's own: 'xs = xs[:n]' stays a row (R_take); 'xs = xs[k:]' is a row that begins inside its block (Kd.Q), append goes on it too -/
section
variable {P : Program}
theorem cut_to (t e : TypeId) (kh : IntKind) {i : TypeInfo} (ht : P.underlying t = some (.slice e)) (hi : P.info? e = some i) (A : Option Addr) (n c : Nat) (j : Int) (h0 : 0 ≤ j) (hm : j ≤ n) (hc : n ≤ c) :
    ∀ W : World, (Instr.slice t (.slice A n c) none (some (.int kh j)) none).run P W = .ok (.slice A j.toNat c) W := by
  intro W
  have hel : P.elem t = e := by simp [Program.elem, ht]
  have hu : P.underlying t = some (.slice (P.elem t)) := by rw [hel]; exact ht
  have ha : (A.map fun x => x.add 0) = A := by cases A <;> simp [Addr.add]
  rw [run_slice_h W t A n c hu kh j h0 (by omega), hel]
  simp [sizeOf, typeInfo, hi, sliced, Result.andThen, ha]
end
/-- A row of one's own that may begin inside its block. -/
def QRow (w : World) (base : Nat) (e : TypeId) (size : Nat) (v : Value) (n : Nat) (xs : List Value) : Prop :=
  xs.length = n * size ∧
  ((n = 0 ∧ ∃ A, v = .slice A 0 0 ∧ ∀ a, A = some a → base ≤ a.block ∧ ∃ cur, w.heap[a.block]? = some (.cells cur e (0, 0))) ∨
   ∃ g off cap cur, v = .slice (some ⟨g, off * size, none⟩) n cap ∧ base ≤ g ∧ w.heap[g]? = some (.cells cur e (0, 0)) ∧ n ≤ cap ∧ off + cap ≤ maxLen ∧ cur.size = (off + cap) * size ∧ (cur.toList.drop (off * size)).take (n * size) = xs)
section
variable {w w1 : World} {base n size : Nat} {e : TypeId} {v : Value} {xs : List Value}
/-- What a run of cells written leaves. -/
theorem setCells_far {g : Nat} : ∀ (vs : List Value) (o : Nat) {w : World} (k : Nat), k ≠ g → (w.setCells g o vs).heap[k]? = w.heap[k]?
  | [], _, _, _, _ => rfl
  | v :: r, o, w, k, hk => by
    rw [World.setCells, setCells_far r (o + 1) k hk]
    exact Below.heap_setCell w ⟨g, o, none⟩ v k hk
theorem setCells_same (g : Nat) : ∀ (vs : List Value) (o : Nat) (w : World), (w.setCells g o vs).os = w.os ∧ (w.setCells g o vs).tape = w.tape ∧ (w.setCells g o vs).output = w.output ∧ (w.setCells g o vs).heap.size = w.heap.size
  | [], _, _ => ⟨rfl, rfl, rfl, rfl⟩
  | v :: r, o, w => by
    obtain ⟨h1, h2, h3, h4⟩ := setCells_same g r (o + 1) (w.setCell ⟨g, o, none⟩ v)
    rw [World.setCells]
    exact ⟨h1, h2, h3, by rw [h4]; simp [World.setCell]⟩
theorem setCells_row {g : Nat} {e : TypeId} : ∀ (vs : List Value) (o : Nat) (w : World) (cur : Array Value), w.heap[g]? = some (.cells cur e (0, 0)) → o + vs.length ≤ cur.size →
    ∃ cur', (w.setCells g o vs).heap[g]? = some (.cells cur' e (0, 0)) ∧ cur'.size = cur.size ∧ cur'.toList = cur.toList.take o ++ vs ++ cur.toList.drop (o + vs.length)
  | [], o, w, cur, h, _ => ⟨cur, h, rfl, by simp⟩
  | v :: r, o, w, cur, h, hl => by
    have h2 := blk_set h o v
    simp only [List.length_cons] at hl
    obtain ⟨cur', h3, h4, h5⟩ := setCells_row r (o + 1) (w.setCell ⟨g, o, none⟩ v) _ h2 (by simp; omega)
    refine ⟨cur', h3, by rw [h4]; simp, ?_⟩
    rw [h5, Array.toList_setIfInBounds]
    have ho : o < cur.toList.length := by rw [Array.length_toList]; omega
    rw [List.take_set, List.drop_set_of_lt (by omega)]
    simp only [List.length_cons]
    rw [show o + 1 + r.length = o + (r.length + 1) by omega]
    congr 1
    rw [List.take_succ_eq_append_getElem ho, List.set_append_right _ _ (by rw [List.length_take]; omega)]
    have ho' : o < cur.size := by omega
    simp [Nat.min_eq_left (Nat.le_of_lt ho')]
end
section
variable {P : Program}
end
/-! ### 28. The kinds' words for cuts: R_take; Q (a row that may begin inside its block) with all of R's movers -/
namespace Kd
def Q {α : Type} (d : Kd α) (e : Nat) (w : World) (base : Nat) (ok : Nat → Prop) (v : Value) (xs : List α) : Prop :=
  (∀ k, v.ownBlock = some k → ok k) ∧ ∃ inner, QRow w base e d.sz v xs.length inner ∧ Reps (d.M w base (fun k => ok k ∧ some k ≠ v.ownBlock)) d.sz xs inner
section
variable {α : Type} {d : Kd α} {e : Nat} {w w1 W : World} {base : Nat} {ok ok' : Nat → Prop} {v : Value} {xs : List α}
end
section
variable {P : Program} {ops : Array Oper} {rest : List Oper} {o : Oper} {a : Act} {Q' : Exit → Act → World → Prop} {Kc : Act → World → Prop} {α : Type}
end
end Kd
/-! ### 29. Movers that ask of another row no more than they need: for R and for Q -/
namespace Kd
section
variable {α : Type} {d : Kd α} {e e' : Nat} {w w1 W : World} {base : Nat} {ok : Nat → Prop} {u v : Value} {xs : List α}
end
end Kd
/-! ### 30. Elements written: x[i] = T{..}, x[i].f = v, swaps, in a row of elements of any kind -/
namespace Kd
section
variable {α : Type} {d : Kd α} {e base g n cap : Nat} {ok okp : Nat → Prop} {W : World} {xs : List α}
end
end Kd
/-! ### 31. What came in, put into what is made: 'fixed d w0' (read in w0, whatever happens since), 'or_ a b', 'mix' (a slice that came in, or one that is made) -/
namespace Kd
section
variable {α : Type} {F : Kd α → Kd α} {sz : Nat} {E : List Nat} {hs : ∀ n, (upto F sz E n).sz = sz} {hE : ∀ n q, q ∈ (upto F sz E n).E → q ∈ E}
end
end Kd
/-! ### 32. A whole row appended, of elements of any kind; copy onto a row of scalars of one's own -/
namespace Kd
theorem reps_append {α : Type} {R : α → List Value → Prop} {size : Nat} {ps qs : List α} {cs ds : List Value} (h : Reps R size ps cs) (h' : Reps R size qs ds) : Reps R size (ps ++ qs) (cs ++ ds) := by
  refine ⟨by rw [List.length_append, List.length_append, h.1, h'.1, Nat.add_mul], fun j p hj => ?_⟩
  rcases Nat.lt_or_ge j ps.length with hlt | hge
  · rw [List.getElem?_append_left hlt] at hj
    have hle : j * size + size ≤ cs.length := by rw [h.1, ← Nat.succ_mul]; exact Nat.mul_le_mul_right _ hlt
    rw [List.drop_append_of_le_length (by omega), List.take_append_of_le_length (by rw [List.length_drop]; omega)]
    exact h.2 j p hj
  · rw [List.getElem?_append_right hge] at hj
    have h2 := h'.2 (j - ps.length) p hj
    have hle : ps.length * size ≤ j * size := Nat.mul_le_mul_right _ hge
    rw [List.drop_append, List.drop_eq_nil_of_le (by rw [h.1]; exact hle), List.nil_append, h.1, ← Nat.sub_mul]
    exact h2
section
variable {P : Program} {ops : Array Oper} {rest : List Oper} {o : Oper} {a : Act} {Q : Exit → Act → World → Prop} {α : Type}
/-- append(v, ys...): Rr is what is known of a read element's cells (d.K W; or k<T>.K w0 for a row that came in), hKM: it may stand as_ made. -/
theorem R_append_rows (d : Kd α) {Rr : α → List Value → Prop} {w0 W : World} (base : Nat) (hgd : o.guard = none) (s x : Operand) (t e : TypeId) (z : Value) (bytes : Nat)
    (ho : o.op = .call { callee := .builtin .append, args := #[s, x], argTypes := #[t, t] })
    (ht : P.underlying t = some (.slice e)) (hinfo : (P.info? e).map (fun i => (i.zero, i.size, i.bytes)) = some (some z, d.sz, bytes)) (hz : z.cells.size = d.sz) (hs0 : 0 < d.sz) (hb0 : 0 < bytes)
    (v : Value) (xs ys : List α) (A : Option Addr) (m c : Nat) (ok okp : Nat → Prop) (hs : a.eval s = v) (hx : a.eval x = .slice A m c)
    (HO : d.R e W base ok v xs) (HR : ReadsRow Rr d.sz W A m ys) (hKM : ∀ x cs, Rr x cs → d.M W base okp x cs) (hokp : ∀ k, okp k → ok k ∧ some k ≠ v.ownBlock) (hfresh : ∀ k, W.heap.size ≤ k → ok k)
    (HB : Below base w0 W) (hbase : base ≤ W.heap.size) (hl : (xs.length + m) * bytes ≤ 140737488355328)
    (h : ∀ v1 w1, d.R e w1 base ok v1 (xs ++ ys) → Below base w0 w1 → W.grownBy w1 v.ownBlock → (v1.ownBlock = v.ownBlock ∨ ∃ b, v1.ownBlock = some b ∧ W.heap.size ≤ b) → wpList P ops Q rest (a.put o.dst v1) w1) :
    wpList P ops Q (o :: rest) a W := by
  obtain ⟨i0, hi, hzz⟩ := Option.map_eq_some_iff.1 hinfo
  simp only [Prod.mk.injEq] at hzz
  obtain ⟨hz0, hz1, hz2⟩ := hzz
  have hm : ys.length = m := HR.1
  have hlen : xs.length + m ≤ 140737488355328 := Nat.le_trans (Nat.le_mul_of_pos_right _ hb0) hl
  obtain ⟨hok, inner, hown, hr⟩ := HO
  have hrun : ∃ v1 w1, (Builtin.append_ #[t, t] o.type #[v, .slice A m c]).run P W = .ok v1 w1 ∧ d.R e w1 base ok v1 (xs ++ ys) ∧ W.grownBy w1 v.ownBlock ∧ (v1.ownBlock = v.ownBlock ∨ ∃ b, v1.ownBlock = some b ∧ W.heap.size ≤ b) := by
    rcases A with _ | ad
    · have h0 : m = 0 := by
        rcases Nat.eq_zero_or_pos m with h0 | h0
        · exact h0
        · obtain ⟨ad, h, _⟩ := HR.2.2 h0
          cases h
      subst h0
      obtain rfl : ys = [] := List.eq_nil_of_length_eq_zero hm
      refine ⟨v, W, ?_, by rw [List.append_nil]; exact ⟨hok, inner, hown, hr⟩, World.grownBy.refl W _, .inl rfl⟩
      rcases hown.2 with ⟨rfl, hn⟩ | ⟨g, cap, cur, rfl, _, _, hnc, _⟩
      · simp [Builtin.append_, run_underlying ht, sizeOf, typeInfo, hi, Builtin.lenOf, Builtin.firstCells]
      · simp [Builtin.append_, run_underlying ht, sizeOf, typeInfo, hi, Builtin.lenOf, Builtin.firstCells, hnc, storeCells]
    · obtain ⟨news, hnr, hnc⟩ := ReadsRow.inner_ HR
      have hnM : Reps (d.M W base okp) d.sz ys news := hnr.imp_ (fun p c hp => hKM p c hp)
      have hone : ∀ u ∈ news, u.oneCell' = true := by
        intro u hu
        obtain ⟨q, hq, rfl⟩ := List.mem_iff_getElem.1 hu
        have hql : q / d.sz < ys.length := by
          rw [Nat.div_lt_iff_lt_mul hs0]
          rw [← hnM.1]
          exact hq
        have hc := hnM.2 (q / d.sz) _ (List.getElem?_eq_getElem hql)
        refine d.K_one (d.K_of_M hc) _ ?_
        rw [List.mem_iff_getElem?]
        refine ⟨q % d.sz, ?_⟩
        rw [List.getElem?_take, if_pos (Nat.mod_lt _ hs0), List.getElem?_drop, Nat.mul_comm, Nat.div_add_mod, List.getElem?_eq_getElem hq]
      obtain ⟨v1, w1, hrun, h2, hg, _, hat⟩ := run_append_own_at (P := P) W base t o.type e i0 z d.sz bytes ht hi hz0 hz1 hz2 hz hs0 v xs.length inner hown ad m c news (by rw [hnM.1, hm]) hnc hone (by simp only [maxLen]; omega) hl hbase
      have hat' : v1.ownBlock = v.ownBlock ∨ ∃ b, v1.ownBlock = some b ∧ W.heap.size ≤ b := by
        rcases hat with hat | hat
        · exact .inl hat
        · exact .inr ⟨_, hat, Nat.le_refl _⟩
      have hne : ∀ k, some k ≠ v.ownBlock → k < W.heap.size → some k ≠ v1.ownBlock := by
        intro k hk hlt
        rcases hat' with hat | ⟨b, hb, hle⟩
        · rw [hat]; exact hk
        · rw [hb]
          intro he
          injection he with he
          omega
      have step : ∀ {q : α} {c : List Value} {o : Nat → Prop}, d.M W base o q c → (∀ k, o k → ok k ∧ some k ≠ v.ownBlock) → d.M w1 base (fun k => ok k ∧ some k ≠ v1.ownBlock) q c := by
        intro q c o hq ho
        have h1 := d.M_move (w1 := w1) (fun k hk => hg.block k hk.2.2.1 (ho k hk.1).2) (d.M_bound hq)
        exact d.M_mono (fun k hk => ⟨(ho k hk.1).1, hne k (ho k hk.1).2 hk.2.2.1⟩) h1
      refine ⟨v1, w1, hrun, ⟨fun k hk => ?_, inner ++ news, by rw [List.length_append, hm]; exact h2, reps_append (hr.imp_ (fun _ _ hq => step hq (fun _ hk => hk))) (hnM.imp_ (fun _ _ hq => step hq hokp))⟩, hg, hat'⟩
      rcases hat' with hat | ⟨b, hb, hle⟩
      · exact hok k (hat ▸ hk)
      · rw [hb] at hk
        injection hk with hk
        exact hfresh k (by omega)
  obtain ⟨v1, w1, hr1, h1, hg, hat⟩ := hrun
  refine wpList_plain hgd fun K hK => ?_
  unfold Oper.wp execOp
  simp only [ho, resolve, invoke, builtin, Sem.run_bind, Sem.run_pure, Result.andThen_ok, List.map_toArray, List.map_cons, List.map_nil, hs, hx, hr1]
  exact hK _ _ (h v1 w1 h1 (HB.grown hg hbase (own_base hown)) hg hat)
end
end Kd
/-! ### 33. A store into a row of one's own, as_ an event: no go_simp -/
namespace Kd
section
variable {P : Program} {ops : Array Oper} {rest : List Oper} {o : Oper} {a : Act} {Q : Exit → Act → World → Prop} {α : Type}
end
end Kd
/-! ### 34. Cuts that are only read, of any row -/
theorem add_add (a : Addr) (i j : Nat) : (a.add i).add j = a.add (i + j) := by
  unfold Addr.add
  by_cases h1 : i = 0 <;> by_cases h2 : j = 0 <;> simp [h1, h2, Nat.add_assoc]
namespace Kd
section
variable {α : Type} {k : Kd α} {w : World} {A : Option Addr} {xs : List α} {m c : Nat}
end
end Kd
section
variable {P : Program}
end
/-! ### 35. string(b), b read (a cut too) -/
/-! ### 6. What the printer adds -/
theorem ReadsInt.nil (W : World) (k : IntKind) : ReadsInt W k none ([] : List Int).length [] := ⟨rfl, by simp, fun h => absurd h (Nat.lt_irrefl 0)⟩
theorem ReadsInt.drewN {W : World} {k : IntKind} {A : Option Addr} {n : Nat} {xs : List Int} (h : ReadsInt W k A n xs) (m : Nat) : ReadsInt (W.drewN m) k A n xs := h
theorem keep_cell {w W : World} {g : Nat} (h : KeepBut w W g none) {a : Addr} {v : Value} (hc : w.cell? a = some v) (hne : a.block ≠ g) : W.cell? a = some v := by
  have := h.2 a.block (World.block_lt_of_cell? w a hc) hne (by simp)
  simpa [World.cell?, this] using hc
theorem add_block (a : Addr) (i : Nat) : (a.add i).block = a.block := by unfold Addr.add; split <;> rfl
theorem ReadsOf.nil {α : Type} (enc : α → Value) (d : α) (W : World) : ReadsOf enc d W none ([] : List α).length [] := ⟨rfl, by simp, fun h => absurd h (Nat.lt_irrefl 0)⟩
theorem ReadsOf.drewN {α : Type} {enc : α → Value} {d : α} {W : World} {A : Option Addr} {n : Nat} {xs : List α} (h : ReadsOf enc d W A n xs) (m : Nat) : ReadsOf enc d (W.drewN m) A n xs := h
theorem ReadsInt.keep {w W : World} {k : IntKind} {A : Option Addr} {n g : Nat} {xs : List Int} (h : ReadsInt w k A n xs) (hk : KeepBut w W g none) (hf : ∀ ad, A = some ad → 0 < n → ad.block ≠ g) : ReadsInt W k A n xs :=
  ⟨h.1, h.2.1, fun hn => by
    obtain ⟨ad, e, hc⟩ := h.2.2 hn
    exact ⟨ad, e, fun j hj => keep_cell hk (hc j hj) (by rw [add_block]; exact hf ad e hn)⟩⟩
theorem ReadsOf.keep {α : Type} {enc : α → Value} {d : α} {w W : World} {A : Option Addr} {n g : Nat} {xs : List α} (h : ReadsOf enc d w A n xs) (hk : KeepBut w W g none) (hf : ∀ ad, A = some ad → 0 < n → ad.block ≠ g) : ReadsOf enc d W A n xs :=
  ⟨h.1, h.2.1, fun hn => by
    obtain ⟨ad, e, hc⟩ := h.2.2 hn
    exact ⟨ad, e, fun j hj => keep_cell hk (hc j hj) (by rw [add_block]; exact hf ad e hn)⟩⟩
namespace Kd
section
variable {α β : Type} {d : Kd α} {d' : Kd β} {e e' base base' n : Nat} {ok ok' : Nat → Prop} {w W w1 W1 : World} {v u : Value} {xs : List α} {ys : List β} {A : Option Addr} {c : Nat}
end
section
variable {α : Type} {enc : α → Value} {h1 : ∀ x, (enc x).oneCell' = true} {w W : World} {A : Option Addr} {n g : Nat} {xs : List α}
end
end Kd
namespace Kd
section
variable {α : Type} {d : Kd α} {e base g : Nat} {ok : Nat → Prop} {w w1 : World} {v : Value} {xs : List α} {o : Obj}
end
end Kd
section
variable {P : Program} {ops : Array Oper} {rest : List Oper} {o : Oper} {a : Act} {Q : Exit → Act → World → Prop}
end
namespace Kd
section
variable {α : Type} {enc : α → Value} {h1 : ∀ x, (enc x).oneCell' = true} {e base g n cap : Nat} {ok : Nat → Prop} {W : World} {xs : List α}
end
end Kd
section
variable {P : Program} {ops : Array Oper} {rest : List Oper} {o : Oper} {a : Act} {Q : Exit → Act → World → Prop}
end
namespace Kd
section
variable {α : Type} {enc : α → Value} {h1 : ∀ x, (enc x).oneCell' = true} {e base g n cap : Nat} {ok : Nat → Prop} {W : World} {xs : List α}
end
end Kd
section
variable {P : Program} {ops : Array Oper} {rest : List Oper} {o : Oper} {a : Act} {Q : Exit → Act → World → Prop} {W : World}
theorem gate_dst {N : Tmp} (_hN : o.dst = some N) (h : wpList P ops Q (o :: rest) a W) : wpList P ops Q (o :: rest) a W := h
end
/-! ### 36. Events as_ one step of a region that draws (for one_, two_, three_) -/
section
variable {P : Program} {ops : Array Oper} {o : Oper} {a : Act} {Q : Exit → Act → World → Prop} {Kc : Act → World → Prop}
namespace Kd
variable {α : Type}
end Kd
end
/-! ### 37. Results of any shape -/
section
variable {P : Program} {tmps : Array Value} {w : World}
end
/-! ### 38. 'out = append(out[:k], out[k+1:]...)': an element taken out of a row of one's own, in place -/
namespace Kd
section
variable {P : Program} {α : Type}
end
section
variable {P : Program} {ops : Array Oper} {rest : List Oper} {o : Oper} {a : Act} {Q : Exit → Act → World → Prop} {Kc : Act → World → Prop} {α : Type}
end
end Kd

end Go.Proofs.YtabhngbpkfdeiaaGreatDoorW.PrintWords
end
section
/- Words of the walks of this place: lemmas on rows, regions and rounds, those that the texts beside use. No condition. -/
/-
  PRINTED WORDS, second file: A REGION THAT DRAWS ITS ORDER, WALKED BY HAND, where its last store writes what its own loads read ('x.f = append(x.f, f(i))'). Plain theorems; no macro, no elab. A claim may hold it (turn the namespace's name).
  A load may be taken first in every world that meets S; behind the operations of ds nothing is shown; sound because each of ds waits for what is taken (Region.lastB). The kernel checks it.
  By an AI agent of Go's test side, Mon Nov 16 2026. No person has read it.
-/
namespace Go.Proofs.YtabhngbpkfdeiaaGreatDoorW.PrintLast

section
variable {P : Program} {ops : Array Oper} {Q : Exit → Act → World → Prop} {md : Region.Mode} {S : World → Prop} {ds : List Nat}

def ListedClosed (md : Region.Mode) (ops : Array Oper) (listed : Array Bool) : Prop :=
  ∀ j oj, ops[j]? = some oj → listed.getD j false = true → ∀ e ∈ oj.after, Region.binds md e = true → listed.getD e.on false = true

theorem ListedClosed.set {listed : Array Bool} {i : Nat} (h : ListedClosed md ops listed) (hi : i ∈ Region.ready md ops listed) : ListedClosed md ops (listed.setIfInBounds i true) := by
  obtain ⟨_, oi, hoi, hall⟩ := mem_ready.1 hi
  intro j oj hj hl e he hb
  by_cases hij : i = j
  · subst hij
    have : oj = oi := Option.some.inj (hj.symm.trans hoi)
    subst this
    exact getD_set_true (hall e he hb)
  · rw [getD_set_ne false hij] at hl
    exact getD_set_true (h j oj hj hl e he hb)

/-- Whatever order is picked from here on, AND 'S' HOLDS BEHIND EVERY OPERATION THAT IS CARRIED OUT, those of ds apart. -/
def wpAnyLast (P : Program) (md : Region.Mode) (ops : Array Oper) (Q : Exit → Act → World → Prop) (S : World → Prop) (ds : List Nat) : Nat → Array Bool → Act → World → Prop
  | 0, listed, a, w => Region.ready md ops listed = [] ∧ Q .normal a w
  | fuel + 1, listed, a, w =>
    (Region.ready md ops listed = [] → Q .normal a w) ∧
    ∀ i ∈ Region.ready md ops listed, wpOp P ops Q i (fun a' w' => (i ∉ ds → S w → S w') ∧ wpAnyLast P md ops Q S ds fuel (listed.setIfInBounds i true) a' w') a w

end

section
variable {P : Program} {ops : Array Oper} {Q : Exit → Act → World → Prop} {md : Region.Mode} {S : World → Prop} {ds : List Nat}

def AllReadyL (P : Program) (md : Region.Mode) (ops : Array Oper) (Q : Exit → Act → World → Prop) (S : World → Prop) (ds : List Nat) (fuel : Nat) (listed : Array Bool) (a : Act) (w : World) (rs : List Nat) : Prop :=
  ∀ i ∈ rs, wpOp P ops Q i (fun a' w' => (i ∉ ds → S w → S w') ∧ wpAnyLast P md ops Q S ds fuel (listed.setIfInBounds i true) a' w') a w
theorem AllReadyL.nil {fuel : Nat} {listed : Array Bool} {a : Act} {w : World} : AllReadyL P md ops Q S ds fuel listed a w [] := fun _ h => by cases h
theorem AllReadyL.cons {fuel : Nat} {listed : Array Bool} {a : Act} {w : World} {i : Nat} {o : Oper} {rs : List Nat} (ho : ops[i]? = some o) (hd : i ∉ ds)
    (h : ∀ K' : Act → World → Prop, Shut (∀ a w, S w → (S w → wpAnyLast P md ops Q S ds fuel (listed.setIfInBounds i true) a w) → K' a w) → if Region.wanted o (yielded ops a.tmps) = true then Oper.wp P o a w K' Q else K' (a.put o.dst undef) w)
    (hs : AllReadyL P md ops Q S ds fuel listed a w rs) : AllReadyL P md ops Q S ds fuel listed a w (i :: rs) := fun j hj => by
  rcases List.mem_cons.1 hj with rfl | hj
  · exact wpOp_step ho (fun K' hK => h K' (fun a w hS hW => hK a w ⟨fun _ _ => hS, hW hS⟩))
  · exact hs j hj
/-! ### Several operations that write or call may come up: each order is walked, what follows is shown once (join_) -/
end
end Go.Proofs.YtabhngbpkfdeiaaGreatDoorW.PrintLast
end
section
/- Words of the walks of this place: lemmas on rows, regions and rounds, those that the texts beside use. No condition. -/
/-! ### 39. Stores into a row that may begin inside its block (Q): Q_form, Q_elem, Q_seg; scalars: Q_cell, Q_putg -/
namespace Go.Proofs.YtabhngbpkfdeiaaGreatDoorW.PrintWords
open Go.RowKit
namespace Kd
section
variable {α : Type} {d : Kd α} {e base g o n cap : Nat} {ok okp : Nat → Prop} {w W : World} {v : Value} {xs : List α}
end
section
variable {α : Type} {enc : α → Value} {h1 : ∀ x, (enc x).oneCell' = true} {e base g o n cap : Nat} {ok : Nat → Prop} {W : World} {xs : List α}
end
end Kd
end Go.Proofs.YtabhngbpkfdeiaaGreatDoorW.PrintWords
end
section
/- Words of the walks of this place: lemmas on rows, regions and rounds, those that the texts beside use. No condition. -/
/-! ### 40. Elements whose inner rows lie apart: what is stored into one says nothing of the others.
   S: as R, with an owner function f (block to element's index). H: as S with a hole: of element i its cells alone are told, its blocks are oki. -/
namespace Go.Proofs.YtabhngbpkfdeiaaGreatDoorW.PrintWords
open Go.RowKit
namespace Kd
/-- An element with its index: its blocks are those that f gives to it. -/
def tag {α : Type} (f : Nat → Nat) (d : Kd α) : Kd (α × Nat) where
  sz := d.sz
  E := d.E
  K := fun w x cs => d.K w x.1 cs
  M := fun w base ok x cs => d.M w base (fun k => ok k ∧ f k = x.2) x.1 cs
  K_len := fun h => d.K_len h
  K_one := fun h => d.K_one h
  K_below := fun hb h => d.K_below hb h
  K_of_M := fun h => d.K_of_M h
  M_mono := fun hok h => d.M_mono (fun k hk => ⟨hok k hk.1, hk.2⟩) h
  M_bound := fun h => d.M_mono (fun _ hk => ⟨⟨hk.1.1, hk.2⟩, hk.1.2⟩) (d.M_bound h)
  M_move := fun hm h => d.M_move (fun k hk => hm k hk.1) h
  M_lower := fun hb h => d.M_lower hb h
/-- The cells themselves. -/
def raw (sz : Nat) : Kd (List Value) where
  sz := sz
  E := []
  K := fun _ x cs => cs = x ∧ cs.length = sz ∧ ∀ u ∈ cs, u.oneCell' = true
  M := fun _ _ _ x cs => cs = x ∧ cs.length = sz ∧ ∀ u ∈ cs, u.oneCell' = true
  K_len := fun h => h.2.1
  K_one := fun h => h.2.2
  K_below := fun _ h => h
  K_of_M := fun h => h
  M_mono := fun _ h => h
  M_bound := fun h => h
  M_move := fun _ h => h
  M_lower := fun _ h => h
/-- A row of elements (type e) of the call's own, no two of which lead to one block. -/
def S {α : Type} (d : Kd α) (e : Nat) (w : World) (base : Nat) (ok : Nat → Prop) (v : Value) (xs : List α) : Prop := ∃ f, (tag f d).R e w base ok v xs.zipIdx
section
variable {α β : Type} {d : Kd α} {d' : Kd β} {e e' : Nat} {w w1 W : World} {base b : Nat} {ok ok' okv oku : Nat → Prop} {u v : Value} {xs : List α} {ys : List β}
end
section
variable {α β : Type} {d : Kd α} {d' : Kd β} {e e' g : Nat} {w w1 W : World} {base b : Nat} {ok ok' okv oku : Nat → Prop} {u v : Value} {xs : List α} {ys : List β}
end
/-! #### append, make, literals: the new element's blocks are none of the elder ones' -/
section
variable {P : Program} {ops : Array Oper} {rest : List Oper} {o : Oper} {a : Act} {Q : Exit → Act → World → Prop} {Kc : Act → World → Prop} {α : Type}
end
/-! #### a row with a hole: element i is lent, its blocks are oki; of it the row says its cells alone -/
/-- Element i is these cells; the others are d's. -/
def gap {α : Type} (f : Nat → Nat) (d : Kd α) (i : Nat) (c : List Value) : Kd (α × Nat) where
  sz := d.sz
  E := d.E
  K := fun w x cs => (x.2 = i → cs = c ∧ cs.length = d.sz ∧ ∀ u ∈ cs, u.oneCell' = true) ∧ (x.2 ≠ i → d.K w x.1 cs)
  M := fun w base ok x cs => (x.2 = i → cs = c ∧ cs.length = d.sz ∧ ∀ u ∈ cs, u.oneCell' = true) ∧ (x.2 ≠ i → d.M w base (fun k => ok k ∧ f k = x.2) x.1 cs)
  K_len := fun {w x cs} h => by
    by_cases hx : x.2 = i
    · exact (h.1 hx).2.1
    · exact d.K_len (h.2 hx)
  K_one := fun {w x cs} h => by
    by_cases hx : x.2 = i
    · exact (h.1 hx).2.2
    · exact d.K_one (h.2 hx)
  K_below := fun hb h => ⟨h.1, fun hx => d.K_below hb (h.2 hx)⟩
  K_of_M := fun h => ⟨h.1, fun hx => d.K_of_M (h.2 hx)⟩
  M_mono := fun hok h => ⟨h.1, fun hx => d.M_mono (fun k hk => ⟨hok k hk.1, hk.2⟩) (h.2 hx)⟩
  M_bound := fun h => ⟨h.1, fun hx => d.M_mono (fun _ hk => ⟨⟨hk.1.1, hk.2⟩, hk.1.2⟩) (d.M_bound (h.2 hx))⟩
  M_move := fun hm h => ⟨h.1, fun hx => d.M_move (fun k hk => hm k hk.1) (h.2 hx)⟩
  M_lower := fun hb h => ⟨h.1, fun hx => d.M_lower hb (h.2 hx)⟩
def H {α : Type} (d : Kd α) (e : Nat) (w : World) (base : Nat) (ok : Nat → Prop) (v : Value) (xs : List α) (i : Int) (oki : Nat → Prop) (c : List Value) : Prop :=
  (∀ k, oki k → ok k) ∧ ∃ f, (gap f d i.toNat c).R e w base (fun k => ok k ∧ ¬ oki k) v xs.zipIdx
section
variable {α β : Type} {d : Kd α} {e e' g n cap : Nat} {w w1 W : World} {base : Nat} {ok ok' oki okp : Nat → Prop} {u v : Value} {xs : List α} {i : Int} {c : List Value}
end
section
variable {P : Program} {ops : Array Oper} {rest : List Oper} {o : Oper} {a : Act} {Q : Exit → Act → World → Prop} {α : Type}
end
end Kd
end Go.Proofs.YtabhngbpkfdeiaaGreatDoorW.PrintWords
end
section
/- Words of the walks of this place: lemmas on rows, regions and rounds, those that the texts beside use. No condition. -/
/-! ### 41. Arrays '[n]T' as_ values: a kind (a field, an element of a row), an element read, an element set -/
namespace Go.Proofs.YtabhngbpkfdeiaaGreatDoorW.PrintWords
open Go.RowKit
namespace Kd
theorem reps_one {α : Type} {R : α → List Value → Prop} {size : Nat} {ps : List α} {cs : List Value} (h : Reps R size ps cs) (hs0 : 0 < size) (hR : ∀ p c, R p c → ∀ u ∈ c, u.oneCell' = true) : ∀ u ∈ cs, u.oneCell' = true := by
  intro u hu
  obtain ⟨q, hq, rfl⟩ := List.mem_iff_getElem.1 hu
  have hql : q / size < ps.length := by
    rw [Nat.div_lt_iff_lt_mul hs0, ← h.1]
    exact hq
  refine hR _ _ (h.2 (q / size) _ (List.getElem?_eq_getElem hql)) _ ?_
  rw [List.mem_iff_getElem?]
  refine ⟨q % size, ?_⟩
  rw [List.getElem?_take, if_pos (Nat.mod_lt _ hs0), List.getElem?_drop, Nat.mul_comm, Nat.div_add_mod, List.getElem?_eq_getElem hq]
/-- An array of n elements of kind d. -/
def arr {α : Type} (n : Nat) (d : Kd α) (hs : 0 < d.sz) : Kd (List α) where
  sz := n * d.sz
  E := d.E
  K := fun w xs cs => xs.length = n ∧ Reps (d.K w) d.sz xs cs
  M := fun w base ok xs cs => xs.length = n ∧ Reps (d.M w base ok) d.sz xs cs
  K_len := fun h => by rw [← h.1]; exact h.2.1
  K_one := fun h => reps_one h.2 hs (fun _ _ hk => d.K_one hk)
  K_below := fun hb h => ⟨h.1, h.2.imp_ (fun _ _ hk => d.K_below hb hk)⟩
  K_of_M := fun h => ⟨h.1, h.2.imp_ (fun _ _ hk => d.K_of_M hk)⟩
  M_mono := fun hok h => ⟨h.1, h.2.imp_ (fun _ _ hk => d.M_mono hok hk)⟩
  M_bound := fun h => ⟨h.1, h.2.imp_ (fun _ _ hk => d.M_bound hk)⟩
  M_move := fun hm h => ⟨h.1, h.2.imp_ (fun _ _ hk => d.M_move hm hk)⟩
  M_lower := fun hb h => ⟨h.1, h.2.imp_ (fun _ _ hk => d.M_lower hb hk)⟩
section
variable {α : Type} {n : Nat} {d : Kd α} {hs : 0 < d.sz} {w : World} {base : Nat} {ok : Nat → Prop} {xs : List α} {cs : List Value}
end
section
variable {α : Type} {n : Nat} {enc : α → Value} {h1 : ∀ x, (enc x).oneCell' = true} {hs : 0 < (scalar enc h1).sz} {w : World} {base : Nat} {ok : Nat → Prop} {xs : List α} {cs : List Value}
end
end Kd
end Go.Proofs.YtabhngbpkfdeiaaGreatDoorW.PrintWords
end
section
/- Words of the walks of this place: lemmas on rows, regions and rounds, those that the texts beside use. No condition. -/
/-! ### 42. append(v, make([]T, n)...): the operation comes as_ append with the number in the second place -/
namespace Go.Proofs.YtabhngbpkfdeiaaGreatDoorW.PrintWords
open Go.RowKit
section
variable {P : Program}
theorem run_append_zeros (w : World) (base : Nat) (t ti ty e : TypeId) (i : TypeInfo) (z : Value) (size bytes : Nat) (ht : P.underlying t = some (.slice e)) {k : IntKind} (hti : P.underlying ti = some (.int k)) (hi : P.info? e = some i) (hz : i.zero = some z)
    (hsize : i.size = size) (hby : i.bytes = bytes) (hzs : z.cells.size = size) (hsz : 0 < size) (hb0 : 0 < bytes)
    (v : Value) (n : Nat) (xs : List Value) (hown : w.ownsRow base e size v n xs) (kx : IntKind) (m : Nat) (h1 : ∀ u ∈ (Builtin.zeroCells z.cells m).toList, u.oneCell' = true)
    (hbytes : (n + m) * bytes ≤ 140737488355328) (hbase : base ≤ w.heap.size) :
    ∃ v' w', (Builtin.append_ #[t, ti] ty #[v, .int kx m]).run P w = .ok v' w' ∧ w'.ownsRow base e size v' (n + m) (xs ++ (Builtin.zeroCells z.cells m).toList) ∧ w.grownBy w' v.ownBlock ∧
      (v'.ownBlock = v.ownBlock ∨ v'.ownBlock = some w.heap.size) := by
  subst hsize
  subst hby
  have hle : n + m ≤ 140737488355328 := Nat.le_trans (Nat.le_mul_of_pos_right _ hb0) hbytes
  have h63 : n + m ≤ maxLen := by simp only [maxLen]; omega
  have hw : IntKind.i64.wrap (m : Int) = m := by rw [IntKind.wrap_i64]; omega
  have hw0 : IntKind.i64.wrap 0 = 0 := by rw [IntKind.wrap_i64]; rfl
  have hneg : ¬ ((m : Int) < 0) := by omega
  have hmb : m * i.bytes ≤ 140737488355328 := Nat.le_trans (Nat.mul_le_mul_right _ (Nat.le_add_left m n)) hbytes
  have hbig : ¬ (281474976710656 < (m : Int) * (i.bytes : Int)) := by
    rw [← Int.natCast_mul]
    omega
  have hsn : i.size ≠ 0 := by omega
  obtain ⟨news, hnews⟩ : ∃ news, news = (Builtin.zeroCells z.cells m).toList := ⟨_, rfl⟩
  rw [← hnews] at h1 ⊢
  have hl : news.length = m * i.size := by rw [hnews, Array.length_toList, size_zeroCells, hzs]
  have hna : Builtin.zeroCells z.cells m = news.toArray := by rw [hnews]
  have hlen : (xs ++ news).length = (n + m) * i.size := by rw [List.length_append, hown.1, hl, Nat.add_mul]
  have hnil : m = 0 → news = [] := fun h => List.eq_nil_of_length_eq_zero (by rw [hl, h, Nat.zero_mul])
  have grown : ∀ (old : Nat), old < n + m → ∀ (row : Option Nat),
      (w.drew.alloc (.cells (xs.toArray ++ news.toArray ++ Builtin.zeroCells z.cells (grownCap w (n + m) old e - (n + m))) e)).ownsRow base e i.size
        (.slice (some ⟨w.heap.size, 0, none⟩) (n + m) (grownCap w (n + m) old e)) (n + m) (xs ++ news) ∧
      w.grownBy (w.drew.alloc (.cells (xs.toArray ++ news.toArray ++ Builtin.zeroCells z.cells (grownCap w (n + m) old e - (n + m))) e)) row := by
    intro old ho row
    have hge := grownCap_ge w (n + m) old e
    have hcm : grownCap w (n + m) old e ≤ maxLen := grownCap_le_maxLen w (n + m) old e h63
    refine ⟨⟨hlen, .inr ⟨w.heap.size, _, _, rfl, hbase, heap_alloc_new w.drew _, hge, hcm, ?_, ?_⟩⟩, ⟨rfl, rfl, rfl, by simp, fun k hk _ => heap_alloc_old w.drew _ hk⟩⟩
    · simp only [Array.size_append, List.size_toArray, size_zeroCells, hzs, hown.1, hl, ← Nat.add_mul]
      congr 1
      omega
    · simp only [Array.toList_append, List.append_assoc]
      rw [← List.append_assoc, ← hlen]
      exact List.take_left
  have runs : ∀ (A : Option Addr) (cap : Nat), cap < n + m → (Builtin.firstCells i.size n (.slice A n cap)).run P w.drew = .ok xs.toArray w.drew → (Builtin.append_ #[t, ti] ty #[.slice A n cap, .int kx m]).run P w =
      .ok (.slice (some ⟨w.heap.size, 0, none⟩) (n + m) (grownCap w (n + m) cap e)) (w.drew.alloc (.cells (xs.toArray ++ news.toArray ++ Builtin.zeroCells z.cells (grownCap w (n + m) cap e - (n + m))) e)) := by
    intro A cap hcap hfo
    have hn : ¬ (n + m ≤ cap) := by omega
    have h63' : ¬ (9223372036854775807 < ((n : Int) + (m : Int))) := by omega
    have hfit := growslice_fits hcap hbytes
    have h48' : ¬ (281474976710656 < Builtin.nextslicecap (n + m) cap * i.bytes) := by omega
    by_cases hm : m = 0
    · have hnl := hnil hm
      subst hm
      rw [hnl]
      simp only [Nat.add_zero] at hn h63' h48' ⊢
      have h63'' : ¬ (9223372036854775807 < (n : Int)) := by omega
      simp [Builtin.append_, run_underlying ht, run_underlying hti, sizeOf, typeInfo, zeroValue, hi, hz, asInt, asIntOf, hw0, hn, h63'', h48', Question.forced, hfo, newRow, grownCap]
    · have hmz : ¬ (m * i.size = 0) := Nat.mul_ne_zero hm hsn
      simp [Builtin.append_, run_underlying ht, run_underlying hti, sizeOf, typeInfo, zeroValue, hi, hz, asInt, asIntOf, hw, hneg, hbig, hn, h63', h48', Question.forced, hfo, newRow, grownCap, hmz, hna]
      congr 2
      apply Array.ext'
      simp [List.append_assoc]
  rcases hown.2 with ⟨rfl, rfl⟩ | ⟨g, cap, cur, rfl, hbg, hg, hnc, hcm, hcs, htake⟩
  · have hx : xs = [] := List.eq_nil_of_length_eq_zero (by simpa using hown.1)
    subst hx
    by_cases hm : m = 0
    · have hnl := hnil hm
      subst hm
      rw [hnl]
      refine ⟨.slice none 0 0, w, ?_, World.ownsRow_nil w base e i.size, ⟨rfl, rfl, rfl, Nat.le_refl _, fun _ _ _ => rfl⟩, Or.inl rfl⟩
      simp [Builtin.append_, run_underlying ht, run_underlying hti, sizeOf, typeInfo, hi, asInt, asIntOf, hw0]
    · have hgr := grown 0 (by omega) (Value.ownBlock (.slice none 0 0))
      exact ⟨_, _, runs none 0 (by omega) (by simp [Builtin.firstCells]), hgr.1, hgr.2, Or.inr rfl⟩
  · by_cases hroom : n + m ≤ cap
    · have hfit : n * i.size + news.length ≤ cur.size := by rw [hl, hcs, ← Nat.add_mul]; exact Nat.mul_le_mul_right _ hroom
      obtain ⟨cur', h3, h4, h5⟩ := setCells_row news (n * i.size) w cur hg hfit
      obtain ⟨s1, s2, s3, s4⟩ := setCells_same g news (n * i.size) w
      have hst := run_storeCells_cells (P := P) g (n * i.size) news 0 w (fun j hj => by rw [cell_of_row w g _ cur e (0, 0) hg]; simp; omega) (fun j _ => blk_frozen hg _) h1
      simp only [Nat.add_zero] at hst
      refine ⟨.slice (some ⟨g, 0, none⟩) (n + m) cap, w.setCells g (n * i.size) news, ?_, ⟨hlen, .inr ⟨g, cap, cur', rfl, hbg, h3, hroom, hcm, by rw [h4, hcs], ?_⟩⟩, ⟨s1, s2, s3, by rw [s4]; exact Nat.le_refl _, fun k _ hk => setCells_far news _ k (fun e => hk (by simp [Value.ownBlock, e]))⟩, Or.inl rfl⟩
      · by_cases hm : m = 0
        · have hnl := hnil hm
          subst hm
          rw [hnl] at hst ⊢
          simp [Builtin.append_, run_underlying ht, run_underlying hti, sizeOf, typeInfo, hi, asInt, asIntOf, hw0, hnc, add_plain, hst]
        · have hmz : ¬ (m * i.size = 0) := Nat.mul_ne_zero hm hsn
          simp [Builtin.append_, run_underlying ht, run_underlying hti, sizeOf, typeInfo, zeroValue, hi, hz, asInt, asIntOf, hw, hneg, hbig, hroom, hmz, hna, add_plain, hst]
      · rw [h5]
        have h6 : cur.toList.take (n * i.size) = xs := htake
        rw [h6, ← hlen]
        exact List.take_left
    · have holds : ∀ j u, xs[j]? = some u → w.cell? ((⟨g, 0, none⟩ : Addr).add j) = some u := hown.cells (g := g) rfl
      have hgr := grown cap (by omega) (Value.ownBlock (.slice (some ⟨g, 0, none⟩) n cap))
      exact ⟨_, _, runs (some ⟨g, 0, none⟩) cap (by omega) (run_firstCells_some (P := P) w.drew i.size n _ n cap xs hown.1 (by simpa using holds)), hgr.1, hgr.2, Or.inr rfl⟩
end
namespace Kd
/-- What zeros are made of. -/
theorem reps_zeros {α : Type} {R : α → List Value → Prop} {z : Value} {size : Nat} {z0 : α} (hz : z.cells.size = size) (hs : 0 < size) (h0 : R z0 z.cells.toList) (m : Nat) : Reps R size (List.replicate m z0) (Builtin.zeroCells z.cells m).toList := by
  have h := reps_made hz hs h0 m
  rw [show Builtin.zeroCells z.cells m = madeCells z.cells (m * size) by unfold Builtin.zeroCells madeCells; rw [hz]]
  exact h
section
variable {P : Program} {ops : Array Oper} {rest : List Oper} {o : Oper} {a : Act} {Q : Exit → Act → World → Prop} {Kc : Act → World → Prop} {α : Type}
theorem R_zeros_run (d : Kd α) {W : World} (base : Nat) (t ti ty e : TypeId) (z : Value) (bytes : Nat) (ht : P.underlying t = some (.slice e)) {k : IntKind} (hti : P.underlying ti = some (.int k)) (hinfo : (P.info? e).map (fun i => (i.zero, i.size, i.bytes)) = some (some z, d.sz, bytes)) (hz : z.cells.size = d.sz) (hs0 : 0 < d.sz) (hb0 : 0 < bytes)
    (v : Value) (xs : List α) (z0 : α) {ok : Nat → Prop} (hzero : d.M W base (fun _ => False) z0 z.cells.toList) (hfresh : ∀ k, W.heap.size ≤ k → ok k) (HO : d.R e W base ok v xs) (kx : IntKind) (n : Int) (h0 : 0 ≤ n) (hl : (xs.length + n.toNat) * bytes ≤ 140737488355328) (hbase : base ≤ W.heap.size) :
    ∃ v1 w1, (Builtin.append_ #[t, ti] ty #[v, .int kx n]).run P W = .ok v1 w1 ∧ d.R e w1 base ok v1 (xs ++ List.replicate n.toNat z0) ∧ W.grownBy w1 v.ownBlock ∧ (v1.ownBlock = v.ownBlock ∨ ∃ b, v1.ownBlock = some b ∧ W.heap.size ≤ b) := by
  obtain ⟨m, rfl⟩ := Int.eq_ofNat_of_zero_le h0
  simp only [Int.toNat_natCast] at hl ⊢
  obtain ⟨i0, hi, hzz⟩ := Option.map_eq_some_iff.1 hinfo
  simp only [Prod.mk.injEq] at hzz
  obtain ⟨hz0, hz1, hz2⟩ := hzz
  obtain ⟨hok, inner, hown, hr⟩ := HO
  have hnM : Reps (d.M W base (fun _ => False)) d.sz (List.replicate m z0) (Builtin.zeroCells z.cells m).toList := reps_zeros hz hs0 hzero m
  obtain ⟨v1, w1, hrun, h2, hg, hat⟩ := run_append_zeros (P := P) W base t ti ty e i0 z d.sz bytes ht hti hi hz0 hz1 hz2 hz hs0 hb0 v xs.length inner hown kx m (reps_one hnM hs0 (fun _ _ hp => d.K_one (d.K_of_M hp))) hl hbase
  have hat' : v1.ownBlock = v.ownBlock ∨ ∃ b, v1.ownBlock = some b ∧ W.heap.size ≤ b := by
    rcases hat with hat | hat
    · exact .inl hat
    · exact .inr ⟨_, hat, Nat.le_refl _⟩
  have hne : ∀ k, some k ≠ v.ownBlock → k < W.heap.size → some k ≠ v1.ownBlock := by
    intro k hk hlt
    rcases hat' with hat | ⟨b, hb, hle⟩
    · rw [hat]; exact hk
    · rw [hb]
      intro he
      injection he with he
      omega
  have step : ∀ {q : α} {c : List Value} {o : Nat → Prop}, d.M W base o q c → (∀ k, o k → ok k ∧ some k ≠ v.ownBlock) → d.M w1 base (fun k => ok k ∧ some k ≠ v1.ownBlock) q c := by
    intro q c o hq ho
    have h1 := d.M_move (w1 := w1) (fun k hk => hg.block k hk.2.2.1 (ho k hk.1).2) (d.M_bound hq)
    exact d.M_mono (fun k hk => ⟨(ho k hk.1).1, hne k (ho k hk.1).2 hk.2.2.1⟩) h1
  refine ⟨v1, w1, hrun, ⟨fun k hk => ?_, inner ++ (Builtin.zeroCells z.cells m).toList, by rw [List.length_append, List.length_replicate]; exact h2, reps_append (hr.imp_ (fun _ _ hq => step hq (fun _ hk => hk))) (hnM.imp_ (fun _ _ hq => step hq (fun _ hk => hk.elim)))⟩, hg, hat'⟩
  rcases hat' with hat | ⟨b, hb, hle⟩
  · exact hok k (hat ▸ hk)
  · rw [hb] at hk
    injection hk with hk
    exact hfresh k (by omega)
/-- append(v, make([]T, n)...): z0's cells are the type's zero's. -/
theorem R_append_zeros (d : Kd α) {w0 W : World} (base : Nat) (hgd : o.guard = none) (s x : Operand) (t ti e : TypeId) (z : Value) (bytes : Nat)
    (ho : o.op = .call { callee := .builtin .append, args := #[s, x], argTypes := #[t, ti] })
    (ht : P.underlying t = some (.slice e)) {k : IntKind} (hti : P.underlying ti = some (.int k)) (hinfo : (P.info? e).map (fun i => (i.zero, i.size, i.bytes)) = some (some z, d.sz, bytes)) (hz : z.cells.size = d.sz) (hs0 : 0 < d.sz) (hb0 : 0 < bytes)
    (v : Value) (xs : List α) (z0 : α) {kx : IntKind} (n : Int) (ok : Nat → Prop) (hs : a.eval s = v) (hx : a.eval x = .int kx n) (hzero : d.M W base (fun _ => False) z0 z.cells.toList) (hfresh : ∀ k, W.heap.size ≤ k → ok k)
    (HO : d.R e W base ok v xs) (h0 : 0 ≤ n) (HB : Below base w0 W) (hbase : base ≤ W.heap.size) (hl : (xs.length + n.toNat) * bytes ≤ 140737488355328)
    (h : ∀ v1 w1, d.R e w1 base ok v1 (xs ++ List.replicate n.toNat z0) → Below base w0 w1 → W.grownBy w1 v.ownBlock → (v1.ownBlock = v.ownBlock ∨ ∃ b, v1.ownBlock = some b ∧ W.heap.size ≤ b) → wpList P ops Q rest (a.put o.dst v1) w1) :
    wpList P ops Q (o :: rest) a W := by
  obtain ⟨v1, w1, hr1, h1, hg, hat⟩ := R_zeros_run (P := P) d base t ti o.type e z bytes ht hti hinfo hz hs0 hb0 v xs z0 hzero hfresh HO kx n h0 hl hbase
  refine wpList_plain hgd fun K hK => ?_
  unfold Oper.wp execOp
  simp only [ho, resolve, invoke, builtin, Sem.run_bind, Sem.run_pure, Result.andThen_ok, List.map_toArray, List.map_cons, List.map_nil, hs, hx, hr1]
  exact hK _ _ (h v1 w1 h1 (HB.grown hg hbase (R_base HO)) hg hat)
end
/-! #### the same for rows whose elements lie apart -/
section
variable {α : Type} {d : Kd α} {e : Nat} {w : World} {base : Nat} {ok : Nat → Prop} {v : Value} {xs : List α}
end
section
variable {P : Program} {ops : Array Oper} {rest : List Oper} {o : Oper} {a : Act} {Q : Exit → Act → World → Prop} {Kc : Act → World → Prop} {α : Type}
end
end Kd
end Go.Proofs.YtabhngbpkfdeiaaGreatDoorW.PrintWords
end
section
/- Words of the walks of this place: lemmas on rows, regions and rounds, those that the texts beside use. No condition. -/
/-! ### 43. What is read beside a state: it stays read whatever the state's calls turn ('∀ W', KeepBut w W' g none → d.C W' A n xs') -/
namespace Go.Proofs.YtabhngbpkfdeiaaGreatDoorW.PrintWords
open Go.RowKit
namespace Kd
/-- What a kind reads lies in the blocks: nothing else of the world is looked at. -/
structure Heap {α : Type} (d : Kd α) : Prop where
  K : ∀ {w w1 : World} {x : α} {cs : List Value}, (∀ k, k < w.heap.size → w1.heap[k]? = w.heap[k]?) → d.K w x cs → d.K w1 x cs
theorem cell_heap {w w1 : World} (hb : ∀ k, k < w.heap.size → w1.heap[k]? = w.heap[k]?) {a : Addr} {v : Value} (h : w.cell? a = some v) : w1.cell? a = some v := by
  have := hb a.block (World.block_lt_of_cell? w a h)
  simpa [World.cell?, this] using h
theorem Heap.C {α : Type} {d : Kd α} (hd : Heap d) {w w1 : World} {A : Option Addr} {n : Nat} {xs : List α} (hb : ∀ k, k < w.heap.size → w1.heap[k]? = w.heap[k]?) (h : d.C w A n xs) : d.C w1 A n xs :=
  ⟨h.1, h.2.1, fun hn => by
    obtain ⟨ad, e, hc⟩ := h.2.2 hn
    refine ⟨ad, e, fun j p hj => ?_⟩
    obtain ⟨c, hs, hr, hcell⟩ := hc j p hj
    exact ⟨c, hs, hd.K hb hr, fun i u hu => cell_heap hb (hcell i u hu)⟩⟩
section
variable {α : Type} {d : Kd α} {e base g n c : Nat} {ok : Nat → Prop} {w w0 W : World} {A : Option Addr} {xs : List α}
end
end Kd
end Go.Proofs.YtabhngbpkfdeiaaGreatDoorW.PrintWords
end
section
/- Words of the walks of this place: lemmas on rows, regions and rounds, those that the texts beside use. No condition. -/
/-! ### 45. What a call keeps: all but the blocks of S (the rows that it was given to write) and what is new since -/
namespace Go.Proofs.YtabhngbpkfdeiaaGreatDoorW.PrintWords
open Go.RowKit
def Kept (w W : World) (S : Nat → Prop) : Prop := w.heap.size ≤ W.heap.size ∧ ∀ i, i < w.heap.size → ¬ S i → W.heap[i]? = w.heap[i]?
section
variable {w W W2 : World} {S S2 S' : Nat → Prop}
theorem Kept.refl (w : World) (S : Nat → Prop) : Kept w w S := ⟨Nat.le_refl _, fun _ _ _ => rfl⟩
theorem Kept.of_below (h : Below w.heap.size w W) (S : Nat → Prop) : Kept w W S := ⟨h.size, fun i hi _ => h.block i hi⟩
theorem Kept.mono (h : Kept w W S) (hs : ∀ k, S k → S' k) : Kept w W S' := ⟨h.1, fun i hi hn => h.2 i hi (fun hk => hn (hs i hk))⟩
theorem Kept.then_ (h : Kept w W S) (k : Kept W W2 S2) (hs : ∀ k, S2 k → S k ∨ w.heap.size ≤ k) : Kept w W2 S :=
  ⟨Nat.le_trans h.1 k.1, fun i hi hn => (k.2 i (Nat.lt_of_lt_of_le hi h.1) (fun h2 => (hs i h2).elim hn (fun h3 => by omega))).trans (h.2 i hi hn)⟩
theorem Kept.below (h : Kept w W S) (hb : Below W.heap.size W W2) : Kept w W2 S := h.then_ (Kept.of_below hb (fun _ => False)) (fun _ hk => hk.elim)
theorem Kept.alloc (h : Kept w W S) (o : Obj) : Kept w (W.alloc o) S := h.below (below_alloc (Below.refl _ _) o)
theorem Kept.drew (h : Kept w W S) : Kept w W.drew S := h
theorem Kept.drewN (h : Kept w W S) (m : Nat) : Kept w (W.drewN m) S := h
theorem Kept.setCell (h : Kept w W S) {p : Addr} (hp : S p.block ∨ w.heap.size ≤ p.block) (u : Value) : Kept w (W.setCell p u) S :=
  h.then_ (S2 := fun k => k = p.block) ⟨by simp [World.setCell], fun i _ hn => Below.heap_setCell W p u i hn⟩ (fun k hk => by rw [hk]; exact hp)
/-- Beside a state: what was written is new since. -/
theorem Kept.keep {g : Nat} (h : KeepBut w W g none) (k : Kept W W2 S2) (hs : ∀ k, S2 k → w.heap.size ≤ k) : KeepBut w W2 g none :=
  ⟨Nat.le_trans h.1 k.1, fun i hi hg hr => (k.2 i (Nat.lt_of_lt_of_le hi h.1) (fun h2 => by have := hs i h2; omega)).trans (h.2 i hi hg hr)⟩
end
namespace Kd
section
variable {α : Type} {d : Kd α} {e base n c : Nat} {ok oki S S2 : Nat → Prop} {w w0 W W1 W2 : World} {v : Value} {A : Option Addr} {xs : List α} {i : Int} {cs : List Value}
end
end Kd
end Go.Proofs.YtabhngbpkfdeiaaGreatDoorW.PrintWords
end
section
/- Words of the walks of this place: lemmas on rows, regions and rounds, those that the texts beside use. No condition. -/
/-! ### 46. Values that share: what is only read, with the blocks it lies in (its footprint 'ok'): Foot, F (a row that is read), FK (an element's cells) -/
namespace Go.Proofs.YtabhngbpkfdeiaaGreatDoorW.PrintWords
open Go.RowKit
/-- P holds in W and in every world that has W's blocks of ok. -/
def Foot (P : World → Prop) (W : World) (ok : Nat → Prop) : Prop := ∀ W' : World, (∀ k, ok k → k < W.heap.size → W'.heap[k]? = W.heap[k]?) → P W'
theorem heap_lt {W W1 : World} {k : Nat} (h : W1.heap[k]? = W.heap[k]?) (hlt : k < W.heap.size) : k < W1.heap.size := by
  rw [Array.getElem?_eq_getElem hlt] at h
  exact (Array.getElem?_eq_some_iff.1 h).1
namespace Foot
variable {P Q : World → Prop} {W W1 : World} {ok ok' : Nat → Prop}
theorem mono (h : Foot P W ok) (hok : ∀ k, ok k → ok' k) : Foot P W ok' := fun W' hW => h W' (fun k hk hlt => hW k (hok k hk) hlt)
theorem bound (h : Foot P W ok) : Foot P W (fun k => ok k ∧ k < W.heap.size) := fun W' hW => h W' (fun k hk hlt => hW k ⟨hk, hlt⟩ hlt)
theorem step (h : Foot P W ok) (hm : ∀ k, ok k → k < W.heap.size → W1.heap[k]? = W.heap[k]?) : Foot P W1 ok := fun W' hW => h W' (fun k hk hlt => (hW k hk (heap_lt (hm k hk hlt) hlt)).trans (hm k hk hlt))
theorem imp (h : Foot P W ok) (hi : ∀ W', P W' → Q W') : Foot Q W ok := fun W' hW => hi W' (h W' hW)
/-- Moved, and still elder than what is new since W. -/
theorem old (h : Foot P W ok) (hb : Below W.heap.size W W1) : Foot P W1 (fun k => ok k ∧ k < W.heap.size) := (h.bound).step (fun k _ hlt => hb.block k hlt)
end Foot
namespace Kd
/-- A row that is only read: what it leads to lies in ok. -/
def F {α : Type} (d : Kd α) (W : World) (ok : Nat → Prop) (A : Option Addr) (n : Nat) (xs : List α) : Prop := Foot (fun W => d.C W A n xs) W ok
/-- An element's cells: what they lead to lies in ok. -/
def FK {α : Type} (d : Kd α) (W : World) (ok : Nat → Prop) (x : α) (c : List Value) : Prop := Foot (fun W => d.K W x c) W ok
section
variable {α β : Type} {d : Kd α} {e base n n' cc g N : Nat} {ok ok' okp S : Nat → Prop} {w w0 w1 W W1 : World} {A A' : Option Addr} {u v v1 : Value} {xs : List α} {xs' : List β} {d' : Kd β} {x : α} {c : List Value}
end
end Kd
end Go.Proofs.YtabhngbpkfdeiaaGreatDoorW.PrintWords
end
section
/- Words of the walks of this place: lemmas on rows, regions and rounds, those that the texts beside use. No condition. -/
/-! ### 47. N: a row of the call's own whose elements share (what they lead to is only read) -/
namespace Go.Proofs.YtabhngbpkfdeiaaGreatDoorW.PrintWords
open Go.RowKit
namespace Kd
section
variable {α : Type} {d : Kd α} {e base n cc g : Nat} {ok ok' okp S : Nat → Prop} {w w1 W W1 : World} {A : Option Addr} {u v v1 : Value} {xs : List α} {x : α} {c : List Value}
/-- A row of elements (type e) of the call's own; what the elements lead to is only read, and is not this row. -/
def N {α : Type} (d : Kd α) (e : Nat) (w : World) (base : Nat) (ok : Nat → Prop) (v : Value) (xs : List α) : Prop :=
  (∀ k, v.ownBlock = some k → ok k) ∧ ∃ rows : List (List Value), rows.length = xs.length ∧ (raw d.sz).R e w base (fun k => some k = v.ownBlock) v rows ∧ ∀ (j : Nat) (x : α) (c : List Value), xs[j]? = some x → rows[j]? = some c → FK d w (fun k => ok k ∧ some k ≠ v.ownBlock) x c
end
end Kd
end Go.Proofs.YtabhngbpkfdeiaaGreatDoorW.PrintWords
end
section
/- Words of the walks of this place: lemmas on rows, regions and rounds, those that the texts beside use. No condition. -/
/-! ### 48. N's events: append, a whole row appended, zeros appended, literals, make, stores, cuts, an element taken out -/
namespace Go.Proofs.YtabhngbpkfdeiaaGreatDoorW.PrintWords
open Go.RowKit
namespace Kd
section
variable {α : Type} {d : Kd α} {e base n cap g : Nat} {ok ok' okp : Nat → Prop} {w w1 W : World} {v v1 : Value} {xs ys : List α}
end
section
variable {P : Program} {ops : Array Oper} {rest : List Oper} {o : Oper} {a : Act} {Q : Exit → Act → World → Prop} {Kc : Act → World → Prop} {α : Type}
end
end Kd
end Go.Proofs.YtabhngbpkfdeiaaGreatDoorW.PrintWords
end
section
/- Words of the walks of this place: lemmas on rows, regions and rounds, those that the texts beside use. No condition. -/
-- PRINTED WORDS (module Derived/Print/More.lean): go-gate-2's additions: an AI agent of Go's test side, Tue Nov 17 2026; no person has read it. Lean checks it.
namespace Go.Proofs.YtabhngbpkfdeiaaGreatDoorW.PrintMore
open Go.RowKit Go.Proofs.YtabhngbpkfdeiaaGreatDoorW.PrintWords
namespace Kd
open Go.Proofs.YtabhngbpkfdeiaaGreatDoorW.PrintWords.Kd
end Kd

namespace Kd
open Go.Proofs.YtabhngbpkfdeiaaGreatDoorW.PrintWords.Kd
section
variable {α : Type} {d : Kd α} {e base g N : Nat} {ok : Nat → Prop} {W w1 : World} {u v : Value} {xs : List α}
end
end Kd
end Go.Proofs.YtabhngbpkfdeiaaGreatDoorW.PrintMore
namespace Go.Proofs.YtabhngbpkfdeiaaGreatDoorW.PrintWords
open Go.RowKit
section
variable {P : Program} {ops : Array Oper} {rest : List Oper} {o : Oper} {a : Act} {Q : Exit → Act → World → Prop} {W : World}
/-- The operation is a builtin over these places. -/
theorem gate_builtin {b : Builtin} {xs : Array Operand} {ts : Array TypeId} (_ho : o.op = .call { callee := .builtin b, args := xs, argTypes := ts }) (h : wpList P ops Q (o :: rest) a W) : wpList P ops Q (o :: rest) a W := h
end
/-- The greater of two whole numbers, as Go's max tells it. -/
def mx (a b : Int) : Int := if a < b then b else a
namespace Kd
section
variable {α : Type} {d : Kd α} {e base : Nat} {ok : Nat → Prop} {W w1 : World} {v : Value} {xs : List α}
end
section
variable {α : Type} {d : Kd α} {e base g n cap : Nat} {ok oki okp : Nat → Prop} {W : World} {xs : List α} {i : Int} {c : List Value}
end
section
variable {α : Type} {d : Kd α} {e base b b' g N : Nat} {ok ok1 : Nat → Prop} {W W2 w1 : World} {u v : Value} {xs ys : List α} {S : Nat → Prop}
end
end Kd
end Go.Proofs.YtabhngbpkfdeiaaGreatDoorW.PrintWords
namespace Go.Proofs.YtabhngbpkfdeiaaGreatDoorW.PrintWords
open Go.RowKit
namespace Kd
section
variable {α β : Type} {d : Kd α} {e base base' n m c g N' lo hi : Nat} {ok ok' S : Nat → Prop} {w W w1 : World} {A : Option Addr} {ad : Addr} {u v v1 : Value} {xs : List α}
end
end Kd
end Go.Proofs.YtabhngbpkfdeiaaGreatDoorW.PrintWords
end
section
/-
  DERIVED: THE SHELF's CONTRACTS AT THIS DUMP, IN PLAIN WORDS (tools/lay-plain.mjs out of 'TryzShelf.lean', which tools/lay-shelf.mjs wrote): THE SAME DECLARATIONS UNDER THE SAME NAMES: 'import', 'namespace', 'open', 'def', 'theorem' AND NOTHING ELSE: no command of the shelf's: FOR A HAND-IN. Each laying: the table of numbers ('.._ren') and one theorem, a field a fact of the dump's own or the kernel's comparison; each contract: ONE APPLICATION.
-/
namespace Go.Proofs
open Go.Shelf
def Tryz.lays156_ren : Go.Shelf.Ren := ⟨fun | 156 => 146 | 165 => 162 | 166 => 163 | 169 => 164 | 240 => 181 | 241 => 182 | 276 => 193 | 277 => 194 | n => n, fun | 31 => 22 | 9 => 9 | 3 => 3 | 4 => 4 | 0 => 0 | 20 => 20 | 72 => 169 | 76 => 172 | 70 => 166 | 37 => 167 | 75 => 171 | 127 => 188 | 164 => 196 | 5 => 5 | 80 => 174 | n => n, fun | n => n⟩
theorem Tryz.lays156 : Go.Proofs.Lays.n156 Tryz.prog Tryz.lays156_ren := {
  mixed := by kernel_rfl
  f156 := Tryz.func146.trans (congrArg some (by kernel_rfl))
  f165 := Tryz.func162.trans (congrArg some (by kernel_rfl))
  f166 := Tryz.func163.trans (congrArg some (by kernel_rfl))
  f169 := Tryz.func164.trans (congrArg some (by kernel_rfl))
  f240 := Tryz.func181.trans (congrArg some (by kernel_rfl))
  f241 := Tryz.func182.trans (congrArg some (by kernel_rfl))
  f276 := Tryz.func193.trans (congrArg some (by kernel_rfl))
  f277 := Tryz.func194.trans (congrArg some (by kernel_rfl))
  t0 := Tryz.underlying0
  a0 := Tryz.isAgg0
  z0 := Tryz.sizeOf0
  v0 := Tryz.zeroValue0
  t3 := Tryz.underlying3
  a3 := Tryz.isAgg3
  z3 := Tryz.sizeOf3
  v3 := Tryz.zeroValue3
  t4 := Tryz.underlying4
  a4 := Tryz.isAgg4
  z4 := Tryz.sizeOf4
  v4 := Tryz.zeroValue4
  t9 := Tryz.underlying9
  a9 := Tryz.isAgg9
  z9 := Tryz.sizeOf9
  v9 := Tryz.zeroValue9
  t20 := Tryz.underlying20
  a20 := Tryz.isAgg20
  z20 := Tryz.sizeOf20
  v20 := Tryz.zeroValue20
  t31 := Tryz.underlying22
  a31 := Tryz.isAgg22
  z31 := Tryz.sizeOf22
  v31 := Tryz.zeroValue22
  t37 := Tryz.underlying167
  a37 := Tryz.isAgg167
  z37 := Tryz.sizeOf167
  v37 := Tryz.zeroValue167
  t70 := Tryz.underlying166
  a70 := Tryz.isAgg166
  z70 := Tryz.sizeOf166
  v70 := Tryz.zeroValue166
  t72 := Tryz.underlying169
  a72 := Tryz.isAgg169
  z72 := Tryz.sizeOf169
  v72 := Tryz.zeroValue169
  t75 := Tryz.underlying171
  a75 := Tryz.isAgg171
  z75 := Tryz.sizeOf171
  v75 := Tryz.zeroValue171
  t76 := Tryz.underlying172
  a76 := Tryz.isAgg172
  z76 := Tryz.sizeOf172
  v76 := Tryz.zeroValue172
  t127 := Tryz.underlying188
  a127 := Tryz.isAgg188
  z127 := Tryz.sizeOf188
  v127 := Tryz.zeroValue188
  t164 := Tryz.underlying196
  a164 := Tryz.isAgg196
  z164 := Tryz.sizeOf196
  v164 := Tryz.zeroValue196 }
theorem Tryz.Builder_Extra_156 : Builder.Extra Tryz.prog Tryz.lays156_ren := {
  sizeBuilder := by kernel_rfl
  liesBuilder := by kernel_rfl
  t5 := Tryz.underlying5
  a5 := Tryz.isAgg5
  z5 := Tryz.sizeOf5
  v5 := Tryz.zeroValue5
  infoByte := by kernel_rfl
  cellsByte := by kernel_rfl
  sizeByte := by kernel_rfl
  neB5 := by decide }
open Go.RowKit in
/-- No element: the empty string; the world is as it was. (Whatever the slice's address and capacity: a nil slice too.) (LAID: no walk: one application.) -/
theorem Tryz.strings_Join_none (a : Option Addr) (c : Nat) (sep : ByteArray) (w : World) :
    Calls Tryz.prog 146 #[.slice a 0 c, .string sep] w fun e w' => e = .returned (.string ⟨#[]⟩) ∧ w' = w := Any.strings_Join_none Tryz.lays156 Tryz.Builder_Extra_156 a c sep w
open Go.RowKit in
/-- strings.Join: "Join concatenates the elements of its first argument to create a single string. The separator string sep is placed between elements in the resulting string.": HOWEVER MANY ELEMENTS. Below the heap's end the world is as it was. (LAID: no walk: one application.) -/
theorem Tryz.strings_Join (bk o c : Nat) (xs : List ByteArray) (sep : ByteArray) (w : World) (hcells : ∀ (j : Nat) x, xs[j]? = some x → w.cell? ⟨bk, o + j, none⟩ = some (.string x)) (hbk : bk < w.heap.size) (hN : xs.length ≤ 140737488355328) (hcap : xs.length ≤ c) (hlen : (Lib.join (xs.map (·.data.toList)) sep.data.toList).length ≤ 140737488355328) :
    Calls Tryz.prog 146 #[.slice (some ⟨bk, o, none⟩) xs.length c, .string sep] w fun e w' => e = .returned (.string ⟨(Lib.join (xs.map (·.data.toList)) sep.data.toList).toArray⟩) ∧ Below w.heap.size w w' := Any.strings_Join Tryz.lays156 Tryz.Builder_Extra_156 bk o c xs sep w hcells hbk hN hcap hlen
def Tryz.lays190_ren : Go.Shelf.Ren := ⟨fun | 190 => 138 | 125 => 154 | 258 => 153 | 128 => 176 | 129 => 177 | 302 => 167 | 303 => 168 | 304 => 169 | 305 => 170 | 306 => 171 | 307 => 172 | 308 => 173 | 309 => 174 | 310 => 175 | 333 => 184 | 329 => 185 | 330 => 186 | 334 => 187 | 335 => 188 | 336 => 161 | 344 => 195 | n => n, fun | 31 => 22 | 9 => 9 | 3 => 3 | 46 => 143 | 0 => 0 | 51 => 183 | 53 => 185 | 4 => 4 | 183 => 177 | 182 => 176 | 131 => 87 | 5 => 5 | 218 => 190 | 222 => 194 | 228 => 199 | 229 => 200 | n => n, fun | n => n⟩
theorem Tryz.lays190 : Go.Proofs.Lays.n190 Tryz.prog Tryz.lays190_ren := {
  mixed := by kernel_rfl
  f125 := Tryz.func154.trans (congrArg some (by kernel_rfl))
  f128 := Tryz.func176.trans (congrArg some (by kernel_rfl))
  f129 := Tryz.func177.trans (congrArg some (by kernel_rfl))
  f190 := Tryz.func138.trans (congrArg some (by kernel_rfl))
  f258 := Tryz.func153.trans (congrArg some (by kernel_rfl))
  f302 := Tryz.func167.trans (congrArg some (by kernel_rfl))
  f303 := Tryz.func168.trans (congrArg some (by kernel_rfl))
  f304 := Tryz.func169.trans (congrArg some (by kernel_rfl))
  f305 := Tryz.func170.trans (congrArg some (by kernel_rfl))
  f306 := Tryz.func171.trans (congrArg some (by kernel_rfl))
  f307 := Tryz.func172.trans (congrArg some (by kernel_rfl))
  f308 := Tryz.func173.trans (congrArg some (by kernel_rfl))
  f309 := Tryz.func174.trans (congrArg some (by kernel_rfl))
  f310 := Tryz.func175.trans (congrArg some (by kernel_rfl))
  f329 := Tryz.func185.trans (congrArg some (by kernel_rfl))
  f330 := Tryz.func186.trans (congrArg some (by kernel_rfl))
  f333 := Tryz.func184.trans (congrArg some (by kernel_rfl))
  f334 := Tryz.func187.trans (congrArg some (by kernel_rfl))
  f335 := Tryz.func188.trans (congrArg some (by kernel_rfl))
  f336 := Tryz.func161.trans (congrArg some (by kernel_rfl))
  f344 := Tryz.func195.trans (congrArg some (by kernel_rfl))
  t0 := Tryz.underlying0
  a0 := Tryz.isAgg0
  z0 := Tryz.sizeOf0
  v0 := Tryz.zeroValue0
  t3 := Tryz.underlying3
  a3 := Tryz.isAgg3
  z3 := Tryz.sizeOf3
  v3 := Tryz.zeroValue3
  t4 := Tryz.underlying4
  a4 := Tryz.isAgg4
  z4 := Tryz.sizeOf4
  v4 := Tryz.zeroValue4
  t5 := Tryz.underlying5
  a5 := Tryz.isAgg5
  z5 := Tryz.sizeOf5
  v5 := Tryz.zeroValue5
  t9 := Tryz.underlying9
  a9 := Tryz.isAgg9
  z9 := Tryz.sizeOf9
  v9 := Tryz.zeroValue9
  t31 := Tryz.underlying22
  a31 := Tryz.isAgg22
  z31 := Tryz.sizeOf22
  v31 := Tryz.zeroValue22
  t46 := Tryz.underlying143
  a46 := Tryz.isAgg143
  z46 := Tryz.sizeOf143
  v46 := Tryz.zeroValue143
  t51 := Tryz.underlying183
  a51 := Tryz.isAgg183
  z51 := Tryz.sizeOf183
  v51 := Tryz.zeroValue183
  t53 := Tryz.underlying185
  a53 := Tryz.isAgg185
  z53 := Tryz.sizeOf185
  v53 := Tryz.zeroValue185
  t131 := Tryz.underlying87
  a131 := Tryz.isAgg87
  z131 := Tryz.sizeOf87
  v131 := Tryz.zeroValue87
  t182 := Tryz.underlying176
  a182 := Tryz.isAgg176
  z182 := Tryz.sizeOf176
  v182 := Tryz.zeroValue176
  t183 := Tryz.underlying177
  a183 := Tryz.isAgg177
  z183 := Tryz.sizeOf177
  v183 := Tryz.zeroValue177
  t218 := Tryz.underlying190
  a218 := Tryz.isAgg190
  z218 := Tryz.sizeOf190
  v218 := Tryz.zeroValue190
  t222 := Tryz.underlying194
  a222 := Tryz.isAgg194
  z222 := Tryz.sizeOf194
  v222 := Tryz.zeroValue194
  t228 := Tryz.underlying199
  a228 := Tryz.isAgg199
  z228 := Tryz.sizeOf199
  v228 := Tryz.zeroValue199
  t229 := Tryz.underlying200
  a229 := Tryz.isAgg200
  z229 := Tryz.sizeOf200
  v229 := Tryz.zeroValue200 }
open Go.Sort Go.RowKit in
theorem Tryz.slices_Sort_string (blk off cap : Nat) (ss : List (List UInt8)) (w : World) (hH : Holds encStr w blk off ss.toArray) (hblk : blk < w.heap.size) (hsz : ss.length < 4611686018427387904) :
    Calls Tryz.prog 138 #[.slice (some ⟨blk, off, none⟩) ss.length cap] w fun e w' =>
      e = .returned (.tuple #[]) ∧ ∃ n os, w' = grow (putRow encStr (Sort.ahead w n) blk off (ss.mergeSort fun x y => decide (x ≤ y)).toArray) os := Any.slices_Sort_string Tryz.lays190 blk off cap ss w hH hblk hsz
def Tryz.laysGw15_ren : Go.Shelf.Ren := ⟨fun | 15 => 142 | 20 => 158 | n => n, fun | 9 => 9 | 23 => 155 | 3 => 3 | 4 => 4 | 0 => 0 | 21 => 21 | n => n, fun | n => n⟩
theorem Tryz.laysGw15 : Go.Proofs.LaysGw.n15 Tryz.prog Tryz.laysGw15_ren := {
  mixed := by kernel_rfl
  f15 := Tryz.func142.trans (congrArg some (by kernel_rfl))
  f20 := Tryz.func158.trans (congrArg some (by kernel_rfl))
  t0 := Tryz.underlying0
  a0 := Tryz.isAgg0
  z0 := Tryz.sizeOf0
  v0 := Tryz.zeroValue0
  i0 := by kernel_rfl
  t3 := Tryz.underlying3
  a3 := Tryz.isAgg3
  z3 := Tryz.sizeOf3
  v3 := Tryz.zeroValue3
  i3 := by kernel_rfl
  t4 := Tryz.underlying4
  a4 := Tryz.isAgg4
  z4 := Tryz.sizeOf4
  v4 := Tryz.zeroValue4
  i4 := by kernel_rfl
  t9 := Tryz.underlying9
  a9 := Tryz.isAgg9
  z9 := Tryz.sizeOf9
  v9 := Tryz.zeroValue9
  i9 := by kernel_rfl
  t21 := Tryz.underlying21
  a21 := Tryz.isAgg21
  z21 := Tryz.sizeOf21
  v21 := Tryz.zeroValue21
  i21 := by kernel_rfl
  t23 := Tryz.underlying155
  a23 := Tryz.isAgg155
  z23 := Tryz.sizeOf155
  v23 := Tryz.zeroValue155
  i23 := by kernel_rfl }
open Go.RowKit Go.Lib in
theorem Tryz.strings_IndexFunc (g : Nat) (lb : Array Value) (eg : ∀ args w, (callFunc g args).run Tryz.prog w = .ok (.enter g args) w) (p : Nat → Bool) (s : ByteArray) (w : World) (hp : PredAt Tryz.prog g lb encR p w) :
    Calls Tryz.prog 142 #[.string s, .func (.func g) #[] lb] w fun e w' => e = .returned (.int .i64 (Lib.idxFunc p true s)) ∧ Below w.heap.size w w' := Any.strings_IndexFunc Tryz.laysGw15 g lb eg p s w hp
def Tryz.lays146_ren : Go.Shelf.Ren := ⟨fun | 146 => 117 | 221 => 140 | 268 => 155 | 138 => 156 | 143 => 157 | 195 => 178 | 197 => 81 | 218 => 179 | 219 => 180 | 260 => 115 | 217 => 189 | 225 => 190 | 224 => 191 | 267 => 192 | 266 => 196 | 314 => 197 | n => n, fun | 9 => 9 | 31 => 22 | 3 => 3 | 4 => 4 | 0 => 0 | 105 => 110 | 21 => 21 | 5 => 5 | 46 => 143 | 119 => 150 | 139 => 153 | 138 => 152 | 146 => 202 | 51 => 183 | n => n, fun | 1 => 2 | 3 => 0 | 4 => 1 | n => n⟩
theorem Tryz.lays146 : Go.Proofs.Lays.n146 Tryz.prog Tryz.lays146_ren := {
  mixed := by kernel_rfl
  f138 := Tryz.func156.trans (congrArg some (by kernel_rfl))
  f143 := Tryz.func157.trans (congrArg some (by kernel_rfl))
  f146 := Tryz.func117.trans (congrArg some (by kernel_rfl))
  f195 := Tryz.func178.trans (congrArg some (by kernel_rfl))
  f197 := Tryz.func81.trans (congrArg some (by kernel_rfl))
  f217 := Tryz.func189.trans (congrArg some (by kernel_rfl))
  f218 := Tryz.func179.trans (congrArg some (by kernel_rfl))
  f219 := Tryz.func180.trans (congrArg some (by kernel_rfl))
  f221 := Tryz.func140.trans (congrArg some (by kernel_rfl))
  f224 := Tryz.func191.trans (congrArg some (by kernel_rfl))
  f225 := Tryz.func190.trans (congrArg some (by kernel_rfl))
  f260 := Tryz.func115.trans (congrArg some (by kernel_rfl))
  f266 := Tryz.func196.trans (congrArg some (by kernel_rfl))
  f267 := Tryz.func192.trans (congrArg some (by kernel_rfl))
  f268 := Tryz.func155.trans (congrArg some (by kernel_rfl))
  f314 := Tryz.func197.trans (congrArg some (by kernel_rfl))
  t0 := Tryz.underlying0
  a0 := Tryz.isAgg0
  z0 := Tryz.sizeOf0
  v0 := Tryz.zeroValue0
  t3 := Tryz.underlying3
  a3 := Tryz.isAgg3
  z3 := Tryz.sizeOf3
  v3 := Tryz.zeroValue3
  t4 := Tryz.underlying4
  a4 := Tryz.isAgg4
  z4 := Tryz.sizeOf4
  v4 := Tryz.zeroValue4
  t5 := Tryz.underlying5
  a5 := Tryz.isAgg5
  z5 := Tryz.sizeOf5
  v5 := Tryz.zeroValue5
  t9 := Tryz.underlying9
  a9 := Tryz.isAgg9
  z9 := Tryz.sizeOf9
  v9 := Tryz.zeroValue9
  t21 := Tryz.underlying21
  a21 := Tryz.isAgg21
  z21 := Tryz.sizeOf21
  v21 := Tryz.zeroValue21
  t31 := Tryz.underlying22
  a31 := Tryz.isAgg22
  z31 := Tryz.sizeOf22
  v31 := Tryz.zeroValue22
  t46 := Tryz.underlying143
  a46 := Tryz.isAgg143
  z46 := Tryz.sizeOf143
  v46 := Tryz.zeroValue143
  t51 := Tryz.underlying183
  a51 := Tryz.isAgg183
  z51 := Tryz.sizeOf183
  v51 := Tryz.zeroValue183
  t105 := Tryz.underlying110
  a105 := Tryz.isAgg110
  z105 := Tryz.sizeOf110
  v105 := Tryz.zeroValue110
  t119 := Tryz.underlying150
  a119 := Tryz.isAgg150
  z119 := Tryz.sizeOf150
  t138 := Tryz.underlying152
  a138 := Tryz.isAgg152
  z138 := Tryz.sizeOf152
  v138 := Tryz.zeroValue152
  t139 := Tryz.underlying153
  a139 := Tryz.isAgg153
  z139 := Tryz.sizeOf153
  v139 := Tryz.zeroValue153
  t146 := Tryz.underlying202
  a146 := Tryz.isAgg202
  z146 := Tryz.sizeOf202
  v146 := Tryz.zeroValue202
  g1 := by kernel_rfl
  g3 := by kernel_rfl
  g4 := by kernel_rfl }
open Go.RowKit Go.Lib in
/-- strings.Split. (LAID: no walk: one application.) -/
theorem Tryz.strings_Split (s sep : ByteArray) (m : Int) (w : World) (hs : s.size < 4294967281) (hm : w.cell? ⟨2, 0, none⟩ = some (.int .i64 m)) (h1 : 1 ≤ sep.size) :
    Calls Tryz.prog 117 #[.string s, .string sep] w fun e w' =>
      e = .returned (.slice (some ⟨w.heap.size, 0, none⟩) (Lib.countB s sep + 1) (Lib.countB s sep + 1)) ∧ w' = w.alloc (.cells ((Lib.splitB sep 0 (Lib.countB s sep) s).map Value.string).toArray 9) := Any.strings_Split Tryz.lays146 (by kernel_rfl) s sep m w hs hm h1
def Tryz.laysM146_ren : Go.Shelf.Ren := ⟨fun | 146 => 117 | 221 => 140 | 268 => 155 | 138 => 156 | 143 => 157 | 195 => 178 | 197 => 81 | 218 => 179 | 219 => 180 | 260 => 115 | 217 => 189 | 225 => 190 | 224 => 191 | 267 => 192 | 266 => 196 | 314 => 197 | n => n, fun | 9 => 9 | 31 => 22 | 3 => 3 | 4 => 4 | 0 => 0 | 105 => 110 | 21 => 21 | 5 => 5 | 46 => 143 | 119 => 150 | 139 => 153 | 138 => 152 | 146 => 202 | 51 => 183 | n => n, fun | 1 => 2 | 3 => 0 | 4 => 1 | n => n⟩
theorem Tryz.laysM146 : Go.Proofs.LaysM.n146 Tryz.prog Tryz.laysM146_ren := {
  mixed := by kernel_rfl
  f138 := Tryz.func156.trans (congrArg some (by kernel_rfl))
  f143 := Tryz.func157.trans (congrArg some (by kernel_rfl))
  f146 := Tryz.func117.trans (congrArg some (by kernel_rfl))
  f195 := Tryz.func178.trans (congrArg some (by kernel_rfl))
  f197 := Tryz.func81.trans (congrArg some (by kernel_rfl))
  f217 := Tryz.func189.trans (congrArg some (by kernel_rfl))
  f218 := Tryz.func179.trans (congrArg some (by kernel_rfl))
  f219 := Tryz.func180.trans (congrArg some (by kernel_rfl))
  f221 := Tryz.func140.trans (congrArg some (by kernel_rfl))
  f224 := Tryz.func191.trans (congrArg some (by kernel_rfl))
  f225 := Tryz.func190.trans (congrArg some (by kernel_rfl))
  f260 := Tryz.func115.trans (congrArg some (by kernel_rfl))
  f266 := Tryz.func196.trans (congrArg some (by kernel_rfl))
  f267 := Tryz.func192.trans (congrArg some (by kernel_rfl))
  f268 := Tryz.func155.trans (congrArg some (by kernel_rfl))
  f314 := Tryz.func197.trans (congrArg some (by kernel_rfl))
  t0 := Tryz.underlying0
  a0 := Tryz.isAgg0
  z0 := Tryz.sizeOf0
  v0 := Tryz.zeroValue0
  t3 := Tryz.underlying3
  a3 := Tryz.isAgg3
  z3 := Tryz.sizeOf3
  v3 := Tryz.zeroValue3
  t4 := Tryz.underlying4
  a4 := Tryz.isAgg4
  z4 := Tryz.sizeOf4
  v4 := Tryz.zeroValue4
  t5 := Tryz.underlying5
  a5 := Tryz.isAgg5
  z5 := Tryz.sizeOf5
  v5 := Tryz.zeroValue5
  t9 := Tryz.underlying9
  a9 := Tryz.isAgg9
  z9 := Tryz.sizeOf9
  v9 := Tryz.zeroValue9
  t21 := Tryz.underlying21
  a21 := Tryz.isAgg21
  z21 := Tryz.sizeOf21
  v21 := Tryz.zeroValue21
  t31 := Tryz.underlying22
  a31 := Tryz.isAgg22
  z31 := Tryz.sizeOf22
  v31 := Tryz.zeroValue22
  t46 := Tryz.underlying143
  a46 := Tryz.isAgg143
  z46 := Tryz.sizeOf143
  v46 := Tryz.zeroValue143
  t51 := Tryz.underlying183
  a51 := Tryz.isAgg183
  z51 := Tryz.sizeOf183
  v51 := Tryz.zeroValue183
  t105 := Tryz.underlying110
  a105 := Tryz.isAgg110
  z105 := Tryz.sizeOf110
  v105 := Tryz.zeroValue110
  t119 := Tryz.underlying150
  a119 := Tryz.isAgg150
  z119 := Tryz.sizeOf150
  t138 := Tryz.underlying152
  a138 := Tryz.isAgg152
  z138 := Tryz.sizeOf152
  v138 := Tryz.zeroValue152
  t139 := Tryz.underlying153
  a139 := Tryz.isAgg153
  z139 := Tryz.sizeOf153
  v139 := Tryz.zeroValue153
  t146 := Tryz.underlying202
  a146 := Tryz.isAgg202
  z146 := Tryz.sizeOf202
  v146 := Tryz.zeroValue202
  g1 := by kernel_rfl
  g3 := by kernel_rfl
  g4 := by kernel_rfl
  i0 := by kernel_rfl
  i3 := by kernel_rfl
  i4 := by kernel_rfl
  i5 := by kernel_rfl
  i9 := by kernel_rfl
  i21 := by kernel_rfl
  i31 := by kernel_rfl
  i46 := by kernel_rfl
  i51 := by kernel_rfl
  i105 := by kernel_rfl
  i138 := by kernel_rfl
  i139 := by kernel_rfl
  i146 := by kernel_rfl
  m1 := by kernel_rfl
  s1_3 := fun w h => Go.Proofs.cell_of_shapedOpen_int (zero := #[.int .i64 0]) (t := 3) h (of_decide_eq_true (by kernel_rfl)) (by kernel_rfl) rfl (by kernel_rfl) (by kernel_rfl) Tryz.underlying3
  m3 := by kernel_rfl
  m4 := by kernel_rfl }
def Tryz.lays197_ren : Go.Shelf.Ren := ⟨fun | 197 => 81 | 260 => 115 | n => n, fun | 9 => 9 | 21 => 21 | 3 => 3 | 4 => 4 | 5 => 5 | 105 => 110 | 119 => 150 | 0 => 0 | 46 => 143 | 139 => 153 | 138 => 152 | n => n, fun | 3 => 0 | 4 => 1 | n => n⟩
theorem Tryz.lays197 : Go.Proofs.Lays.n197 Tryz.prog Tryz.lays197_ren := {
  mixed := by kernel_rfl
  f197 := Tryz.func81.trans (congrArg some (by kernel_rfl))
  f260 := Tryz.func115.trans (congrArg some (by kernel_rfl))
  t0 := Tryz.underlying0
  a0 := Tryz.isAgg0
  z0 := Tryz.sizeOf0
  v0 := Tryz.zeroValue0
  t3 := Tryz.underlying3
  a3 := Tryz.isAgg3
  z3 := Tryz.sizeOf3
  v3 := Tryz.zeroValue3
  t4 := Tryz.underlying4
  a4 := Tryz.isAgg4
  z4 := Tryz.sizeOf4
  v4 := Tryz.zeroValue4
  t5 := Tryz.underlying5
  a5 := Tryz.isAgg5
  z5 := Tryz.sizeOf5
  v5 := Tryz.zeroValue5
  t9 := Tryz.underlying9
  a9 := Tryz.isAgg9
  z9 := Tryz.sizeOf9
  v9 := Tryz.zeroValue9
  t21 := Tryz.underlying21
  a21 := Tryz.isAgg21
  z21 := Tryz.sizeOf21
  v21 := Tryz.zeroValue21
  t46 := Tryz.underlying143
  a46 := Tryz.isAgg143
  z46 := Tryz.sizeOf143
  v46 := Tryz.zeroValue143
  t105 := Tryz.underlying110
  a105 := Tryz.isAgg110
  z105 := Tryz.sizeOf110
  v105 := Tryz.zeroValue110
  t119 := Tryz.underlying150
  a119 := Tryz.isAgg150
  z119 := Tryz.sizeOf150
  t138 := Tryz.underlying152
  a138 := Tryz.isAgg152
  z138 := Tryz.sizeOf152
  v138 := Tryz.zeroValue152
  t139 := Tryz.underlying153
  a139 := Tryz.isAgg153
  z139 := Tryz.sizeOf153
  v139 := Tryz.zeroValue153
  g3 := by kernel_rfl
  g4 := by kernel_rfl }
def Tryz.lays260_ren : Go.Shelf.Ren := ⟨fun | 260 => 115 | n => n, fun | 9 => 9 | 21 => 21 | 3 => 3 | 4 => 4 | 5 => 5 | 119 => 150 | 0 => 0 | 46 => 143 | 139 => 153 | 138 => 152 | n => n, fun | 3 => 0 | 4 => 1 | n => n⟩
theorem Tryz.lays260 : Go.Proofs.Lays.n260 Tryz.prog Tryz.lays260_ren := {
  mixed := by kernel_rfl
  f260 := Tryz.func115.trans (congrArg some (by kernel_rfl))
  t0 := Tryz.underlying0
  a0 := Tryz.isAgg0
  z0 := Tryz.sizeOf0
  v0 := Tryz.zeroValue0
  t3 := Tryz.underlying3
  a3 := Tryz.isAgg3
  z3 := Tryz.sizeOf3
  v3 := Tryz.zeroValue3
  t4 := Tryz.underlying4
  a4 := Tryz.isAgg4
  z4 := Tryz.sizeOf4
  v4 := Tryz.zeroValue4
  t5 := Tryz.underlying5
  a5 := Tryz.isAgg5
  z5 := Tryz.sizeOf5
  v5 := Tryz.zeroValue5
  t9 := Tryz.underlying9
  a9 := Tryz.isAgg9
  z9 := Tryz.sizeOf9
  v9 := Tryz.zeroValue9
  t21 := Tryz.underlying21
  a21 := Tryz.isAgg21
  z21 := Tryz.sizeOf21
  v21 := Tryz.zeroValue21
  t46 := Tryz.underlying143
  a46 := Tryz.isAgg143
  z46 := Tryz.sizeOf143
  v46 := Tryz.zeroValue143
  t119 := Tryz.underlying150
  a119 := Tryz.isAgg150
  z119 := Tryz.sizeOf150
  t138 := Tryz.underlying152
  a138 := Tryz.isAgg152
  z138 := Tryz.sizeOf152
  v138 := Tryz.zeroValue152
  t139 := Tryz.underlying153
  a139 := Tryz.isAgg153
  z139 := Tryz.sizeOf153
  v139 := Tryz.zeroValue153
  g3 := by kernel_rfl
  g4 := by kernel_rfl }
open Go.RowKit Go.Lib in
/-- **unicode/utf8.DecodeRuneInString AT EVERY STRING.** (LAID: no walk: one application.) -/
theorem Tryz.utf8_DecodeRuneInString (s : ByteArray) (w : World) (hT : Lib.Utf8Tabs 0 1 w) :
    Calls Tryz.prog 81 #[.string s] w fun e w' => e = .returned (.tuple #[.int .i32 (Lib.decodeGo s).1, .int .i64 (Lib.decodeGo s).2]) ∧ Below w.heap.size w w' := Any.utf8_DecodeRuneInString Tryz.lays197 s w hT
def Tryz.laysNm216_ren : Go.Shelf.Ren := ⟨fun | 16 => 54 | n => n, fun | 24 => 22 | 9 => 9 | 4 => 4 | n => n, fun | n => n⟩
theorem Tryz.laysNm216 : Go.Proofs.Lays2.n16 Tryz.prog Tryz.laysNm216_ren := {
  mixed := by kernel_rfl
  f16 := Tryz.func54.trans (congrArg some (by kernel_rfl))
  t4 := Tryz.underlying4
  a4 := Tryz.isAgg4
  z4 := Tryz.sizeOf4
  v4 := Tryz.zeroValue4
  t9 := Tryz.underlying9
  a9 := Tryz.isAgg9
  z9 := Tryz.sizeOf9
  v9 := Tryz.zeroValue9
  t24 := Tryz.underlying22
  a24 := Tryz.isAgg22
  z24 := Tryz.sizeOf22
  v24 := Tryz.zeroValue22
  i9 := by kernel_rfl }
open Go.RowKit Go.Lib in
/-- slices.Clone at []string: "Clone returns a copy of the slice. The elements are copied using assignment, so this is a shallow clone. The result may have additional unused capacity. The result preserves the nilness of s.": OF A SLICE THAT IS NOT nil IT RETURNS A SLICE THAT IS NOT nil, OF THE SAME ELEMENTS, IN MEMORY OF THE CALL's OWN: in the how-to's words (6f): 'w'.ownsRow B e 1 v' n cells': v' begins at the head of a row among the blocks from B on (B: the heap's size at the call), not frozen, whose first cells are the elements · 'Below B w w'': below B all is as it was. The capacity is whatever the run-time gives. 'zs': what the cells behind the slice's address hold; 'zs.take n': its elements. (LAID: no walk: one application.) -/
theorem Tryz.slices_Clone_string (b off n c : Nat) (zs : List ByteArray) (w : World) (hz : n ≤ zs.length) (hbig : n * 16 ≤ 140737488355328) (hc : ∀ j, j < zs.length → w.cell? ⟨b, off + j, none⟩ = some (.string (zs.getD j ByteArray.empty))) :
    Calls Tryz.prog 54 #[.slice (some ⟨b, off, none⟩) n c] w fun e w' => ∃ v', e = .returned v' ∧ w'.ownsRow w.heap.size 9 1 v' n ((zs.take n).map (Value.string)) ∧ v' ≠ .slice none 0 0 ∧ Below w.heap.size w w' := Any.slices_Clone_string Tryz.laysNm216 b off n c zs w hz hbig hc
open Go.RowKit Go.Lib in
/-- The same at nil: nil comes back; the world is as it was. (LAID: no walk: one application.) -/
theorem Tryz.slices_Clone_string_nil (n c : Nat) (w : World) :
    Calls Tryz.prog 54 #[.slice none n c] w fun e w' => e = .returned (.slice none 0 0) ∧ w' = w := Any.slices_Clone_string_nil Tryz.laysNm216 n c w
open Go.RowKit Go.Lib in
/-- The same at a slice of length 0 that is not nil, WHATEVER ITS ADDRESS (no cell is asked for): a slice that is not nil and owns nothing comes back. (LAID: no walk: one application.) -/
theorem Tryz.slices_Clone_string_zero (a : Addr) (c : Nat) (w : World) :
    Calls Tryz.prog 54 #[.slice (some a) 0 c] w fun e w' => ∃ v', e = .returned v' ∧ w'.ownsRow w.heap.size 9 1 v' 0 [] ∧ v' ≠ .slice none 0 0 ∧ Below w.heap.size w w' := Any.slices_Clone_string_zero Tryz.laysNm216 a c w
def Tryz.lays194_ren : Go.Shelf.Ren := ⟨fun | 194 => 139 | n => n, fun | 31 => 22 | 9 => 9 | 3 => 3 | 4 => 4 | 0 => 0 | n => n, fun | n => n⟩
theorem Tryz.lays194 : Go.Proofs.Lays.n194 Tryz.prog Tryz.lays194_ren := {
  mixed := by kernel_rfl
  f194 := Tryz.func139.trans (congrArg some (by kernel_rfl))
  t0 := Tryz.underlying0
  a0 := Tryz.isAgg0
  z0 := Tryz.sizeOf0
  v0 := Tryz.zeroValue0
  t3 := Tryz.underlying3
  a3 := Tryz.isAgg3
  z3 := Tryz.sizeOf3
  v3 := Tryz.zeroValue3
  t4 := Tryz.underlying4
  a4 := Tryz.isAgg4
  z4 := Tryz.sizeOf4
  v4 := Tryz.zeroValue4
  t9 := Tryz.underlying9
  a9 := Tryz.isAgg9
  z9 := Tryz.sizeOf9
  v9 := Tryz.zeroValue9
  t31 := Tryz.underlying22
  a31 := Tryz.isAgg22
  z31 := Tryz.sizeOf22
  v31 := Tryz.zeroValue22 }
open Go.RowKit Go.Lib Go.Sort in
/-- slices.Compact at []string: "Compact replaces consecutive runs of equal elements with a single copy. This is like the uniq command found on Unix. Compact modifies the contents of the slice s and returns the modified slice, which may have a smaller length. Compact zeroes the elements between the new length and the original length. The result preserves the nilness of s.": IT RETURNS THE SLICE CUT TO 'Lib.compact zs'; ITS CELLS HOLD 'Lib.compact zs', THEN ZERO VALUES up to the old length; all else is as it was, but for the count of draws. IN THE WORDS OF slices.Sort's CONTRACT ('Holds', 'putRow'): so the everyday 'slices.Sort(xs); xs = slices.Compact(xs)' goes from the one contract to the other. It asks 'zs.length ≤ cap' (every slice's: the reslicing 's[:k]' looks at it). Length 0, nil: '.._empty'. (LAID: no walk: one application.) -/
theorem Tryz.slices_Compact_string (blk off cap : Nat) (zs : List (List UInt8)) (w : World) (hH : Holds encStr w blk off zs.toArray) (hsz : zs.length ≤ 9223372036854775807) (hcap : zs.length ≤ cap) :
    Calls Tryz.prog 139 #[.slice (some ⟨blk, off, none⟩) zs.length cap] w fun e w' => e = .returned (.slice (some ⟨blk, off, none⟩) (Lib.compact zs).length cap) ∧ ∃ q, w' = putRow encStr (Sort.ahead w q) blk off (Lib.compact zs ++ List.replicate (zs.length - (Lib.compact zs).length) []).toArray := Any.slices_Compact_string Tryz.lays194 blk off cap zs w hH hsz hcap
open Go.RowKit Go.Lib Go.Sort in
/-- The same at a slice of length 0, a nil one too: it comes back as it is. (LAID: no walk: one application.) -/
theorem Tryz.slices_Compact_string_empty (a : Option Addr) (cap : Nat) (w : World) :
    Calls Tryz.prog 139 #[.slice a 0 cap] w fun e w' => e = .returned (.slice a 0 cap) ∧ w' = w := Any.slices_Compact_string_empty Tryz.lays194 a cap w
open Go.RowKit Go.Sort in
/-- .. and plain. (LAID: no walk: one application.) -/
theorem Tryz.slices_Sort_string_none (p : Option Addr) (cap : Nat) (w : World) :
    Calls Tryz.prog 138 #[.slice p 0 cap] w fun e w' => e = .returned (.tuple #[]) ∧ w' = w := Any.slices_Sort_string_none Tryz.lays190 p cap w
def Tryz.lays196_ren : Go.Shelf.Ren := ⟨fun | 196 => 143 | 259 => 159 | n => n, fun | 9 => 9 | 4 => 4 | 3 => 3 | 5 => 5 | 12 => 12 | 119 => 150 | 0 => 0 | 46 => 143 | 139 => 153 | 138 => 152 | 53 => 185 | n => n, fun | 3 => 0 | 4 => 1 | n => n⟩
theorem Tryz.lays196 : Go.Proofs.Lays.n196 Tryz.prog Tryz.lays196_ren := {
  mixed := by kernel_rfl
  f196 := Tryz.func143.trans (congrArg some (by kernel_rfl))
  f259 := Tryz.func159.trans (congrArg some (by kernel_rfl))
  t0 := Tryz.underlying0
  a0 := Tryz.isAgg0
  z0 := Tryz.sizeOf0
  v0 := Tryz.zeroValue0
  t3 := Tryz.underlying3
  a3 := Tryz.isAgg3
  z3 := Tryz.sizeOf3
  v3 := Tryz.zeroValue3
  t4 := Tryz.underlying4
  a4 := Tryz.isAgg4
  z4 := Tryz.sizeOf4
  v4 := Tryz.zeroValue4
  t5 := Tryz.underlying5
  a5 := Tryz.isAgg5
  z5 := Tryz.sizeOf5
  v5 := Tryz.zeroValue5
  t9 := Tryz.underlying9
  a9 := Tryz.isAgg9
  z9 := Tryz.sizeOf9
  v9 := Tryz.zeroValue9
  t12 := Tryz.underlying12
  a12 := Tryz.isAgg12
  z12 := Tryz.sizeOf12
  v12 := Tryz.zeroValue12
  t46 := Tryz.underlying143
  a46 := Tryz.isAgg143
  z46 := Tryz.sizeOf143
  v46 := Tryz.zeroValue143
  t53 := Tryz.underlying185
  a53 := Tryz.isAgg185
  z53 := Tryz.sizeOf185
  v53 := Tryz.zeroValue185
  t119 := Tryz.underlying150
  a119 := Tryz.isAgg150
  z119 := Tryz.sizeOf150
  t138 := Tryz.underlying152
  a138 := Tryz.isAgg152
  z138 := Tryz.sizeOf152
  v138 := Tryz.zeroValue152
  t139 := Tryz.underlying153
  a139 := Tryz.isAgg153
  z139 := Tryz.sizeOf153
  v139 := Tryz.zeroValue153
  g3 := by kernel_rfl
  g4 := by kernel_rfl }
open Go.RowKit Go.Lib in
theorem Tryz.utf8_ValidString (s : ByteArray) (w : World) (hs : s.size ≤ 9223372036854775807) (hT : Lib.Utf8Tabs 0 1 w) :
    Calls Tryz.prog 143 #[.string s] w fun e w' => e = .returned (.bool (Lib.validD s.data.toList)) ∧ Below w.heap.size w w' := Any.utf8_ValidString Tryz.lays196 s w hs hT
end Go.Proofs
end
section
/- What the program's calls need of the package variables that Go's library reads: the tables of unicode/utf8 as their text lays them, and a whole number in internal/bytealg.MaxLen; it stays where nothing elder is written. No condition. -/
namespace Go.Proofs.YtabhngbpkfdeiaaGreatDoor.EGlob
open Go.Lib Go.RowKit
def G (w : World) : Prop := Lib.Utf8Tabs 0 1 w ∧ ∃ m, w.cell? ⟨2, 0, none⟩ = some (.int .i64 m)
theorem G_below {w w' : World} (h : G w) (hb : Below w.heap.size w w') : G w' :=
  ⟨Utf8Tabs_below h.1 hb, by
    obtain ⟨m, hm⟩ := h.2
    exact ⟨m, (hb.cell (World.block_lt_of_cell? w _ hm)).trans hm⟩⟩
end Go.Proofs.YtabhngbpkfdeiaaGreatDoor.EGlob
end
section
/- Proved: what name.Right, lines.Right, strings.Split and slices.Clone answer, for texts and lists of any make. Conditions: strings.Split: a text shorter than 4294967281 bytes, a separator of a byte or more; slices.Clone: cells of at most 2^47 bytes; the package variables of EGlob. -/
namespace Go.Proofs.YtabhngbpkfdeiaaGreatDoor.EText
open Go.Shelf Go.RowKit Go.Lib Go.Proofs.YtabhngbpkfdeiaaGreatDoorW.PrintWords
set_option linter.unusedSimpArgs false

/-- May a rune stand in a name? -/
def okRune (r : Nat) : Bool := decide (97 ≤ r) && decide (r ≤ 122) || decide (48 ≤ r) && decide (r ≤ 57) || r == 46 || r == 95 || r == 45

theorem right1_pred (w : World) : PredAt Tryz.prog 141 #[] encR (fun r => !okRune r) w := by
  intro W r _
  unfold FnGives encR
  go_enter Tryz.func141, Tryz.ntmps141
  go_wp2
  all_goals
    go_ret
    refine ⟨?_, 0, rfl⟩
    refine congrArg (fun b => Ending.returned (Value.bool b)) ?_
    unfold okRune
    rw [Bool.eq_iff_iff]
    simp
    omega

def rightB (s : ByteArray) : Bool := !(s.toList == []) && decide (s.size ≤ 40) && !(s.toList == [46]) && !(s.toList == [46, 46]) && decide (Lib.idxFunc (fun r => !okRune r) true s < 0)

theorem name_Right_calls (s : ByteArray) (w : World) (hs : s.size ≤ 9223372036854775807) :
    Calls Tryz.prog 119 #[.string s] w fun e w' => e = .returned (.bool (rightB s)) ∧ Below w.heap.size w w' := by
  have e68 := enters_of Tryz.func141 (by kernel_rfl) rfl
  have hI := fun W => Tryz.strings_IndexFunc 141 #[] e68 _ s W (right1_pred W)
  generalize hx : Lib.idxFunc (fun r => !okRune r) true s = x at hI
  have Hx := Lib.hid hx
  clear hx
  by_cases h1 : s.toList = []
  · go_enter Tryz.func119, Tryz.ntmps119
    go_wp2
    go_ret
    exact ⟨by simp [rightB, h1], Below.refl _ _⟩
  by_cases h2 : s.size ≤ 40
  · by_cases h3 : s.toList = [46]
    · go_enter Tryz.func119, Tryz.ntmps119
      go_wp2
      go_ret
      exact ⟨by simp [rightB, h3], Below.refl _ _⟩
    by_cases h4 : s.toList = [46, 46]
    · go_enter Tryz.func119, Tryz.ntmps119
      go_wp2
      go_ret
      exact ⟨by simp [rightB, h4], Below.refl _ _⟩
    go_enter Tryz.func119, Tryz.ntmps119
    go_wp2_with (go_at_call 142; refine (hI _).mono ?_; rintro e w' ⟨rfl, hb⟩)
    go_ret
    exact ⟨by simp [rightB, h1, h2, h3, h4, Hx.out], hb⟩
  · go_enter Tryz.func119, Tryz.ntmps119
    go_wp2
    go_ret
    exact ⟨by simp [rightB, h2], Below.refl _ _⟩

/-! ### lines.Right -/
/-- The runes of a text from a place on: none is a sign that no line bears. -/
def okFrom (s : ByteArray) : Nat → Nat → Bool
  | 0, _ => true
  | f + 1, pos => if pos < s.size then (if (Utf8.decode s pos).1 < 32 ∧ (Utf8.decode s pos).1 ≠ 9 then false else okFrom s f (pos + (Utf8.decode s pos).2)) else true
theorem okFrom_end (s : ByteArray) (f pos : Nat) (h : ¬ pos < s.size) : okFrom s f pos = true := by cases f <;> simp [okFrom, h]
def lineB (s : ByteArray) : Bool := decide (s.size ≤ 200) && Lib.validD s.data.toList && okFrom s s.size 0
set_option maxHeartbeats 4000000 in
set_option maxRecDepth 100000 in
theorem lines_Right_calls (s : ByteArray) (w : World) (hs : s.size ≤ 9223372036854775807) (hG : EGlob.G w) :
    Calls Tryz.prog 121 #[.string s] w fun e w' => e = .returned (.bool (lineB s)) ∧ Below w.heap.size w w' := by
  have hV := Tryz.utf8_ValidString s w hs hG.1
  clear hG
  by_cases h1 : s.size ≤ 200
  · cases hv : Lib.validD s.data.toList with
    | false =>
      rw [hv] at hV
      go_enter Tryz.func121, Tryz.ntmps121
      go_wp2_with (go_at_call 143; refine hV.mono ?_; rintro e w1 ⟨rfl, hb⟩)
      go_ret
      exact ⟨by simp [lineB, hv], hb⟩
    | true =>
      rw [hv] at hV
      have Hv := Lib.hid hv
      clear hv
      go_enter Tryz.func121, Tryz.ntmps121
      go_wp2_with (go_at_call 143; refine hV.mono ?_; rintro e w1 ⟨rfl, hb⟩; have HB1 := Lib.hid hb; clear hb hV)
      go_loopg [] s.size (fun gf wx => ∃ pos : Nat, wx.heap[w1.heap.size]? = some (.stringIter s pos) ∧ Below w1.heap.size w1 wx ∧ okFrom s gf pos = okFrom s s.size 0 ∧ s.size ≤ pos + gf)
      case atStart => exact ⟨0, World.iter_heap w1 s 0, (Below.refl _ w1).alloc (Nat.le_refl _) _, rfl, by omega⟩
      case round =>
        obtain ⟨pos, hit, hbw, hleft, hfu⟩ := hrel
        by_cases hps : pos < s.size
        · obtain ⟨g', rfl⟩ : ∃ g', gk = g' + 1 := ⟨gk - 1, by omega⟩
          have hnx : ∀ ty, (Instr.next (.pointer (some ⟨w1.heap.size, 0, none⟩)) true ty).run Tryz.prog wr = _ := fun ty => Lib.run_next_any_at wr w1.heap.size s pos ty hit hps
          have hwd := Lib.width_pos s pos
          obtain ⟨R, hR⟩ : ∃ R, (Utf8.decode s pos).1 = R := ⟨_, rfl⟩
          obtain ⟨K, hK⟩ : ∃ K, (Utf8.decode s pos).2 = K := ⟨_, rfl⟩
          simp only [okFrom, hps, if_true, hR, hK] at hleft
          rw [hR, hK] at hnx
          rw [hK] at hwd
          have hit2 := Lib.iterAt_heap wr w1.heap.size s pos (pos + K) hit
          have hbw2 := Lib.below_iterAt hbw (k := w1.heap.size) (Nat.le_refl _) s (pos + K)
          obtain ⟨W, hWd⟩ : ∃ W, wr.iterAt w1.heap.size s (pos + K) = W := ⟨_, rfl⟩
          rw [hWd] at hnx hit2 hbw2
          by_cases c1 : (R : Int) < 32
          · by_cases c2 : R = 9
            · have c2z : (R : Int) = 9 := by omega
              rw [if_neg (fun z => z.2 c2)] at hleft
              go_wp2
              go_roundg g'
              case measure => omega
              case rel => exact ⟨pos + K, hit2, hbw2, hleft, by omega⟩
            · have c2z : ¬ (R : Int) = 9 := by omega
              rw [if_pos ⟨by omega, c2⟩] at hleft
              have HL := Lib.hid hleft
              clear hleft
              go_wp2
              go_ret
              exact ⟨by simp [lineB, ← HL.out], HB1.out.trans (hbw2.mono HB1.out.size)⟩
          · rw [if_neg (fun z => c1 (by omega))] at hleft
            go_wp2
            go_roundg g'
            case measure => omega
            case rel => exact ⟨pos + K, hit2, hbw2, hleft, by omega⟩
        · have hnx : ∀ ty, (Instr.next (.pointer (some ⟨w1.heap.size, 0, none⟩)) true ty).run Tryz.prog wr = _ := fun ty => Lib.run_next_end_at wr w1.heap.size s pos ty hit hps
          rw [okFrom_end s gk pos hps] at hleft
          have HL := Lib.hid hleft
          clear hleft
          go_wp2
          go_ret
          exact ⟨by simp [lineB, h1, Hv.out, ← HL.out], HB1.out.trans (hbw.mono HB1.out.size)⟩
  · go_enter Tryz.func121, Tryz.ntmps121
    go_wp2
    go_ret
    exact ⟨by simp [lineB, h1], Below.refl _ _⟩

/-! ### strings.Split -/
theorem infoStr : (Tryz.prog.info? 9).map (fun i => (i.zero, i.size, i.bytes)) = some (some (.string ⟨#[]⟩), 1, 16) := by kernel_rfl
def splitL (s sep : ByteArray) : List ByteArray := Lib.splitB sep 0 (Lib.countB s sep) s
/-! ### slices.Clone -/
theorem clone_calls (A0 : Option Addr) (c0 : Nat) (l0 : List ByteArray) (w : World) (hr0 : Kd.C Kd.string w A0 l0.length l0) (hl : l0.length * 16 ≤ 140737488355328) :
    Calls Tryz.prog 54 #[.slice A0 l0.length c0] w fun e w' => ∃ v0_ : Value, e = .returned v0_ ∧ Kd.R Kd.string 9 w' w.heap.size (fun _ => True) v0_ l0 ∧ Below w.heap.size w w' := by
  have q22 : ∀ (w : World) (a : Option Addr) (n c n' c' : Nat), (binOp .eql 22 (.slice a n c) (.slice none n' c')).run Tryz.prog w = .ok (.bool a.isNone) w := fun w a n c n' c' => Lib.run_eql_slice_nil w _ _ a n c n' c' Tryz.underlying22
  rcases A0 with _ | ad
  · have h0 : l0 = [] := by
      rcases l0 with _ | ⟨x, l⟩
      · rfl
      · obtain ⟨ad, h, _⟩ := hr0.2.2 (by simp)
        cases h
    subst h0
    clear hr0
    go_enter Tryz.func54, Tryz.ntmps54
    go_wp2
    go_ret
    exact ⟨_, rfl, Kd.R_nil _ _ _ _ _, Below.refl _ _⟩
  · have HR0 := Aside0.mk hr0
    clear hr0
    go_enter Tryz.func54, Tryz.ntmps54
    go_wp2_with (first | ((with_reducible refine gate_dst (N := 5) rfl ?_); refine Kd.R_lit Kd.string w.heap.size 9 ?hg (N := 5) ?hd (xs := ([] : List ByteArray)) (inner := []) (ok := fun _ => True) (okp := fun _ => True) ?hr ?hp (fun _ hk => hk) trivial (Below.refl _ _) (Nat.le_refl _) (by simp) ?_; (case hd => rfl); (case hg => rfl); (case hr => first | (go_simp; done) | (go_simp; rfl)); (case hp => exact (Reps.none _ _)); intro v2 w2 ho hb hg_ hnew_; clear hg_ hnew_; have HO := Aside0.mk ho; have HB := Aside0.mk hb; clear ho hb) | ((with_reducible refine gate_builtin (b := .append) (xs := #[.tmp 5, .tmp 6]) rfl ?_); at_builtin; refine Kd.R_append_rows Kd.string (w0 := w) w.heap.size rfl (.tmp 5) (.tmp 6) 22 9 (.string ⟨#[]⟩) 16 rfl Tryz.underlying22 infoStr rfl (by decide) (by omega) v2 [] l0 _ _ _ (fun _ => True) (fun _ => False) rfl rfl HO.out (Kd.C_below HR0.out HB.out) (fun _ _ h => h) (fun _ h => h.elim) (fun _ _ => trivial) HB.out HB.out.size (by simpa using hl) ?_; intro v3 w3 ho3 hb3 hg3 hat3; have HO3 := Aside0.mk ho3; have HB3 := Aside0.mk hb3; clear ho3 hb3 hg3 hat3))
    go_ret
    exact ⟨_, rfl, HO3.out, HB3.out⟩
end Go.Proofs.YtabhngbpkfdeiaaGreatDoor.EText
end
section
/- Lemmas on rows of one-cell elements that the library's sort and its kin write in place. No condition. -/
namespace Go.Proofs.YtabhngbpkfdeiaaGreatDoor.EGen
open Go.Sort Go.Proofs.YtabhngbpkfdeiaaGreatDoorW.PrintWords
variable {α : Type} [Inhabited α] {enc : α → Value}

theorem putRow_heap (w : World) (g off : Nat) (d : Array α) (k : Nat) : (putRow enc w g off d).heap[k]? = if g = k then (w.heap[k]?).map (onCells (putCells enc off d)) else w.heap[k]? := by
  simp [putRow, mapBlock, Array.getElem?_modify]
theorem putRow_grown (w : World) (g off : Nat) (d : Array α) : w.grownBy (putRow enc w g off d) (some g) where
  os := rfl
  tape := rfl
  output := rfl
  size := by simp
  block := fun k _ hk => by rw [putRow_heap, if_neg]; rintro rfl; exact hk rfl
theorem own_holds {w : World} {base g n cap : Nat} {e : TypeId} {d : List α} (h : w.ownsRow base e 1 (.slice (some ⟨g, 0, none⟩) n cap) n (d.map enc)) : Holds enc w g 0 d.toArray := by
  have hl : d.length = n := by have := h.1; simpa using this
  rcases h.2 with ⟨h', _⟩ | ⟨g', cap', cur, h', hb, hh, hn, hc, hs, ht⟩
  · cases h'
  · have : g = g' := by injection h' with h'; injection h' with h'; injection h' with h'
    subst this
    intro j hj
    have hj' : j < d.length := by simpa using hj
    refine ⟨?_, by simp [World.frozen?, hh]⟩
    have h1 : (cur.toList.take (n * 1))[j]? = some (enc d[j]) := by rw [ht]; simp [hj']
    rw [List.getElem?_take, if_pos (by omega)] at h1
    rw [Nat.zero_add, cell_of_row w g j cur e (0, 0) hh]
    rw [← Array.getElem?_toList, h1]
    simp [hj']
/-- The row, its cells written anew, and cut: owned. -/
theorem own_putRow {w : World} {base g c m : Nat} {e : TypeId} {cur : Array Value} (hh : w.heap[g]? = some (.cells cur e (0, 0))) (hb : base ≤ g) (hc : c ≤ maxLen) (hs : cur.size = c) (d : List α) (hd : d.length ≤ c) (hm : m ≤ d.length) :
    (putRow enc w g 0 d.toArray).ownsRow base e 1 (.slice (some ⟨g, 0, none⟩) m c) m ((d.take m).map enc) := by
  refine ⟨by simp; omega, .inr ⟨g, c, putCells enc 0 d.toArray cur, rfl, hb, by rw [putRow_heap, if_pos rfl, hh]; rfl, by omega, hc, by simp [putCells, hs], ?_⟩⟩
  apply List.ext_getElem?
  intro i
  rw [List.getElem?_take]
  by_cases hi : i < m
  · rw [if_pos (by omega), Array.getElem?_toList, putCells, Array.getElem?_mapIdx, List.getElem?_map, List.getElem?_take, if_pos hi, Array.getElem?_eq_getElem (by omega), List.getElem?_eq_getElem (by omega)]
    have h1 : 0 ≤ i ∧ i < 0 + d.length := by omega
    have h2 : i < d.length := by omega
    simp [h1, h2]
  · rw [if_neg (by omega), List.getElem?_eq_none (by simp; omega)]
theorem grow_grown (w : World) (os : Array Obj) (row : Option Nat) : w.grownBy (grow w os) row where
  os := rfl
  tape := rfl
  output := rfl
  size := by simp
  block := fun k hk _ => heap_grow_old w os hk
end Go.Proofs.YtabhngbpkfdeiaaGreatDoor.EGen
end
section
/- Proved: name.Set hands back the list's texts in their order, each once. Condition: at most 2^47 bytes of cells. -/
namespace Go.Proofs.YtabhngbpkfdeiaaGreatDoor.ESet
open Go.Shelf Go.RowKit Go.Lib Go.Proofs.YtabhngbpkfdeiaaGreatDoorW.PrintWords Go.Proofs.YtabhngbpkfdeiaaGreatDoor.EGen
open Go.Proofs.YtabhngbpkfdeiaaGreatDoor.EText (clone_calls)
set_option linter.unusedSimpArgs false

def bs (x : ByteArray) : List UInt8 := x.data.toList
def unbs (l : List UInt8) : ByteArray := ⟨l.toArray⟩
theorem unbs_bs (x : ByteArray) : unbs (bs x) = x := by simp [unbs, bs]
theorem enc_bs (l : List ByteArray) : (l.map bs).map encStr = l.map Value.string := by
  rw [List.map_map]
  apply List.map_congr_left
  intro x _
  show Value.string (unbs (bs x)) = _
  rw [unbs_bs]
theorem enc_unbs (l : List (List UInt8)) : l.map encStr = (l.map unbs).map Value.string := by
  rw [List.map_map]
  rfl
def sortB (l : List (List UInt8)) : List (List UInt8) := l.mergeSort fun x y => decide (x ≤ y)
def setB (l : List ByteArray) : List (List UInt8) := Lib.compact (sortB (l.map bs))
def setL (l : List ByteArray) : List ByteArray := (setB l).map unbs

theorem setL_nil : setL [] = [] := by simp [setL, setB, sortB, Lib.compact, Lib.compactUpTo]

theorem set_calls (A0 : Option Addr) (c0 : Nat) (l0 : List ByteArray) (w : World) (hr0 : Kd.C Kd.string w A0 l0.length l0) (hl : l0.length * 16 ≤ 140737488355328) :
    Calls Tryz.prog 114 #[.slice A0 l0.length c0] w fun e w' => ∃ v0_ : Value, e = .returned v0_ ∧ Kd.R Kd.string 9 w' w.heap.size (fun _ => True) v0_ (setL l0) ∧ Below w.heap.size w w' := by
  go_enter Tryz.func114, Tryz.ntmps114
  go_wp2_with fail
  refine (clone_calls _ _ _ _ hr0 hl).mono ?_
  rintro e w1 ⟨v, rfl, HR, HB⟩
  have ho := Kd.own_of_R HR
  rcases ho.2 with ⟨rfl, hn⟩ | ⟨g, cap, cur, rfl, hb, hh, hn, hc, hs, ht⟩
  · have h0 : l0 = [] := List.eq_nil_of_length_eq_zero hn
    subst h0
    have HB' := Lib.hid HB
    clear HB HR ho hn hr0 hl
    go_wp2_with fail
    refine (Tryz.slices_Sort_string_none _ _ _).mono ?_
    rintro e w' ⟨rfl, rfl⟩
    go_wp2_with (go_at_call 139; refine (Tryz.slices_Compact_string_empty _ _ _).mono ?_; rintro e w' ⟨rfl, rfl⟩)
    go_ret
    exact ⟨_, rfl, by rw [setL_nil]; exact Kd.R_nil _ _ _ _ _, HB'.out⟩
  · have hs : cur.size = cap := by simpa using hs
    have hH : Sort.Holds encStr w1 g 0 (l0.map bs).toArray := own_holds (base := w.heap.size) (e := 9) (n := l0.length) (cap := cap) (by rw [enc_bs]; exact ho)
    have hg : g < w1.heap.size := (Array.getElem?_eq_some_iff.1 hh).1
    have hS := Tryz.slices_Sort_string g 0 cap (l0.map bs) w1 hH hg (by rw [List.length_map]; omega)
    rw [List.length_map] at hS
    have hlen : (sortB (l0.map bs)).length = l0.length := by simp [sortB]
    have HS := Lib.hid hS
    have HH := Lib.hid hH
    have HG := Lib.hid hg
    have HLEN := Lib.hid hlen
    have HB' := Lib.hid HB
    have HX := Lib.hid (And.intro hh (And.intro hb (And.intro hc (And.intro hs hn))))
    clear HB HR ho hr0 hl hS hH hg hlen hh hb hc hs hn ht
    go_wp2_with fail
    refine HS.out.mono ?_
    rintro e w2 ⟨rfl, n, os, hw2⟩
    have hH2 : Sort.Holds encStr w2 g 0 (sortB (l0.map bs)).toArray := by
      rw [hw2]
      exact Sort.holds_grow _ _ _ _ _ _ (by simpa using HG.out) (Sort.holds_putRow _ _ _ _ _ _ (Sort.holds_ahead _ _ _ _ _ _ HH.out) (by simp [HLEN.out]))
    have hC := Tryz.slices_Compact_string g 0 cap (sortB (l0.map bs)) w2 hH2 (by have := HX.out.2.2.1; have := HX.out.2.2.2.2; have := HLEN.out; simp only [maxLen] at *; omega) (by have := HX.out.2.2.2.2; have := HLEN.out; omega)
    rw [HLEN.out] at hC
    have HC := Lib.hid hC
    have HW2 := Lib.hid hw2
    clear hC hw2 hH2
    go_wp2_with fail
    refine HC.out.mono ?_
    rintro e w3 ⟨rfl, q, hw3⟩
    have HW3 := Lib.hid hw3
    clear hw3
    go_wp2
    go_ret
    obtain ⟨hh, hb, hc, hs, hn⟩ := HX.out
    have hg1 : w1.grownBy w2 (some g) := by
      rw [HW2.out]
      exact World.grownBy.trans (b := Sort.putRow encStr (Sort.ahead w1 n) g 0 (sortB (l0.map bs)).toArray) ⟨rfl, rfl, rfl, by simp, fun k hk hne => (putRow_grown (enc := encStr) (Sort.ahead w1 n) g 0 (sortB (l0.map bs)).toArray).block k hk hne⟩ (grow_grown _ _ _)
    have hh2 : ∃ cur2, w2.heap[g]? = some (.cells cur2 9 (0, 0)) ∧ cur2.size = cap := by
      rw [HW2.out, Sort.heap_grow_old _ _ (by simpa using HG.out), putRow_heap, if_pos rfl]
      refine ⟨_, by rw [Sort.heap_ahead, hh]; rfl, by simp [Sort.putCells, hs]⟩
    obtain ⟨cur2, hh2, hs2⟩ := hh2
    have hg2 : w2.grownBy w3 (some g) := by
      rw [HW3.out]
      exact ⟨rfl, rfl, rfl, by simp, fun k hk hne => (putRow_grown (enc := encStr) (Sort.ahead w2 q) g 0 _).block k hk hne⟩
    have hcl : (Lib.compact (sortB (l0.map bs))).length ≤ (sortB (l0.map bs)).length := by
      unfold Lib.compact Lib.compactUpTo
      rw [List.length_map]
      exact Nat.le_trans (List.length_filter_le _ _) (by simp)
    refine ⟨_, rfl, Kd.R_of_own ?_ (fun _ _ => trivial), ?_⟩
    · have h3 := own_putRow (enc := encStr) (w := Sort.ahead w2 q) (base := w.heap.size) (m := (Lib.compact (sortB (l0.map bs))).length) hh2 hb hc hs2 (Lib.compact (sortB (l0.map bs)) ++ List.replicate (l0.length - (Lib.compact (sortB (l0.map bs))).length) []) (by have := HLEN.out; simp; omega) (by simp)
      rw [HW3.out]
      rw [List.take_left, enc_unbs] at h3
      show World.ownsRow _ _ _ _ _ (setL l0).length _
      have e1 : (setL l0).length = (Lib.compact (sortB (l0.map bs))).length := by simp [setL, setB]
      rw [e1]
      exact h3
    · exact (HB'.out.grown hg1 HB'.out.size (fun k hk => by injection hk with hk; omega)).grown hg2 (Nat.le_trans HB'.out.size hg1.size) (fun k hk => by injection hk with hk; omega)

end Go.Proofs.YtabhngbpkfdeiaaGreatDoor.ESet
end
section
/- slices.Clone at records: a small machine of its own. Condition: the list's cells take at most 2^47 bytes. -/
namespace Go.Proofs.YtabhngbpkfdeiaaGreatDoor.Cl
open Go Go.RowKit Go.Proofs.YtabhngbpkfdeiaaGreatDoor.Ab
set_option linter.unusedVariables false

abbrev tyP : Ty := .pair (.int .i64) (.pair .str (.pair .str (.pair (.int .i64) (.pair (.sl .str) (.sl .str)))))
def ti : TypeId → Option TI
  | 40 => some ⟨.struct [(0, 3), (1, 9), (2, 9), (3, 3), (4, 22), (5, 22)], 6, 96, .agg #[.int .i64 0, .string ⟨#[]⟩, .string ⟨#[]⟩, .int .i64 0, .slice none 0 0, .slice none 0 0], some tyP⟩
  | 48 => some ⟨.slice 40, 1, 24, .slice none 0 0, some (.sl tyP)⟩
  | _ => none
def sg : FuncId → Option Sig := fun _ => none
noncomputable def code (f : Func) : Code := match f.body with | some c => c | none => .skip
def n0 : Note := ⟨8, [.tmp 2], [.own 40 tyP], [], [], [], 0⟩
noncomputable def fns : FuncId → Option (Code × Note)
  | 77 => some (code Tryz.f77, n0)
  | _ => none
noncomputable def W1 : Wd := ⟨Tryz.prog, ti, sg, fns, fun _ => none, fun _ => false⟩

theorem ti_one {t : TypeId} {i : TI} (d : TypeDesc) (h1 : Tryz.prog.underlying t = some d) (h2 : (Tryz.prog.info? t).map (fun i => (i.size, i.bytes, i.zero)) = some (i.size, i.bytes, some i.zero)) (h3 : Dok d i.desc) : TIok Tryz.prog t i := by
  cases h : Tryz.prog.info? t with
  | none => rw [h] at h2; cases h2
  | some j =>
    rw [h] at h2
    simp only [Option.map_some, Option.some.injEq, Prod.mk.injEq] at h2
    exact ⟨d, j, h1, h, h2.1, h2.2.1, h2.2.2, h3⟩
theorem w_ok (G : World → Prop) (hG : ∀ w w' : World, G w → Below w.heap.size w w' → G w') : WdOK W1 G := by
  refine ⟨fun t i h => ?_, fun f c N h => ?_, (fun f g args rvs h => by cases h), by kernel_rfl, hG, (fun f s h => by cases h)⟩
  · have h : ti t = some i := h
    unfold ti at h
    split at h
    · cases h; exact ti_one _ Tryz.underlying40 (by kernel_rfl) ⟨_, rfl, rfl⟩
    · cases h; exact ti_one _ Tryz.underlying48 (by kernel_rfl) rfl
    · cases h
  · have h : fns f = some (c, N) := h
    unfold fns at h
    split at h
    · cases h; exact ⟨_, Tryz.func77, rfl, Nat.le_refl _, rfl, by decide⟩
    · cases h

theorem eq_nil : callG W1 (callW W1) (cutW W1) 77 [.c .nl] = some [.own 40 tyP []] := by kernel_rfl
theorem eq_em : callG W1 (callW W1) (cutW W1) 77 [.c .em] = some [.own 40 tyP []] := by kernel_rfl
theorem eq_sl (xs : List tyP.den) : callG W1 (callW W1) (cutW W1) 77 [.c (.sl tyP xs)] =
    ifs (xs.length = 0) none (ifs (false = true) (some [.own 40 tyP []]) (ifs ((0 + xs.length) * 96 ≤ 140737488355328) (some [.own 40 tyP (List.take (List.length xs) xs)]) none)) := by kernel_rfl

/-- ████ slices.Clone at api.Prim. ████ -/
theorem clone_ok (G : World → Prop) (hG : ∀ w w' : World, G w → Below w.heap.size w w' → G w') (xs : List tyP.den) (hx : xs.length * 96 ≤ 140737488355328) :
    CallOK Tryz.prog G 77 [.c (.sl tyP xs)] [.own 40 tyP xs] := by
  have hw := w_ok G hG
  intro w St Q cargs hGw hSt hQ ha
  obtain ⟨l⟩ := cargs
  match l, ha with
  | [c], ha =>
    obtain ⟨c', hc', hc⟩ := (show RelT w St (.sl tyP) [c] xs from ha.1)
    cases hc'
    rcases hc with ⟨rfl, rfl⟩ | ⟨b, o, s, cap, rfl, hle, hel⟩
    · exact callW_ok hw (callG_step eq_nil) (by kernel_rfl) w St Q _ hGw hSt hQ ⟨rfl, trivial⟩
    · by_cases h0 : xs.length = 0
      · obtain rfl : xs = [] := List.eq_nil_of_length_eq_zero h0
        exact callW_ok hw (callG_step eq_em) (by kernel_rfl) w St Q _ hGw hSt hQ ⟨⟨_, _, rfl⟩, trivial⟩
      · refine callW_ok hw (callG_step ((eq_sl xs).trans ?_)) (by kernel_rfl) w St Q _ hGw hSt hQ ha
        rw [ifs, if_neg h0, ifs, if_neg (by decide), ifs, if_pos (by omega), List.take_length]

end Go.Proofs.YtabhngbpkfdeiaaGreatDoor.Cl
end
section
/- slices.Clone at records: a small machine of its own. Condition: the list's cells take at most 2^47 bytes. -/
namespace Go.Proofs.YtabhngbpkfdeiaaGreatDoor.ClF
open Go Go.RowKit Go.Proofs.YtabhngbpkfdeiaaGreatDoor.Ab
set_option linter.unusedVariables false

abbrev tyP : Ty := .pair .str (.pair .bool (.sl .str))
def ti : TypeId → Option TI
  | 35 => some ⟨.struct [(0, 9), (1, 4), (2, 22)], 3, 48, .agg #[.string ⟨#[]⟩, .bool false, .slice none 0 0], some tyP⟩
  | 29 => some ⟨.slice 35, 1, 24, .slice none 0 0, some (.sl tyP)⟩
  | _ => none
def sg : FuncId → Option Sig := fun _ => none
noncomputable def code (f : Func) : Code := match f.body with | some c => c | none => .skip
def n0 : Note := ⟨8, [.tmp 2], [.own 35 tyP], [], [], [], 0⟩
noncomputable def fns : FuncId → Option (Code × Note)
  | 43 => some (code Tryz.f43, n0)
  | _ => none
noncomputable def W1 : Wd := ⟨Tryz.prog, ti, sg, fns, fun _ => none, fun _ => false⟩

theorem ti_one {t : TypeId} {i : TI} (d : TypeDesc) (h1 : Tryz.prog.underlying t = some d) (h2 : (Tryz.prog.info? t).map (fun i => (i.size, i.bytes, i.zero)) = some (i.size, i.bytes, some i.zero)) (h3 : Dok d i.desc) : TIok Tryz.prog t i := by
  cases h : Tryz.prog.info? t with
  | none => rw [h] at h2; cases h2
  | some j =>
    rw [h] at h2
    simp only [Option.map_some, Option.some.injEq, Prod.mk.injEq] at h2
    exact ⟨d, j, h1, h, h2.1, h2.2.1, h2.2.2, h3⟩
theorem w_ok (G : World → Prop) (hG : ∀ w w' : World, G w → Below w.heap.size w w' → G w') : WdOK W1 G := by
  refine ⟨fun t i h => ?_, fun f c N h => ?_, (fun f g args rvs h => by cases h), by kernel_rfl, hG, (fun f s h => by cases h)⟩
  · have h : ti t = some i := h
    unfold ti at h
    split at h
    · cases h; exact ti_one _ Tryz.underlying35 (by kernel_rfl) ⟨_, rfl, rfl⟩
    · cases h; exact ti_one _ Tryz.underlying29 (by kernel_rfl) rfl
    · cases h
  · have h : fns f = some (c, N) := h
    unfold fns at h
    split at h
    · cases h; exact ⟨_, Tryz.func43, rfl, Nat.le_refl _, rfl, by decide⟩
    · cases h

theorem eq_nil : callG W1 (callW W1) (cutW W1) 43 [.c .nl] = some [.own 35 tyP []] := by kernel_rfl
theorem eq_em : callG W1 (callW W1) (cutW W1) 43 [.c .em] = some [.own 35 tyP []] := by kernel_rfl
theorem eq_sl (xs : List tyP.den) : callG W1 (callW W1) (cutW W1) 43 [.c (.sl tyP xs)] =
    ifs (xs.length = 0) none (ifs (false = true) (some [.own 35 tyP []]) (ifs ((0 + xs.length) * 48 ≤ 140737488355328) (some [.own 35 tyP (List.take (List.length xs) xs)]) none)) := by kernel_rfl

/-- ████ slices.Clone at api.File. ████ -/
theorem clone_ok (G : World → Prop) (hG : ∀ w w' : World, G w → Below w.heap.size w w' → G w') (xs : List tyP.den) (hx : xs.length * 48 ≤ 140737488355328) :
    CallOK Tryz.prog G 43 [.c (.sl tyP xs)] [.own 35 tyP xs] := by
  have hw := w_ok G hG
  intro w St Q cargs hGw hSt hQ ha
  obtain ⟨l⟩ := cargs
  match l, ha with
  | [c], ha =>
    obtain ⟨c', hc', hc⟩ := (show RelT w St (.sl tyP) [c] xs from ha.1)
    cases hc'
    rcases hc with ⟨rfl, rfl⟩ | ⟨b, o, s, cap, rfl, hle, hel⟩
    · exact callW_ok hw (callG_step eq_nil) (by kernel_rfl) w St Q _ hGw hSt hQ ⟨rfl, trivial⟩
    · by_cases h0 : xs.length = 0
      · obtain rfl : xs = [] := List.eq_nil_of_length_eq_zero h0
        exact callW_ok hw (callG_step eq_em) (by kernel_rfl) w St Q _ hGw hSt hQ ⟨⟨_, _, rfl⟩, trivial⟩
      · refine callW_ok hw (callG_step ((eq_sl xs).trans ?_)) (by kernel_rfl) w St Q _ hGw hSt hQ ha
        rw [ifs, if_neg h0, ifs, if_neg (by decide), ifs, if_pos (by omega), List.take_length]

end Go.Proofs.YtabhngbpkfdeiaaGreatDoor.ClF
end
section
/- What the library's functions and the hand-walked ones answer, as the machine's functions. No condition: these are definitions. -/
namespace Go.Proofs.YtabhngbpkfdeiaaGreatDoor.Ex
open Go Go.Proofs.YtabhngbpkfdeiaaGreatDoor.Ab

def str1 (g : ByteArray → Option (List RV)) : List A → Option (List RV)
  | [.c (.sc (.string s))] => g s
  | _ => none
def str2 (g : ByteArray → ByteArray → Option (List RV)) : List A → Option (List RV)
  | [.c (.sc (.string s)), .c (.sc (.string t))] => g s t
  | _ => none
def strs1 (g : List ByteArray → Option (List RV)) : List A → Option (List RV)
  | [.c (.sl .str xs)] => g xs
  | _ => none
def prims1 (g : List Cl.tyP.den → Option (List RV)) : List A → Option (List RV)
  | [.c (.sl T xs)] => if h : T = Cl.tyP then g (castL h xs) else none
  | _ => none
def files1 (g : List ClF.tyP.den → Option (List RV)) : List A → Option (List RV)
  | [.c (.sl T xs)] => if h : T = ClF.tyP then g (castL h xs) else none
  | _ => none
def strsStr (g : List ByteArray → ByteArray → Option (List RV)) : List A → Option (List RV)
  | [.c (.sl .str xs), .c (.sc (.string s))] => g xs s
  | _ => none
/-- A row of files, a place, and other files. -/
def filesIns (g : List ClF.tyP.den → Int → List ClF.tyP.den → Option (List RV)) : List A → Option (List RV)
  | [.c (.sl T xs), .c (.sc (.int .i64 i)), .c (.sl U ys)] => if h : T = ClF.tyP then (if k : U = ClF.tyP then g (castL h xs) i (castL k ys) else none) else none
  | _ => none
/-- A row of files, and a closure that looks at a text. -/
def filesDel (f : FuncId) (g : List ClF.tyP.den → ByteArray → Option (List RV)) : List A → Option (List RV)
  | [.c (.sl T xs), .c (.cl f' [.sh .str s 0])] => if h : T = ClF.tyP ∧ f' = f then g (castL h.1 xs) s else none
  | _ => none
/-- strings.Join. -/
def joinT (xs : List ByteArray) (s : ByteArray) : ByteArray := ⟨(Lib.join (xs.map (·.data.toList)) s.data.toList).toArray⟩
def nilInt (g : Int → Option (List RV)) : List A → Option (List RV)
  | [.c .nl, .c (.sc (.int .i64 n))] => g n
  | _ => none

noncomputable def ext : FuncId → Option (List A → Option (List RV))
  | 119 => some (str1 fun s => if s.size ≤ 9223372036854775807 then some [.d (inj .bool (EText.rightB s))] else none)
  | 121 => some (str1 fun s => if s.size ≤ 9223372036854775807 then some [.d (inj .bool (EText.lineB s))] else none)
  | 117 => some (str2 fun s t => if s.size < 4294967281 ∧ 1 ≤ t.size then some [.own 9 .str (EText.splitL s t)] else none)
  | 54 => some (strs1 fun xs => if xs.length * 16 ≤ 140737488355328 then some [.own 9 .str xs] else none)
  | 81 => some (str1 fun s => some [.d (inj (.int .i32) (Lib.decodeGo s).1), .d (inj (.int .i64) (Lib.decodeGo s).2)])
  | 137 => some (nilInt fun n => if 0 ≤ n ∧ n.toNat * 16 < 140737488355328 then some [.own 9 .str []] else none)
  | 77 => some (prims1 fun xs => if xs.length * 96 ≤ 140737488355328 then some [.own 40 Cl.tyP xs] else none)
  | 114 => some (strs1 fun xs => if xs.length * 16 ≤ 140737488355328 then some [.own 9 .str (ESet.setL xs)] else none)
  | 43 => some (files1 fun xs => if xs.length * 48 ≤ 140737488355328 then some [.own 35 ClF.tyP xs] else none)
  | 146 => some (strsStr fun xs s => if xs.length ≤ 140737488355328 ∧ (joinT xs s).size ≤ 140737488355328 then some [.d (inj .str (joinT xs s))] else none)
  | 127 => some (filesIns fun xs i ys => if 0 ≤ i ∧ i ≤ xs.length ∧ ys.length = 1 ∧ (xs.length + 1) * 48 ≤ 100000000000000 then some [.own 35 ClF.tyP (xs.take i.toNat ++ ys ++ xs.drop i.toNat)] else none)
  | 129 => some (filesDel 130 fun xs s => if xs.length ≤ 9223372036854775806 then some [.own 35 ClF.tyP (xs.filter fun x => !decide (x.1 = s))] else none)
  | _ => none
def eat : FuncId → Bool
  | 127 => true
  | 129 => true
  | _ => false

end Go.Proofs.YtabhngbpkfdeiaaGreatDoor.Ex
end
section
/- Proved: slices.Grow of nil gives an empty row of the call's own. Condition: the room asked for is not negative and takes at most 2^47 bytes. -/
namespace Go.Proofs.YtabhngbpkfdeiaaGreatDoor.EGrow
open Go.Shelf Go.RowKit Go.Lib Go.Proofs.YtabhngbpkfdeiaaGreatDoorW.PrintWords Go.Proofs.YtabhngbpkfdeiaaGreatDoorW.PrintLast Go.Proofs.YtabhngbpkfdeiaaGreatDoor.EText

theorem grown_form (w : World) (m : Nat) (hn : 0 < m) (v1 : Value) (w1 : World) (h : Kd.R Kd.string 9 w1 w.heap.size (fun _ => True) v1 ([] ++ List.replicate ((m : Int)).toNat ⟨#[]⟩)) :
    ∃ g cap, v1 = .slice (some ⟨g, 0, none⟩) m cap ∧ (∀ W : World, (Instr.slice 22 (.slice (some ⟨g, 0, none⟩) m cap) none (some (.int .i64 0)) none).run Tryz.prog W = .ok (.slice (some ⟨g, 0, none⟩) 0 cap) W) ∧
      Hid (∃ cur, w1.heap[g]? = some (.cells cur 9 (0, 0)) ∧ w.heap.size ≤ g ∧ cap ≤ maxLen ∧ cur.size = cap * 1) := by
  have ho := Kd.own_of_R h
  simp only [Int.toNat_natCast, List.nil_append, List.length_replicate] at ho
  rcases ho.2 with ⟨rfl, h0⟩ | ⟨g, cap, cur, rfl, hb, hh, hc, hc2, hs, ht⟩
  · omega
  · obtain ⟨i0, hi0, _, hsz0, _⟩ := info_parts EText.infoStr
    have hcut := cut_to (P := Tryz.prog) 22 9 .i64 Tryz.underlying22 hi0 (some ⟨g, 0, none⟩) m cap 0 (by omega) (by omega) hc
    exact ⟨g, cap, rfl, hcut, Lib.hid ⟨cur, hh, hb, hc2, hs⟩⟩

set_option maxRecDepth 100000 in
theorem grow_nil (n : Int) (w : World) (h0 : 0 ≤ n) (hl : n.toNat * 16 < 140737488355328) :
    Calls Tryz.prog 137 #[.slice none 0 0, .int .i64 n] w fun e w' => ∃ v0_ : Value, e = .returned v0_ ∧ Kd.R Kd.string 9 w' w.heap.size (fun _ => True) v0_ [] ∧ Below w.heap.size w w' := by
  obtain ⟨m, rfl⟩ := Int.eq_ofNat_of_zero_le h0
  rw [Int.toNat_natCast] at hl
  by_cases hn : 0 < m
  · have hm : m < 8796093022208 := by omega
    have HL := Lib.hid hl
    clear hl h0
    go_enter Tryz.func137, Tryz.ntmps137
    go_wp2_with ((with_reducible refine gate_builtin (b := .append) (xs := #[.tmp 20, .tmp 21]) rfl ?_); at_builtin; refine Kd.R_append_zeros Kd.string (w0 := w) w.heap.size rfl (.tmp 20) (.tmp 21) 22 3 9 (.string ⟨#[]⟩) 16 rfl Tryz.underlying22 (k := .i64) Tryz.underlying3 EText.infoStr rfl (by decide) (by omega) (.slice none 0 0) [] ⟨#[]⟩ (kx := .i64) (m : Int) (fun _ => True) rfl rfl rfl (fun _ _ => trivial) (Kd.R_nil _ _ _ _ _) (Int.natCast_nonneg m) (Below.refl _ _) (Nat.le_refl _) (by rw [Int.toNat_natCast]; have := HL.out; simp; omega) ?_; intro v1 w1 ho hb hg hat; obtain ⟨g, cap, rfl, hcut, HX⟩ := grown_form w m hn v1 w1 ho; have HB := Lib.hid hb; clear ho hb hg hat)
    go_ret
    obtain ⟨cur, hh, hb, hc2, hs⟩ := HX.out
    exact ⟨_, rfl, Kd.R_of_own (xs := []) ⟨rfl, .inr ⟨g, cap, cur, rfl, hb, hh, Nat.zero_le _, hc2, hs, rfl⟩⟩ (fun _ _ => trivial), HB.out⟩
  · have hq : m = 0 := by omega
    subst hq
    clear hl h0
    go_enter Tryz.func137, Tryz.ntmps137
    go_wp2
    go_ret
    exact ⟨_, rfl, Kd.R_nil _ _ _ _ _, Below.refl _ _⟩
end Go.Proofs.YtabhngbpkfdeiaaGreatDoor.EGrow
end
section
/- No contracts beneath: for small machines. No condition. -/
namespace Go.Proofs.YtabhngbpkfdeiaaGreatDoor.ExN
open Go Go.Proofs.YtabhngbpkfdeiaaGreatDoor.Ab
def ext : FuncId → Option (List A → Option (List RV)) := fun _ => none
def eat : FuncId → Bool := fun _ => false
theorem ext_ok : ∀ f g args rvs, ext f = some g → g args = some rvs → (match eat f with | true => CallEat Tryz.prog EGlob.G f args rvs | false => CallOK Tryz.prog EGlob.G f args rvs) ∧ Enterable Tryz.prog f := fun _ _ _ _ h => by cases h
end Go.Proofs.YtabhngbpkfdeiaaGreatDoor.ExN
end
section
/- The tables of this seat for the machine: its types, what its functions take and hand back, what is kept at their loops; and that the tables tell the truth of the program. No condition. -/
namespace Go.Proofs.YtabhngbpkfdeiaaGreatDoor.TbF
open Go Go.Proofs.YtabhngbpkfdeiaaGreatDoor.Ab
/-- api.File -/
abbrev ty35 : Ty := .pair .str (.pair .bool (.sl .str))
def ti : TypeId → Option TI
  | 3 => some ⟨.int .i64, 1, 8, .int .i64 0, some (.int .i64)⟩
  | 4 => some ⟨.bool, 1, 1, .bool false, some .bool⟩
  | 9 => some ⟨.string, 1, 16, .string ⟨#[]⟩, some .str⟩
  | 22 => some ⟨.slice 9, 1, 24, .slice none 0 0, some (.sl .str)⟩
  | 29 => some ⟨.slice 35, 1, 24, .slice none 0 0, some (.sl ty35)⟩
  | 35 => some ⟨.struct [(0, 9), (1, 4), (2, 22)], 3, 48, .agg #[.string ⟨#[]⟩, .bool false, .slice none 0 0], some ty35⟩
  | 141 => some ⟨.other, 1, 8, .nilFunc, none⟩
  | _ => none
def sg : FuncId → Option Sig
  | 130 => some ⟨[some ty35, none], [.d .bool], [], false⟩
  | 150 => some ⟨[some (.sl ty35), none], [.d (.int .i64)], [], false⟩
  | _ => none
noncomputable def code (f : Func) : Code := match f.body with | some c => c | none => .skip
/-- slices.IndexFunc[[]rafter/api.File,rafter/api.File] -/
def n150 : Note := ⟨19, [.tmp 4], [.d (.int .i64)], [(2, [(0, .any), (1, .any), (7, .any), (8, .any)])], [], [], 0⟩
/-- (rafter/tree.Tree).without$1 -/
def n130 : Note := ⟨8, [.tmp 3], [.d .bool], [], [], [], 0⟩
noncomputable def fns : FuncId → Option (Code × Note)
  | 150 => some (code Tryz.f150, n150)
  | 130 => some (code Tryz.f130, n130)
  | _ => none
noncomputable def ext : FuncId → Option (List A → Option (List RV)) := ExN.ext
noncomputable def W0 : Wd := ⟨Tryz.prog, ti, sg, fns, ext, ExN.eat⟩
/-- A call over the limit, its results as data. -/
noncomputable def cR (f : FuncId) (rts : List RT) (xs : List A) : Option (dens rts) := callT (envOf W0 (callW W0)) rts f xs
/-- The same for a call that writes variables of its caller: what then stands in them comes behind. -/
noncomputable def cR2 (f : FuncId) (rts : List RT) (os : List Ty) (xs : List A) : Option (dens rts × dens (os.map RT.d)) := callT2 (envOf W0 (callW W0)) rts os f xs
theorem ti_one {t : TypeId} {i : TI} (d : TypeDesc) (h1 : Tryz.prog.underlying t = some d) (h2 : (Tryz.prog.info? t).map (fun i => (i.size, i.bytes, i.zero)) = some (i.size, i.bytes, some i.zero)) (h3 : Dok d i.desc) : TIok Tryz.prog t i := by
  cases h : Tryz.prog.info? t with
  | none => rw [h] at h2; cases h2
  | some j =>
    rw [h] at h2
    simp only [Option.map_some, Option.some.injEq, Prod.mk.injEq] at h2
    exact ⟨d, j, h1, h, h2.1, h2.2.1, h2.2.2, h3⟩
theorem ti_ok : ∀ t i, ti t = some i → TIok Tryz.prog t i := by
  intro t i h
  unfold ti at h
  split at h
  · cases h; exact ti_one _ Tryz.underlying3 (by kernel_rfl) rfl
  · cases h; exact ti_one _ Tryz.underlying4 (by kernel_rfl) rfl
  · cases h; exact ti_one _ Tryz.underlying9 (by kernel_rfl) rfl
  · cases h; exact ti_one _ Tryz.underlying22 (by kernel_rfl) rfl
  · cases h; exact ti_one _ Tryz.underlying29 (by kernel_rfl) rfl
  · cases h; exact ti_one _ Tryz.underlying35 (by kernel_rfl) ⟨_, rfl, rfl⟩
  · cases h; exact ti_one _ Tryz.underlying141 (by kernel_rfl) trivial
  · cases h
theorem fns_ok : ∀ f c N, fns f = some (c, N) → ∃ fn, Tryz.prog.funcs[f]? = some fn ∧ fn.body = some c ∧ N.nt ≤ fn.ntmps ∧ fn.results.toList = N.res ∧ (fn.name == "runtime.NumGoroutine") = false := by
  intro f c N h
  unfold fns at h
  split at h
  · cases h; exact ⟨_, Tryz.func150, rfl, Nat.le_refl _, rfl, by decide⟩
  · cases h; exact ⟨_, Tryz.func130, rfl, Nat.le_refl _, rfl, by decide⟩
  · cases h
theorem sg_ok : ∀ f s, sg f = some s → SgOK W0 f s := by
  intro f s h
  unfold sg at h
  split at h
  · cases h; exact And.intro rfl (And.intro rfl (fun h => absurd rfl h))
  · cases h; exact And.intro rfl (And.intro rfl (fun h => absurd rfl h))
  · cases h
theorem w_ok : WdOK W0 EGlob.G := ⟨ti_ok, fns_ok, ExN.ext_ok, by kernel_rfl, fun _ _ h hb => EGlob.G_below h hb, sg_ok⟩
end Go.Proofs.YtabhngbpkfdeiaaGreatDoor.TbF
end
section
/- What each function comes to on data: printed equations. No condition. -/
set_option linter.unusedVariables false
set_option maxRecDepth 100000
namespace Go.Proofs.YtabhngbpkfdeiaaGreatDoor.TbF
open Go Go.Proofs.YtabhngbpkfdeiaaGreatDoor.Ab
noncomputable def td150_2 : List Item := (findT (code Tryz.f150) [] 2).getD []
noncomputable def l150_2 (x0 : List (ByteArray × Bool × List ByteArray)) (x1 : ByteArray) (x2 : Int) (x3 : Int) : Option (List RV) := cutW W0 n150 td150_2 { fr := [((0 : Nat), F.a (A.c (C.sl ty35 x0))), ((1 : Nat), F.a (A.c (C.cl (130 : Nat) [Pt.sh Ty.str x1 (0 : Nat)]))), ((7 : Nat), F.a (A.c (C.sc (Go.Value.int Go.IntKind.i64 x2)))), ((8 : Nat), F.a (A.c (C.sc (Go.Value.int Go.IntKind.i64 x3))))], mem := [], nx := (0 : Nat) }
theorem e150 (a0 : List (ByteArray × Bool × List ByteArray)) (k1_0 : ByteArray) : callG W0 (callW W0) (cutW W0) 150 [inj (Ty.sl ty35) a0, A.c (C.cl (130 : Nat) [Pt.sh Ty.str k1_0 (0 : Nat)])] = l150_2 a0 k1_0 (↑(List.length a0) : Int) (0 : Int) := by kernel_rfl
theorem q150_2 (x0 : List (ByteArray × Bool × List ByteArray)) (x1 : ByteArray) (x2 : Int) (x3 : Int) : cutG W0 (callW W0) (cutW W0) n150 td150_2 { fr := [((0 : Nat), F.a (A.c (C.sl ty35 x0))), ((1 : Nat), F.a (A.c (C.cl (130 : Nat) [Pt.sh Ty.str x1 (0 : Nat)]))), ((7 : Nat), F.a (A.c (C.sc (Go.Value.int Go.IntKind.i64 x2)))), ((8 : Nat), F.a (A.c (C.sc (Go.Value.int Go.IntKind.i64 x3))))], mem := [], nx := (0 : Nat) } = ifs (decide (x3 < x2) = true) (ifs ((0 : Int) ≤ x3) (Option.bind x0[Int.toNat x3]? fun r => Option.bind (cR (nat_lit 130) [RT.d Ty.bool] [inj ty35 r, A.c (C.pt (Pt.sh Ty.str x1 (0 : Nat)))]) fun r => ifs (r = true) (some (injRs [RT.d (Ty.int Go.IntKind.i64)] x3)) (l150_2 x0 x1 x2 (Go.IntKind.wrap Go.IntKind.i64 (x3 + (1 : Int))))) none) (some (injRs [RT.d (Ty.int Go.IntKind.i64)] (-1 : Int))) := by kernel_rfl
theorem e130 (a0 : ByteArray × Bool × List ByteArray) (a1 : ByteArray) : callG W0 (callW W0) (cutW W0) 130 [inj ty35 a0, A.c (C.pt (Pt.sh Ty.str a1 (0 : Nat)))] = some (injRs [RT.d Ty.bool] (ByteArray.toList a0.fst == ByteArray.toList a1)) := by kernel_rfl
end Go.Proofs.YtabhngbpkfdeiaaGreatDoor.TbF
end
section
/- slices.DeleteFunc and slices.Insert at api.File, as functions that take a slice of the caller's own. Conditions: lengths as they stand in each statement. -/
namespace Go.Proofs.YtabhngbpkfdeiaaGreatDoor.EFi
open Go Go.RowKit Go.Lib Go.Sort Go.Proofs.YtabhngbpkfdeiaaGreatDoor.Ab Go.Proofs.YtabhngbpkfdeiaaGreatDoorW.PrintWords
set_option linter.unusedVariables false
set_option linter.unusedSimpArgs false

abbrev tyP : Ty := .pair .str (.pair .bool (.sl .str))
abbrev Fl : Type := ByteArray × Bool × List ByteArray
theorem toList_beq (a b : ByteArray) : (a.toList == b.toList) = decide (a = b) := by
  have h : ∀ s : ByteArray, s.toList = s.data.toList := fun s => by obtain ⟨⟨l⟩⟩ := s; simp
  rw [Bool.eq_iff_iff, beq_iff_eq, h, h, decide_eq_true_eq]
  constructor
  · intro e; obtain ⟨⟨a⟩⟩ := a; obtain ⟨⟨b⟩⟩ := b; simpa using e
  · rintro rfl; rfl
theorem pred_eq (x : Fl) (s : ByteArray) : callT (envOf TbF.W0 (callW TbF.W0)) [RT.d .bool] 130 [inj tyP x, .c (.pt (.sh .str s 0))] = some (decide (x.1 = s)) :=
  callT_of ((TbF.e130 x s).trans (by rw [toList_beq]))
theorem pred_ok (x : Fl) (s : ByteArray) : CallOK Tryz.prog EGlob.G 130 [inj tyP x, .c (.pt (.sh .str s 0))] [.d (inj .bool (decide (x.1 = s)))] :=
  callW_ok TbF.w_ok (callG_step ((TbF.e130 x s).trans (by rw [toList_beq]; rfl))) (by kernel_rfl)
theorem idx_loop (xs : List Fl) (s : ByteArray) (hl : xs.length ≤ 9223372036854775806) : ∀ d i : Nat, xs.length - i = d → i ≤ xs.length → (∀ j, j < i → ∀ x, xs[j]? = some x → x.1 ≠ s) →
    ∃ r : Int, TbF.l150_2 xs s xs.length i = some (injRs [RT.d (.int .i64)] r) ∧ ((r = -1 ∧ ∀ x ∈ xs, x.1 ≠ s) ∨ ∃ (k : Nat) (x : Fl), r = (k : Int) ∧ xs[k]? = some x ∧ x.1 = s ∧ ∀ j, j < k → ∀ x, xs[j]? = some x → x.1 ≠ s) := by
  intro d
  induction d with
  | zero =>
    intro i hd hi hn
    refine ⟨-1, cutG_step ((TbF.q150_2 ..).trans ?_), .inl ⟨rfl, fun x hx => ?_⟩⟩
    · rw [ifs, if_neg (by simp; omega)]
    · obtain ⟨j, hj⟩ := List.getElem?_of_mem hx
      exact hn j (by have := (List.getElem?_eq_some_iff.1 hj).1; omega) x hj
  | succ d ih =>
    intro i hd hi hn
    have hlt : i < xs.length := by omega
    have hg : xs[i]? = some xs[i] := List.getElem?_eq_getElem hlt
    have hp : TbF.cR 130 [RT.d .bool] [inj tyP xs[i], .c (.pt (.sh .str s 0))] = some (decide (xs[i].1 = s)) := pred_eq _ _
    by_cases he : xs[i].1 = s
    · refine ⟨i, cutG_step ((TbF.q150_2 ..).trans ?_), .inr ⟨i, xs[i], rfl, hg, he, hn⟩⟩
      rw [ifs, if_pos (by simp; omega), ifs, if_pos (by omega), Int.toNat_natCast, hg, Option.bind_some, hp, Option.bind_some, ifs, if_pos (by simp [he])]
    · obtain ⟨r, hr, h2⟩ := ih (i + 1) (by omega) (by omega) (fun j hj x hx => by
        by_cases h : j = i
        · subst h; rw [hg] at hx; cases hx; exact he
        · exact hn j (by omega) x hx)
      refine ⟨r, cutG_step ((TbF.q150_2 ..).trans ?_), h2⟩
      have hw : IntKind.i64.wrap ((i : Int) + 1) = ((i + 1 : Nat) : Int) := by rw [IntKind.wrap_i64]; omega
      rw [ifs, if_pos (by simp; omega), ifs, if_pos (by omega), Int.toNat_natCast, hg, Option.bind_some, hp, Option.bind_some, ifs, if_neg (by simp [he]), hw]
      exact hr
theorem idx_ok (xs : List Fl) (s : ByteArray) (hl : xs.length ≤ 9223372036854775806) : ∃ r : Int, CallOK Tryz.prog EGlob.G 150 [.c (.sl tyP xs), .c (.cl 130 [.sh .str s 0])] [.d (inj (.int .i64) r)] ∧
    ((r = -1 ∧ ∀ x ∈ xs, x.1 ≠ s) ∨ ∃ (k : Nat) (x : Fl), r = (k : Int) ∧ xs[k]? = some x ∧ x.1 = s ∧ ∀ j, j < k → ∀ x, xs[j]? = some x → x.1 ≠ s) := by
  obtain ⟨r, h1, h2⟩ := idx_loop xs s hl _ 0 rfl (Nat.zero_le _) (fun j hj => absurd hj (by omega))
  exact ⟨r, callW_ok TbF.w_ok (callG_step ((TbF.e150 xs s).trans h1)) (by kernel_rfl), h2⟩

abbrev R3 : Type := ByteArray × Bool × Option Addr × Nat × Nat
instance : Inhabited R3 := ⟨(⟨#[]⟩, false, none, 0, 0)⟩
abbrev sv (x : Option Addr × Nat × Nat) : Value := .slice x.1 x.2.1 x.2.2
def Rows (cur : Array Value) (d : Array R3) : Prop := ∀ t, t < d.size → cur[t * 3]? = some (.string d[t]!.1) ∧ cur[t * 3 + 1]? = some (.bool d[t]!.2.1) ∧ cur[t * 3 + 2]? = some (sv d[t]!.2.2)
theorem Rows.cells {w : World} {blk : Nat} {cur : Array Value} {d : Array R3} (h : Rows cur d) (hh : w.heap[blk]? = some (.cells cur 35 (0, 0))) {t : Nat} (ht : t < d.size) :
    w.cell? ⟨blk, t * 3, none⟩ = some (.string d[t]!.1) ∧ w.cell? ⟨blk, t * 3 + 1, none⟩ = some (.bool d[t]!.2.1) ∧ w.cell? ⟨blk, t * 3 + 2, none⟩ = some (sv d[t]!.2.2) ∧ w.frozen? ⟨blk, t * 3, none⟩ = false ∧ w.frozen? ⟨blk, t * 3 + 1, none⟩ = false ∧ w.frozen? ⟨blk, t * 3 + 2, none⟩ = false := by
  obtain ⟨a, b, c⟩ := h t ht
  refine ⟨?_, ?_, ?_, by simp [World.frozen?, hh], by simp [World.frozen?, hh], by simp [World.frozen?, hh]⟩
  · rw [cell_of_row w blk _ cur 35 (0, 0) hh]; exact a
  · rw [cell_of_row w blk _ cur 35 (0, 0) hh]; exact b
  · rw [cell_of_row w blk _ cur 35 (0, 0) hh]; exact c
/-- Three cells written are the row with three elements set. -/
def set3 (cur : Array Value) (o : Nat) (r : R3) : Array Value := ((cur.setIfInBounds o (.string r.1)).setIfInBounds (o + 1) (.bool r.2.1)).setIfInBounds (o + 2) (sv r.2.2)
theorem store3 {W : World} {blk : Nat} {cur : Array Value} (hh : W.heap[blk]? = some (.cells cur 35 (0, 0))) (o : Nat) (r : R3) :
    (((W.setCell ⟨blk, o, none⟩ (.string r.1)).setCell ⟨blk, o + 1, none⟩ (.bool r.2.1)).setCell ⟨blk, o + 2, none⟩ (sv r.2.2)) = W.setRow blk (set3 cur o r) := by
  rw [setCell_eq_setRow W blk o cur 35 (0, 0) _ hh, setCell_eq_setRow _ blk (o + 1) _ 35 (0, 0) _ (setRow_heap W blk cur _ 35 (0, 0) hh), setRow_setRow, setCell_eq_setRow _ blk (o + 2) _ 35 (0, 0) _ (setRow_heap W blk cur _ 35 (0, 0) hh), setRow_setRow]
  rfl
theorem set3_size (cur : Array Value) (o : Nat) (r : R3) : (set3 cur o r).size = cur.size := by simp [set3]
theorem set3_rows {cur : Array Value} {d : Array R3} (h : Rows cur d) {i : Nat} (hi : i < d.size) (r : R3) : Rows (set3 cur (i * 3) r) (d.setIfInBounds i r) := by
  intro t ht
  have ht' : t < d.size := by simpa using ht
  obtain ⟨a, b, c⟩ := h t ht'
  have hc : t * 3 + 2 < cur.size := (Array.getElem?_eq_some_iff.1 c).1
  have hci : i * 3 + 2 < cur.size := (Array.getElem?_eq_some_iff.1 (h i hi).2.2).1
  by_cases e : t = i
  · subst e
    rw [getElem!_set_same d t r hi]
    refine ⟨?_, ?_, ?_⟩
    · unfold set3; rw [Array.getElem?_setIfInBounds_ne (by omega), Array.getElem?_setIfInBounds_ne (by omega), Array.getElem?_setIfInBounds_self_of_lt (by omega)]
    · unfold set3; rw [Array.getElem?_setIfInBounds_ne (by omega), Array.getElem?_setIfInBounds_self_of_lt (by simp; omega)]
    · unfold set3; rw [Array.getElem?_setIfInBounds_self_of_lt (by simp; omega)]
  · rw [getElem!_set_other d i t r e]
    unfold set3
    refine ⟨?_, ?_, ?_⟩
    · rw [Array.getElem?_setIfInBounds_ne (by omega), Array.getElem?_setIfInBounds_ne (by omega), Array.getElem?_setIfInBounds_ne (by omega)]; exact a
    · rw [Array.getElem?_setIfInBounds_ne (by omega), Array.getElem?_setIfInBounds_ne (by omega), Array.getElem?_setIfInBounds_ne (by omega)]; exact b
    · rw [Array.getElem?_setIfInBounds_ne (by omega), Array.getElem?_setIfInBounds_ne (by omega), Array.getElem?_setIfInBounds_ne (by omega)]; exact c
theorem wnat {i : Nat} (h : (i : Int) < 9223372036854775807) : wrap64 ((i : Int) + 1) = ((i + 1 : Nat) : Int) := by unfold wrap64; omega
def zl (n : Nat) : List Value := (Builtin.zeroCells #[.string (⟨#[]⟩ : ByteArray), .bool false, .slice none 0 0] n).toList
theorem zl_len (n : Nat) : (zl n).length = n * 3 := by simp [zl, Builtin.zeroCells]
theorem zl_one {n : Nat} {v : Value} (h : v ∈ zl n) : v.oneCell' = true := by
  simp only [zl, Builtin.zeroCells, Array.toList_map, List.mem_map] at h
  obtain ⟨i, _, rfl⟩ := h
  have h3 : i % 3 = 0 ∨ i % 3 = 1 ∨ i % 3 = 2 := by omega
  rcases h3 with e | e | e <;> simp [e] <;> rfl
theorem run_clear3 {w : World} {blk : Nat} {cur : Array Value} (hh : w.heap[blk]? = some (.cells cur 35 (0, 0))) (ty : TypeId) (i n c : Nat) (hn : 0 < n) (hf : i * 3 + n * 3 ≤ cur.size) :
    (Builtin.clear_ #[29] ty #[.slice (some ⟨blk, i * 3, none⟩) n c]).run Tryz.prog w = .ok (.tuple #[]) (w.setRow blk (cur.toList.take (i * 3) ++ zl n ++ cur.toList.drop (i * 3 + n * 3)).toArray) := by
  have hst := run_storeCells_at (P := Tryz.prog) blk (i * 3) 35 (zl n) 0 cur w hh (by rw [zl_len]; omega) (fun v hv => zl_one hv)
  simp only [Nat.add_zero, zl_len] at hst
  obtain ⟨m, rfl⟩ : ∃ m, n = m + 1 := ⟨n - 1, by omega⟩
  have hz : (Builtin.zeroCells (Value.agg #[.string (⟨#[]⟩ : ByteArray), .bool false, .slice none 0 0]).cells (m + 1)).toList = zl (m + 1) := rfl
  simp only [Value.cells] at hz
  simp [Builtin.clear_, run_underlying Tryz.underlying29, Tryz.zeroValue35, Value.cells, hz, hst]
theorem bel_below {B : Base} {w w1 w2 : World} {n : Nat} (h : Bel B w w1) (k : Below n w1 w2) (hn : B.n ≤ n) : Bel B w w2 := h.trans (Bel.of k hn)

set_option maxHeartbeats 8000000 in
set_option maxRecDepth 100000 in
theorem del_walk (w : World) (pc : Value) (blk cap : Nat) (cur : Array Value) (d : Array R3) (s : ByteArray) (r : Int) (hh : w.heap[blk]? = some (.cells cur 35 (0, 0))) (hs : cur.size = cap * 3) (hdc : d.size ≤ cap) (hR : Rows cur d)
    (hmx : cap ≤ maxLen)
    (hpred : ∀ W t, Bel ⟨w.heap.size, fun b => b = blk⟩ w W → t < d.size → Calls Tryz.prog 130 #[.agg #[.string d[t]!.1, .bool d[t]!.2.1, sv d[t]!.2.2], pc] W fun e W' => e = .returned (.bool (decide (d[t]!.1 = s))) ∧ Below W.heap.size W W')
    (hidx : Calls Tryz.prog 150 #[.slice (some ⟨blk, 0, none⟩) d.size cap, .func (.func 130) #[] #[pc]] w fun e w' => e = .returned (.int .i64 r) ∧ Below w.heap.size w w')
    (hr : (r = -1 ∧ ∀ t, t < d.size → d[t]!.1 ≠ s) ∨ ∃ k : Nat, r = k ∧ k < d.size ∧ d[k]!.1 = s ∧ ∀ j, j < k → d[j]!.1 ≠ s) :
    Calls Tryz.prog 129 #[.slice (some ⟨blk, 0, none⟩) d.size cap, .func (.func 130) #[] #[pc]] w fun e w' => ∃ (k : Nat) (cur' : Array Value), e = .returned (.slice (some ⟨blk, 0, none⟩) k cap) ∧ Bel ⟨w.heap.size, fun b => b = blk⟩ w w' ∧
      w'.heap[blk]? = some (.cells cur' 35 (0, 0)) ∧ cur'.size = cap * 3 ∧ Rows cur' (keptUpTo (fun t => !decide (d[t]!.1 = s)) d d.size).toArray ∧ k = (keptUpTo (fun t => !decide (d[t]!.1 = s)) d d.size).length := by
  rcases hr with ⟨rfl, hn⟩ | ⟨k0, rfl, hk0, he, hn⟩
  · go_enter Tryz.func129, Tryz.ntmps129
    go_wp2_with (go_at_call 150; refine hidx.mono ?_; rintro e w1 ⟨rfl, hb1⟩)
    go_ret
    have e3 : keptUpTo (fun t => !decide (d[t]!.1 = s)) d d.size = d.toList := by rw [keptUpTo_all _ d _ (fun j hj => by simpa using hn j hj), range_map_get]
    rw [e3]
    exact ⟨d.size, cur, rfl, Bel.of hb1 (Nat.le_refl _), (hb1.block blk (Array.getElem?_eq_some_iff.1 hh).1).trans hh, hs, by simpa using hR, by simp⟩
  · have HH := Lib.hid (And.intro hh (And.intro hR (And.intro hn he)))
    have HP := Lib.hid hpred
    clear hh hR hn he hpred
    go_enter Tryz.func129, Tryz.ntmps129
    go_wp2_with (go_at_call 150; refine hidx.mono ?_; rintro e w1 ⟨rfl, hb1⟩)
    go_loopg [5, 6, 7] d.size (fun gg s5 s6 _ wr => ∃ (i j : Nat) (dk : Array R3) (curk : Array Value), s5 = .int .i64 i ∧ s6 = .int .i64 j ∧ j ≤ d.size ∧ d.size - j ≤ gg ∧ Bel ⟨w.heap.size, fun b => b = blk⟩ w wr ∧ wr.heap[blk]? = some (.cells curk 35 (0, 0)) ∧ curk.size = cap * 3 ∧ Rows curk dk ∧ KeptInv (fun t => !decide (d[t]!.1 = s)) d j i dk)
    case atStart =>
      have hd63 : (d.size : Int) ≤ 9223372036854775807 := by have h := hmx; unfold Go.maxLen at h; omega
      refine ⟨k0, k0 + 1, d, cur, rfl, congrArg _ (wnat (by omega)), by omega, by omega, Bel.of hb1 (Nat.le_refl _), (hb1.block blk (Array.getElem?_eq_some_iff.1 HH.out.1).1).trans HH.out.1, hs, HH.out.2.1, KeptInv.start (fun j hj => ?_) ?_⟩
      · show (!decide (d[j]!.1 = s)) = true
        simpa using HH.out.2.2.1 j hj
      · show (!decide (d[k0]!.1 = s)) = false
        simpa using HH.out.2.2.2
    case round =>
      obtain ⟨i, j, dk, curk, rfl, rfl, hjd, hgg, hbel, hhk, hsk, hRk, hI⟩ := hrel
      by_cases hlt : j < d.size
      · have hltz : (j : Int) < (d.size : Int) := by omega
        have hd63 : (d.size : Int) ≤ 9223372036854775807 := by have h := hmx; unfold Go.maxLen at h; omega
        obtain ⟨c1, c2, c3, f1, f2, f3⟩ := hRk.cells hhk (t := j) (by rw [hI.size]; exact hlt)
        rw [hI.high j (by have := hI.lt; omega)] at c1 c2 c3
        have hcall := fun W hW => HP.out W j hW hlt
        have HC := Lib.hid hcall
        have HX := Lib.hid (And.intro hbel (And.intro hhk (And.intro hsk (And.intro hRk hI))))
        clear hcall hbel hhk hsk hRk hI
        have hblk : blk < wr.heap.size := (Array.getElem?_eq_some_iff.1 HX.out.2.1).1
        have hwn : w.heap.size ≤ wr.heap.size := HX.out.1.size
        have hiz : (i : Int) < (d.size : Int) := by have := HX.out.2.2.2.2.lt; omega
        have hilt : i < dk.size := by have := HX.out.2.2.2.2.size; have := HX.out.2.2.2.2.lt; omega
        generalize hu : d[j]! = u at c1 c2 c3
        have HU := Lib.hid hu
        cases hq : decide (u.1 = s) with
        | false =>
          have HQ := Lib.hid hq
          clear hu hq
          obtain ⟨p, q, v1, v2, v3⟩ := u
          simp only [sv] at c1 c2 c3
          have hcal : Calls Tryz.prog 130 #[.agg #[.string p, .bool q, .slice v1 v2 v3], pc] (wr.alloc (.cells #[.string p, .bool q, .slice v1 v2 v3] 35)) fun e W' => e = .returned (.bool false) ∧ Below (wr.heap.size + 1) (wr.alloc (.cells #[.string p, .bool q, .slice v1 v2 v3] 35)) W' := by
            have h := HC.out (wr.alloc (.cells #[.string p, .bool q, .slice v1 v2 v3] 35)) (HX.out.1.alloc hwn _)
            rw [HU.out, HQ.out] at h
            rw [World.size_alloc] at h
            exact h
          go_wp2_with (go_at_call 130; refine hcal.mono ?_; rintro e W2 ⟨rfl, hb2⟩; have hold : ∀ b, b < wr.heap.size → W2.heap[b]? = wr.heap[b]? := fun b hb => (hb2.block b (by omega)).trans (Below.heap_alloc wr _ b hb); have hnew : W2.heap[wr.heap.size]? = some (.cells #[.string p, .bool q, .slice v1 v2 v3] 35 (0, 0)) := (hb2.block _ (by omega)).trans (heap_alloc_new wr _); have n1 : W2.cell? ⟨wr.heap.size, 0, none⟩ = some (.string p) := (cell_of_row W2 _ 0 _ 35 (0, 0) hnew).trans rfl; have n2 : W2.cell? ⟨wr.heap.size, 1, none⟩ = some (.bool q) := (cell_of_row W2 _ 1 _ 35 (0, 0) hnew).trans rfl; have n3 : W2.cell? ⟨wr.heap.size, 2, none⟩ = some (.slice v1 v2 v3) := (cell_of_row W2 _ 2 _ 35 (0, 0) hnew).trans rfl; have hb0 := (hold blk hblk).trans HX.out.2.1; obtain ⟨e1, e2, e3, k1, k2, k3⟩ := HX.out.2.2.2.1.cells hb0 (t := i) hilt; generalize dk[i]! = ui at e1 e2 e3; have HB := Lib.hid (And.intro hb2 (And.intro hb0 (And.intro hold hnew))); clear hb2 hb0 hold hnew)
          go_roundg (d.size - (j + 1))
          case measure => omega
          case rel =>
            refine ⟨i + 1, j + 1, dk.setIfInBounds i (p, q, v1, v2, v3), set3 curk (i * 3) (p, q, v1, v2, v3), by go_num, by go_num, by omega, Nat.le_refl _, ?_, ?_, ?_, ?_, ?_⟩
            · have := store3 HB.out.2.1 (i * 3) (p, q, v1, v2, v3)
              simp only [sv] at this
              rw [this]
              exact (bel_below (HX.out.1.alloc hwn _) HB.out.1 (by show w.heap.size ≤ _; omega)).setRow (.inr rfl) _
            · have := store3 HB.out.2.1 (i * 3) (p, q, v1, v2, v3)
              simp only [sv] at this
              rw [this]
              exact setRow_heap _ blk _ _ 35 (0, 0) HB.out.2.1
            · rw [set3_size]; exact HX.out.2.2.1
            · exact set3_rows HX.out.2.2.2.1 hilt _
            · have := HX.out.2.2.2.2.keep hlt (by show (!decide (d[j]!.1 = s)) = true; rw [HU.out, HQ.out]; rfl)
              rwa [HU.out] at this
        | true =>
          have HQ := Lib.hid hq
          clear hu hq
          obtain ⟨p, q, v1, v2, v3⟩ := u
          simp only [sv] at c1 c2 c3
          have hcal : Calls Tryz.prog 130 #[.agg #[.string p, .bool q, .slice v1 v2 v3], pc] (wr.alloc (.cells #[.string p, .bool q, .slice v1 v2 v3] 35)) fun e W' => e = .returned (.bool true) ∧ Below (wr.heap.size + 1) (wr.alloc (.cells #[.string p, .bool q, .slice v1 v2 v3] 35)) W' := by
            have h := HC.out (wr.alloc (.cells #[.string p, .bool q, .slice v1 v2 v3] 35)) (HX.out.1.alloc hwn _)
            rw [HU.out, HQ.out] at h
            rw [World.size_alloc] at h
            exact h
          go_wp2_with (go_at_call 130; refine hcal.mono ?_; rintro e W2 ⟨rfl, hb2⟩; have hold : ∀ b, b < wr.heap.size → W2.heap[b]? = wr.heap[b]? := (fun b hb => (hb2.block b (by omega)).trans (Below.heap_alloc wr _ b hb)); have HB := Lib.hid (And.intro hb2 hold); clear hb2 hold)
          go_roundg (d.size - (j + 1))
          case measure => omega
          case rel =>
            exact ⟨i, j + 1, dk, curk, rfl, by go_num, by omega, Nat.le_refl _, bel_below (HX.out.1.alloc hwn _) HB.out.1 (by show w.heap.size ≤ _; omega), (HB.out.2 blk hblk).trans HX.out.2.1, HX.out.2.2.1, HX.out.2.2.2.1, HX.out.2.2.2.2.skip (by show (!decide (d[j]!.1 = s)) = false; rw [HU.out, HQ.out]; rfl)⟩
      · obtain rfl : j = d.size := by omega
        have hltz : ¬ (d.size : Int) < (d.size : Int) := by omega
        have hd63 : (d.size : Int) ≤ 9223372036854775807 := by have h := hmx; unfold Go.maxLen at h; omega
        have hil := hI.lt
        have hcl : ∀ ty, (Builtin.clear_ #[29] ty #[.slice (some ⟨blk, i * 3, none⟩) (d.size - i) (cap - i)]).run Tryz.prog wr = .ok (.tuple #[]) (wr.setRow blk (curk.toList.take (i * 3) ++ zl (d.size - i) ++ curk.toList.drop (i * 3 + (d.size - i) * 3)).toArray) :=
          fun ty => run_clear3 hhk ty i (d.size - i) (cap - i) (by omega) (by omega)
        have HX := Lib.hid (And.intro hbel (And.intro hhk (And.intro hsk (And.intro hRk hI))))
        have HP := Lib.hid HP
        clear hbel hhk hsk hRk hI
        have hiz : (i : Int) ≤ (d.size : Int) := by omega
        go_wp2
        go_ret
        obtain ⟨hbel, hhk, hsk, hRk, hI⟩ := HX.out
        rw [← List.append_assoc]
        refine ⟨i, rfl, hbel.setRow (.inr rfl) _, _, setRow_heap _ blk _ _ 35 (0, 0) hhk, ?_, ?_, hI.len.symm⟩
        · have := hsk
          simp only [List.size_toArray, List.length_append, List.length_take, List.length_drop, zl_len, Array.length_toList]; omega
        · intro t ht
          have ht' : t < i := by rw [← hI.len]; simpa using ht
          have hlow := hI.low t ht'
          have hg : (keptUpTo (fun t => !decide (d[t]!.1 = s)) d d.size).toArray[t]! = dk[t]! := by
            rw [getElem!_pos _ t ht]
            have := (List.getElem?_eq_some_iff.1 hlow).2
            simpa using this
          rw [hg]
          obtain ⟨a, b, c⟩ := hRk t (by rw [hI.size]; omega)
          have key : ∀ q, q < i * 3 → (curk.toList.take (i * 3) ++ zl (d.size - i) ++ curk.toList.drop (i * 3 + (d.size - i) * 3)).toArray[q]? = curk[q]? := fun q hq => by
            rw [List.getElem?_toArray, List.append_assoc, List.getElem?_append_left (by rw [List.length_take, Array.length_toList]; omega), List.getElem?_take, if_pos hq, Array.getElem?_toList]
          exact ⟨(key _ (by omega)).trans a, (key _ (by omega)).trans b, (key _ (by omega)).trans c⟩

/-- A row of files in cells. -/
theorem rows_of {w : World} {St : Stb} {cur : Array Value} {xs : List Fl} (h : RelL w St tyP cur.toList xs) : ∃ d : Array R3, d.size = xs.length ∧ Rows cur d ∧ ∀ (t : Nat) (x : Fl), xs[t]? = some x → d[t]!.1 = x.1 ∧ d[t]!.2.1 = x.2.1 ∧ RelT w St (.sl .str) [sv d[t]!.2.2] x.2.2 := by
  have key : ∀ t : Nat, ∃ r : R3, ∀ x : Fl, xs[t]? = some x → cur[t * 3]? = some (.string r.1) ∧ cur[t * 3 + 1]? = some (.bool r.2.1) ∧ cur[t * 3 + 2]? = some (sv r.2.2) ∧ r.1 = x.1 ∧ r.2.1 = x.2.1 ∧ RelT w St (.sl .str) [sv r.2.2] x.2.2 := by
    intro t
    cases hx : xs[t]? with
    | none => exact ⟨default, fun x h => by cases h⟩
    | some x =>
      obtain ⟨l1, l2, e1, h1, l3, l4, rfl, h2, h3⟩ := h t x hx
      have h1 : l1 = [.string x.1] := h1
      have h2 : l3 = [.bool x.2.1] := h2
      subst h1; subst h2
      obtain ⟨c, rfl, hc⟩ := h3
      have e1 : (cur.toList.drop (t * 3)).take 3 = [.string x.1, .bool x.2.1, c] := e1
      have hsl : ∃ v : Option Addr × Nat × Nat, c = sv v := by
        rcases hc with ⟨rfl, _⟩ | ⟨b, o, s, cap, rfl, _⟩
        · exact ⟨(none, 0, 0), rfl⟩
        · exact ⟨(some ⟨b, o, s⟩, _, cap), rfl⟩
      obtain ⟨v, rfl⟩ := hsl
      have g : ∀ q, q < 3 → cur[t * 3 + q]? = [Value.string x.1, .bool x.2.1, sv v][q]? := fun q hq => by
        rw [← e1, List.getElem?_take, if_pos hq, List.getElem?_drop, Array.getElem?_toList]
      exact ⟨(x.1, x.2.1, v), fun y hy => by cases hy; exact ⟨g 0 (by omega), g 1 (by omega), g 2 (by omega), rfl, rfl, ⟨_, rfl, hc⟩⟩⟩
  let R : Nat → R3 := fun t => Classical.choose (key t)
  have hR := fun t => Classical.choose_spec (key t)
  refine ⟨((List.range xs.length).map R).toArray, by simp, fun t ht => ?_, fun t x hx => ?_⟩
  · have ht' : t < xs.length := by simpa using ht
    have e : ((List.range xs.length).map R).toArray[t]! = R t := by rw [getElem!_pos _ t ht]; simp
    rw [e]
    obtain ⟨a, b, c, _⟩ := hR t xs[t] (List.getElem?_eq_getElem ht')
    exact ⟨a, b, c⟩
  · have ht' : t < xs.length := (List.getElem?_eq_some_iff.1 hx).1
    have e : ((List.range xs.length).map R).toArray[t]! = R t := by rw [getElem!_pos _ t (by simpa using ht')]; simp
    rw [e]
    obtain ⟨_, _, _, a, b, c⟩ := hR t x hx
    exact ⟨a, b, c⟩
/-- Back: rows that tell files. -/
theorem rel_rows {w : World} {St : Stb} {cur : Array Value} {d : Array R3} {ys : List Fl} (hR : Rows cur d) (hl : d.size = ys.length) (h : ∀ (t : Nat) (x : Fl), ys[t]? = some x → d[t]!.1 = x.1 ∧ d[t]!.2.1 = x.2.1 ∧ RelT w St (.sl .str) [sv d[t]!.2.2] x.2.2) : RelL w St tyP cur.toList ys := by
  intro t x hx
  have ht : t < ys.length := (List.getElem?_eq_some_iff.1 hx).1
  obtain ⟨a, b, c⟩ := hR t (by omega)
  obtain ⟨e1, e2, e3⟩ := h t x hx
  have e : (cur.toList.drop (t * 3)).take 3 = [.string x.1, .bool x.2.1, sv d[t]!.2.2] := by
    rw [← e1, ← e2]
    apply List.ext_getElem?
    intro q
    rw [List.getElem?_take]
    by_cases hq : q < 3
    · rw [if_pos hq, List.getElem?_drop, Array.getElem?_toList]
      have h3 : q = 0 ∨ q = 1 ∨ q = 2 := by omega
      rcases h3 with rfl | rfl | rfl
      · exact a
      · exact b
      · exact c
    · rw [if_neg hq, List.getElem?_eq_none (by simp; omega)]
  show RelT w St tyP ((cur.toList.drop (t * 3)).take 3) x
  rw [e]
  exact ⟨[_], [_, _], rfl, rfl, [_], [_], rfl, rfl, e3⟩

theorem kept_rel {α : Type} [Inhabited α] (p : α → Bool) (q : Fl → Bool) (d : Array α) (xs : List Fl) (hl : d.size = xs.length) (S : α → Fl → Prop) (h : ∀ (t : Nat) (x : Fl), xs[t]? = some x → S d[t]! x) (hp : ∀ a x, S a x → p a = q x) :
    (keptUpTo (fun t => p d[t]!) d d.size).length = (xs.filter q).length ∧ ∀ (t : Nat) (x : Fl), (xs.filter q)[t]? = some x → S (keptUpTo (fun t => p d[t]!) d d.size).toArray[t]! x := by
  rw [keptUpTo_filter p d]
  have key : ∀ (l : List α) (xs : List Fl), l.length = xs.length → (∀ (t : Nat) (x : Fl) (a : α), xs[t]? = some x → l[t]? = some a → S a x) → (l.filter p).length = (xs.filter q).length ∧ ∀ (t : Nat) (x : Fl) (a : α), (xs.filter q)[t]? = some x → (l.filter p)[t]? = some a → S a x := by
    intro l
    induction l with
    | nil => intro xs hl _; cases xs with
      | nil => exact ⟨rfl, fun t x a hx => by simp at hx⟩
      | cons => cases hl
    | cons a l ih => intro xs hl h; cases xs with
      | nil => cases hl
      | cons x xs =>
        have h0 := h 0 x a rfl rfl
        obtain ⟨h1, h2⟩ := ih xs (by simpa using hl) (fun t y b hy hb => h (t + 1) y b (by simpa using hy) (by simpa using hb))
        have e := hp a x h0
        rw [List.filter_cons, List.filter_cons, e]
        cases q x with
        | false => exact ⟨h1, h2⟩
        | true =>
          refine ⟨by simp [h1], fun t y b hy hb => ?_⟩
          cases t with
          | zero => simp at hy hb; subst hy; subst hb; exact h0
          | succ t => exact h2 t y b (by simpa using hy) (by simpa using hb)
  obtain ⟨h1, h2⟩ := key d.toList xs (by simpa using hl) (fun t x a hx ha => by
    have ht : t < d.size := by rw [hl]; exact (List.getElem?_eq_some_iff.1 hx).1
    have := h t x hx
    rw [getElem!_pos d t ht] at this
    rw [Array.getElem?_toList, Array.getElem?_eq_getElem ht] at ha
    cases ha
    exact this)
  refine ⟨h1, fun t x hx => ?_⟩
  have ht : t < (d.toList.filter p).length := by rw [h1]; exact (List.getElem?_eq_some_iff.1 hx).1
  rw [getElem!_pos _ t (by simpa using ht)]
  exact h2 t x _ hx (by rw [List.getElem?_eq_getElem ht]; simp)

theorem args1f {w : World} {St Q : Stb} {cs : List Value} {x : A} (h : All2 (RelA w St Q noBet) cs [x]) : ∃ c, cs = [c] ∧ RelA w St Q noBet c x := by
  match cs, h with
  | [c], h => exact ⟨c, rfl, h.1⟩

theorem ret_int {w w' : World} {St : Stb} {r : Int} {e : Ending} (h : ∃ (cs : List Value) (obs : List (Option Nat)) (St' : Stb), e = .returned (wrapV cs) ∧ Below w.heap.size w w' ∧ (∀ b o, St b o → St' b o) ∧ (∀ b o, St' b o → St b o ∨ w.heap.size ≤ b) ∧ StOK w' St' ∧
      RelRVs w' St' (base0 w.heap.size) cs [.d (inj (.int .i64) r)] obs ∧ (∀ (i j : Nat) (b : Nat), obs[i]? = some (some b) → obs[j]? = some (some b) → i = j)) : e = .returned (.int .i64 r) ∧ Below w.heap.size w w' := by
  obtain ⟨cs, obs, St', rfl, hb, _, _, _, hr, _⟩ := h
  cases cs with
  | nil => cases obs <;> exact hr.elim
  | cons c cs => cases obs with
    | nil => exact hr.elim
    | cons o obs => cases cs with
      | cons => cases obs <;> exact hr.2.elim
      | nil =>
        obtain ⟨_, h1, _⟩ := hr.1
        exact ⟨by rw [show c = _ from h1]; rfl, hb⟩
theorem ret_bool {w w' : World} {St : Stb} {r : Bool} {e : Ending} (h : ∃ (cs : List Value) (obs : List (Option Nat)) (St' : Stb), e = .returned (wrapV cs) ∧ Below w.heap.size w w' ∧ (∀ b o, St b o → St' b o) ∧ (∀ b o, St' b o → St b o ∨ w.heap.size ≤ b) ∧ StOK w' St' ∧
      RelRVs w' St' (base0 w.heap.size) cs [.d (inj .bool r)] obs ∧ (∀ (i j : Nat) (b : Nat), obs[i]? = some (some b) → obs[j]? = some (some b) → i = j)) : e = .returned (.bool r) ∧ Below w.heap.size w w' := by
  obtain ⟨cs, obs, St', rfl, hb, _, _, _, hr, _⟩ := h
  cases cs with
  | nil => cases obs <;> exact hr.elim
  | cons c cs => cases obs with
    | nil => exact hr.elim
    | cons o obs => cases cs with
      | cons => cases obs <;> exact hr.2.elim
      | nil =>
        obtain ⟨_, h1, _⟩ := hr.1
        exact ⟨by rw [show c = _ from h1]; rfl, hb⟩

set_option maxRecDepth 100000 in
theorem del_none (w : World) (f : Value) (hf : ∃ pc, f = .func (.func 130) #[] #[pc])
    (hidx : Calls Tryz.prog 150 #[.slice none 0 0, f] w fun e w' => e = .returned (.int .i64 (-1)) ∧ Below w.heap.size w w') :
    Calls Tryz.prog 129 #[.slice none 0 0, f] w fun e w' => e = .returned (.slice none 0 0) ∧ Below w.heap.size w w' := by
  obtain ⟨pc, rfl⟩ := hf
  go_enter Tryz.func129, Tryz.ntmps129
  go_wp2_with (go_at_call 150; refine hidx.mono ?_; rintro e w1 ⟨rfl, hb1⟩)
  go_ret
  exact ⟨rfl, hb1⟩

theorem del_ok (xs : List Fl) (s : ByteArray) (hl : xs.length ≤ 9223372036854775806) :
    CallEat Tryz.prog EGlob.G 129 [.c (.sl tyP xs), .c (.cl 130 [.sh .str s 0])] [.own 35 tyP (xs.filter fun x => !decide (x.1 = s))] := by
  intro e T xs1 ys rest hargs hrvs w St Q ob own c0 cargs hown hG hSt hQ h0 hfr hc
  cases hargs; cases hrvs
  obtain ⟨f, rfl, arr, rfl, hpc⟩ := args1f hc
  obtain ⟨la⟩ := arr
  obtain ⟨pc, rfl⟩ : ∃ pc, la = [pc] := by
    cases la with
    | nil => exact hpc.elim
    | cons pc la => cases la with
      | nil => exact ⟨pc, rfl⟩
      | cons => exact hpc.2.elim
  obtain ⟨⟨b, o, l, rfl, hs, hat⟩, _⟩ := hpc
  · skip
    have hs : l = [.string s] := hs
    subst hs
    obtain ⟨r, hidx, hr⟩ := idx_ok xs s hl
    have hGw := hG w (Bel.refl _ _)
    have hcell := hat 0 (.string s) rfl
    have hbQ : b < w.heap.size := hcell.1.elim (fun h => (hQ _ _ h).1) (fun h => hSt _ _ h)
    have hfun : ∀ (w' : World) (St' : Stb), w'.cell? ⟨b, o, none⟩ = w.cell? ⟨b, o, none⟩ → RelP w' St' (fun b' _ => b' = b) noBet (.pointer (some ⟨b, o + 0, none⟩)) (.sh .str s 0) := fun w' St' hw' =>
      ⟨b, o, [.string s], rfl, rfl, fun q c hq => by
        cases q with
        | zero => cases hq; exact ⟨.inl rfl, hw'.trans hcell.2⟩
        | succ q => simp at hq⟩
    cases ob with
    | none =>
      obtain ⟨rfl, rfl⟩ := h0
      have hr1 : r = -1 := by
        rcases hr with ⟨h, _⟩ | ⟨k, x, _, h, _⟩
        · exact h
        · simp at h
      subst hr1
      have h1 := hidx w St (fun b' _ => b' = b) #[.slice none 0 0, .func (.func 130) #[] #[.pointer (some ⟨b, o + 0, none⟩)]] hGw hSt (fun b' o' h => by subst h; exact hbQ) ⟨⟨_, rfl, .inl ⟨rfl, rfl⟩⟩, ⟨_, rfl, hfun w St rfl, trivial⟩, trivial⟩
      refine (del_none w _ ⟨_, rfl⟩ (h1.mono fun e w' h => ret_int h)).mono ?_
      rintro e w' ⟨rfl, hb⟩
      refine ⟨_, none, St, rfl, ⟨hb.os, hb.tape, hb.output, hb.size, fun k hk _ => hb.block k hk⟩, fun _ _ h => h, fun _ _ h => .inl h, fun b o h => Nat.lt_of_lt_of_le (hSt b o h) hb.size, rfl, rfl⟩
    | some blk =>
      obtain ⟨cap, cur, rfl, hmay, hh, hsz, hx, hmx, hrel, hno⟩ := h0
      have hblk : blk < w.heap.size := (Array.getElem?_eq_some_iff.1 hh).1
      have hbne : b ≠ blk := fun e => by
        subst e
        rcases hcell.1 with h | h
        · exact (hQ _ _ h).2 ((hown _).2 rfl)
        · exact hno _ h
      obtain ⟨d, hd, hR, hdx⟩ := rows_of hrel
      have hsz : cur.size = cap * 3 := hsz
      -- the search
      let St2 : Stb := fun b' o' => St b' o' ∨ (b' = blk ∧ o' < xs.length * 3)
      have hSt2 : StOK w St2 := fun b' o' h => h.elim (hSt b' o') (fun h => h.1 ▸ hblk)
      have hE : Ext w St w St2 := fun b' o' h => ⟨.inl h, rfl⟩
      have hat0 : ∀ (i : Nat) (x : Fl), xs[i]? = some x → Ab.At w St2 blk (0 + i * tyP.w) ((cur.toList.drop (i * tyP.w)).take tyP.w) := fun i x hi j c hj => by
        have hi' : i < xs.length := (List.getElem?_eq_some_iff.1 hi).1
        rw [List.getElem?_take] at hj
        split at hj
        · rename_i hj3
          have hj3 : j < 3 := hj3
          rw [List.getElem?_drop, Array.getElem?_toList] at hj
          have hj : cur[i * 3 + j]? = some c := hj
          refine ⟨.inr ⟨rfl, by show 0 + i * 3 + j < _; omega⟩, ?_⟩
          show w.cell? ⟨blk, 0 + i * 3 + j, none⟩ = some c
          rw [Nat.zero_add, cell_of_row w blk _ cur 35 (0, 0) hh]
          exact hj
        · cases hj
      have h1 := hidx w St2 (fun b' _ => b' = b) #[.slice (some ⟨blk, 0, none⟩) xs.length cap, .func (.func 130) #[] #[.pointer (some ⟨b, o + 0, none⟩)]] hGw hSt2 (fun b' o' h => by subst h; exact hbQ)
        ⟨⟨_, rfl, .inr ⟨blk, 0, none, cap, rfl, hx, fun i x hi => ⟨rfl, _, RelT.mono hE tyP _ _ (hrel i x hi), hat0 i x hi⟩⟩⟩, ⟨_, rfl, hfun w St2 rfl, trivial⟩, trivial⟩
      have hkeep : ∀ W, Bel ⟨w.heap.size, fun b' => b' = blk⟩ w W → ∀ b' o', b' < w.heap.size → b' ≠ blk → W.cell? ⟨b', o', none⟩ = w.cell? ⟨b', o', none⟩ := fun W hW b' o' hb' hn => World.cell?_of_block (w := w) (hW.block b' hb' hn)
      have hExt : ∀ W, Bel ⟨w.heap.size, fun b' => b' = blk⟩ w W → Ext w St W St := fun W hW b' o' h => ⟨h, hkeep W hW b' o' (hSt _ _ h) (fun e => by subst e; exact hno _ h)⟩
      have hown' : ∀ W, Bel ⟨w.heap.size, fun b' => b' = blk⟩ w W → Bel ⟨w.heap.size, own⟩ w W := fun W hW => ⟨hW.os, hW.tape, hW.output, hW.size, fun k hk hn => hW.block k hk (fun e => hn ((hown k).2 (by rw [e])))⟩
      have hw := del_walk w (.pointer (some ⟨b, o + 0, none⟩)) blk cap cur d s r hh hsz (by rw [hd]; exact hx) hR hmx
        (fun W t hW ht => by
          have hx' : xs[t]? = some xs[t] := List.getElem?_eq_getElem (by omega)
          obtain ⟨e1, e2, e3⟩ := hdx t xs[t] hx'
          have h2 := pred_ok xs[t] s W St (fun b' _ => b' = b) #[.agg #[.string d[t]!.1, .bool d[t]!.2.1, sv d[t]!.2.2], .pointer (some ⟨b, o + 0, none⟩)] (hG W (hown' W hW)) (fun b' o' h => Nat.lt_of_lt_of_le (hSt b' o' h) hW.size) (fun b' o' h => by subst h; exact Nat.lt_of_lt_of_le hbQ hW.size)
            ⟨⟨_, rfl, by rw [e1]; exact ⟨rfl, rfl⟩, by rw [e2]; exact ⟨rfl, rfl⟩, RelT.mono (hExt W hW) (.sl .str) _ _ e3, trivial⟩, hfun W St (hkeep W hW b o hbQ hbne), trivial⟩
          rw [← e1] at h2
          exact h2.mono fun e w' h => ret_bool h)
        (by rw [hd]; exact h1.mono fun e w' h => ret_int h)
        (by
          rcases hr with ⟨h, hn⟩ | ⟨k, x, h, hk, hxs, hn⟩
          · refine .inl ⟨h, fun t ht => ?_⟩
            have hx' : xs[t]? = some xs[t] := List.getElem?_eq_getElem (by omega)
            rw [(hdx t _ hx').1]
            exact hn _ (List.getElem_mem _)
          · have hk' : k < xs.length := (List.getElem?_eq_some_iff.1 hk).1
            refine .inr ⟨k, h, by omega, by rw [(hdx k x hk).1]; exact hxs, fun j hj => ?_⟩
            have hx' : xs[j]? = some xs[j] := List.getElem?_eq_getElem (by omega)
            rw [(hdx j _ hx').1]
            exact hn j hj _ hx')
      rw [hd] at hw
      refine hw.mono ?_
      rintro e w' ⟨k, cur', rfl, hbel, hh', hs', hR', hk⟩
      obtain ⟨k1, k2⟩ := kept_rel (fun a : R3 => !decide (a.1 = s)) (fun x => !decide (x.1 = s)) d xs hd (fun a x => a.1 = x.1 ∧ a.2.1 = x.2.1 ∧ RelT w St (.sl .str) [sv a.2.2] x.2.2) hdx (fun a x h => by simp only [h.1])
      rw [hd] at k1 k2
      rw [k1] at hk
      subst hk
      refine ⟨_, some blk, St, rfl, hown' _ hbel, fun _ _ h => h, fun _ _ h => .inl h, fun b o h => Nat.lt_of_lt_of_le (hSt b o h) hbel.size, ?_⟩
      refine ⟨cap, cur', rfl, .inr ((hown blk).2 rfl), hh', hs', Nat.le_trans (List.length_filter_le _ _) hx, hmx, rel_rows hR' (by simpa using k1) (fun t x hx' => ?_), hno⟩
      obtain ⟨a, b', c⟩ := k2 t x hx'
      exact ⟨a, b', RelT.mono (hExt _ hbel) (.sl .str) _ _ c⟩

end Go.Proofs.YtabhngbpkfdeiaaGreatDoor.EFi
end
