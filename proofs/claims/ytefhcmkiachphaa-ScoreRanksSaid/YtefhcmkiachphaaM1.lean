/- A machine over plain data: Go code is run on numbers, texts and lists, in the order of the text, with memory kept as rows of the call's own. No condition: these are definitions. The machine over plain data, its operations and its run. No condition: these are definitions. The machine over plain data: the run of a function, with its loops cut at their heads, and the limit over all bounds on the rounds. No condition: these are definitions, and that the limit answers as one round more does. How the machine's data stand in Go's memory, and that this stays where nothing of it is written. No conditio -/
import Derived.Calls
import Derived.Orders
import Derived.Below
import Derived.Laws.AppendOwn
import Derived.ChangeKeysEq
import Derived.KernelRfl
import Derived.Scope
import Derived.Lib.SliceRun
import Derived.Laws.CopyOwn
import Derived.IntWalk
section
/- A machine over plain data: Go code is run on numbers, texts and lists, in the order of the text, with memory kept as_ rows of the call's own. No condition: these are definitions. -/
namespace Go.Proofs.Ytefhcmkiachphaa.Ab
open Go Go.RowKit

/-- A test that the data decide. -/
def ifs {α : Type} (c : Prop) [Decidable c] (a b : α) : α := if c then a else b

/-! ### Kinds of data -/
inductive Ty where
  | int (k : IntKind) | bool | str | flt (k : FloatKind) | unit
  | sl (t : Ty)
  | pair (a b : Ty)
  deriving DecidableEq

@[reducible] def Ty.den : Ty → Type
  | .int _ => Int
  | .bool => Bool
  | .str => ByteArray
  | .flt _ => Nat
  | .unit => Unit
  | .sl t => List t.den
  | .pair a b => a.den × b.den

def Ty.w : Ty → Nat
  | .unit => 0
  | .pair a b => a.w + b.w
  | _ => 1

/-- Is it a struct? -/
def Ty.agg : Ty → Bool
  | .unit | .pair .. => true
  | _ => false

/-- A pointer: into a row of the call's own (row, element, cell), or to data that nobody writes. -/
inductive Pt where
  | own (id i j : Nat)
  | sh (T : Ty) (d : T.den) (j : Nat)

/-- What one cell holds; 'em': an empty slice that is not nil; 'nan': some number that is none, of bits that nobody knows. -/
inductive C where
  | sc (v : Value)
  | sl (T : Ty) (xs : List T.den)
  | nl
  | em
  | ow (id len : Nat)
  | pt (p : Pt)
  | cl (f : FuncId) (caps : List Pt)
  | nan (k : FloatKind)
  | jk

/-- A value: of one cell, or a struct's cells. -/
inductive A where
  | c (x : C)
  | ag (cs : List C)

def A.cells : A → List C
  | .c x => [x]
  | .ag cs => cs

/-- What a slot holds. -/
inductive F where
  | a (x : A)
  | tp (xs : List A)

def F.jk : F := .a (.c .jk)
/-- What a slot holds behind an operation that was not wanted. -/
abbrev F.un : F := .tp []

/-- A row of the call's own: a variable's cells, or the elements of a slice. -/
inductive Row where
  | box (t : TypeId) (T : Option Ty) (cells : List C) (fz : Bool)
  | arr (e : TypeId) (T : Ty) (xs : List T.den) (fz : Bool)

def Row.freeze : Row → Row
  | .box t T cs _ => .box t T cs true
  | .arr e T xs _ => .arr e T xs true

/-- What kind of type: a struct's fields by offset and type. -/
inductive D where
  | int (k : IntKind) | float (k : FloatKind) | bool | string
  | slice (e : TypeId) | array (n : Nat) (e : TypeId)
  | struct (fs : List (Nat × TypeId))
  | other

/-- What is known of a type. -/
structure TI where
  desc : D
  size : Nat
  bytes : Nat
  zero : Value
  ty : Option Ty

/-! ### Data and cells -/
def injC : (T : Ty) → T.den → List C
  | .int k, n => [.sc (.int k n)]
  | .bool, b => [.sc (.bool b)]
  | .str, s => [.sc (.string s)]
  | .flt k, b => [.sc (.float k b)]
  | .unit, _ => []
  | .sl t, xs => [.sl t xs]
  | .pair a b, d => injC a d.1 ++ injC b d.2

def inj : (T : Ty) → T.den → A
  | .int k, n => .c (.sc (.int k n))
  | .bool, b => .c (.sc (.bool b))
  | .str, s => .c (.sc (.string s))
  | .flt k, b => .c (.sc (.float k b))
  | .unit, _ => .ag []
  | .sl t, xs => .c (.sl t xs)
  | .pair a b, d => .ag (injC (.pair a b) d)

def castL {t' t : Ty} (h : t' = t) (xs : List t'.den) : List t.den := h ▸ xs

def prjC : (T : Ty) → List C → Option (T.den × List C)
  | .int k, l => match l with | .sc (.int k' n) :: r => if k' = k then some (n, r) else none | _ => none
  | .bool, l => match l with | .sc (.bool b) :: r => some (b, r) | _ => none
  | .str, l => match l with | .sc (.string s) :: r => some (s, r) | _ => none
  | .flt k, l => match l with | .sc (.float k' n) :: r => if k' = k then some (n, r) else none | _ => none
  | .unit, l => some ((), l)
  | .sl t, l => match l with
    | .sl t' xs :: r => if h : t' = t then some (castL h xs, r) else none
    | .nl :: r => some ([], r)
    | .em :: r => some ([], r)
    | _ => none
  | .pair a b, l => match prjC a l with
    | some (x, r) => match prjC b r with
      | some (y, r') => some ((x, y), r')
      | none => none
    | none => none

/-- The datum that these cells are, all of them. -/
def prj (T : Ty) (l : List C) : Option T.den :=
  match prjC T l with
  | some (d, []) => some d
  | _ => none

def plain : Value → Bool
  | .bool _ | .int .. | .float .. | .complex .. | .string _ | .pointer none | .nilFunc | .nilIface | .map none | .chan none => true
  | _ => false

def absC (v : Value) : C :=
  match v with
  | .slice none 0 0 => .nl
  | v => if plain v then .sc v else .jk

def absA : Value → A
  | .agg cs => .ag (cs.toList.map absC)
  | v => .c (absC v)

/-- Not a hole. -/
def C.ok : C → Bool
  | .jk => false
  | _ => true

def cellsOk : List C → Bool
  | [] => true
  | x :: r => x.ok && cellsOk r

/-- Is the value of the form that this kind of data has? -/
def shapeOk (T : Ty) : A → Bool
  | .c _ => !T.agg
  | .ag _ => T.agg

/-! ### The frame and the rows -/
structure S where
  fr : List (Nat × F)
  mem : List (Option Row)
  nx : Nat

def getF : List (Nat × F) → Nat → F
  | [], _ => F.jk
  | (k, v) :: r, t => bif Nat.beq k t then v else getF r t

def getM : List (Option Row) → Nat → Option Row
  | [], _ => none
  | x :: _, 0 => x
  | _ :: r, i + 1 => getM r i

def evalF (fr : List (Nat × F)) : Operand → F
  | .tmp t => getF fr t
  | .const v => .a (absA v)
  | .global _ => F.jk
  | .func f => .a (.c (.cl f []))

/-- What an operation comes to: its value, a row that it makes, a row that it changes (or takes away), rows that nobody may write any more. -/
structure Out where
  v : F
  row : Option Row := none
  upd : Option (Nat × Option Row) := none
  fz : List Nat := []

/-! ### Handing data on: slices and variables of the call's own as_ data that nobody writes -/
def reC0 (m : Nat → Option Row) : C → C
  | .ow id len => match m id with
    | some (.arr _ T xs _) => .sl T (xs.take len)
    | _ => .jk
  | x => x

def reP (m : Nat → Option Row) : Pt → Option Pt
  | .sh T d j => some (.sh T d j)
  | .own id i j => match m id with
    | some (.box _ (some T) cs _) => match i with
      | 0 => match prj T (cs.map (reC0 m)) with
        | some d => some (.sh T d j)
        | none => none
      | _ => none
    | _ => none

def rePs (m : Nat → Option Row) : List Pt → Option (List Pt)
  | [] => some []
  | p :: r => match reP m p with
    | some p' => match rePs m r with
      | some r' => some (p' :: r')
      | none => none
    | none => none

def reC (m : Nat → Option Row) : C → C
  | .pt p => match reP m p with
    | some p' => .pt p'
    | none => .jk
  | .cl f ps => match rePs m ps with
    | some ps' => .cl f ps'
    | none => .jk
  | x => reC0 m x

def reA (m : Nat → Option Row) : A → A
  | .c x => .c (reC m x)
  | .ag cs => .ag (cs.map (reC m))

def idsC (m : Nat → Option Row) : C → List Nat
  | .ow id _ => [id]
  | .pt (.own id _ _) => id :: (match m id with | some (.box _ _ cs _) => cs.flatMap (fun | .ow id _ => [id] | _ => []) | _ => [])
  | .cl _ ps => ps.flatMap fun
    | .own id _ _ => id :: (match m id with | some (.box _ _ cs _) => cs.flatMap (fun | .ow id _ => [id] | _ => []) | _ => [])
    | _ => []
  | _ => []

/-- 'setAt cs j xs': cells from j on. -/
def setAt (cs : List C) (j : Nat) (xs : List C) : List C := cs.take j ++ xs ++ cs.drop (j + xs.length)

def isAggD : D → Bool
  | .struct _ | .array .. => true
  | _ => false

def mkA (agg : Bool) (l : List C) : Option A :=
  match agg, l with
  | true, l => some (.ag l)
  | false, [x] => some (.c x)
  | false, _ => none

/-- Sem without memory. -/
def free (P : Program) {α : Type} : Sem α → Option α
  | .pure a => some a
  | .program k => free P (k P)
  | .mark _ k => free P k
  | _ => none

end Go.Proofs.Ytefhcmkiachphaa.Ab
end
section
/- The machine over plain data, its operations and its run. No condition: these are definitions. -/
namespace Go.Proofs.Ytefhcmkiachphaa.Ab
open Go Go.RowKit

/-- What a function hands back: data, or a slice that it made and that nobody else knows. -/
inductive RV where
  | d (x : A)
  | own (e : TypeId) (T : Ty) (xs : List T.den)

inductive RT where
  | d (T : Ty)
  | own (e : TypeId) (T : Ty)

@[reducible] def RT.den : RT → Type
  | .d T => T.den
  | .own _ T => List T.den

@[reducible] def dens : List RT → Type
  | [] => Unit
  | [r] => r.den
  | r :: rs => r.den × dens rs

def injR : (r : RT) → r.den → RV
  | .d T, x => .d (inj T x)
  | .own e T, xs => .own e T xs

def injRs : (rs : List RT) → dens rs → List RV
  | [], _ => []
  | [r], x => [injR r x]
  | r :: r' :: rs, x => injR r x.1 :: injRs (r' :: rs) x.2

def prjR : (r : RT) → RV → Option r.den
  | .d T, .d x => bif shapeOk T x then prj T x.cells else none
  | .own e T, .own e' T' xs => if e' = e then (if h : T' = T then some (castL h xs) else none) else none
  | _, _ => none

def prjRs : (rs : List RT) → List RV → Option (dens rs)
  | [], [] => some ()
  | [r], [x] => prjR r x
  | r :: r' :: rs, x :: xs => match prjR r x with
    | some d => match prjRs (r' :: rs) xs with
      | some ds => some (d, ds)
      | none => none
    | none => none
  | _, _ => none

def Ty.hasSl : Ty → Bool
  | .sl _ => true
  | .pair a b => a.hasSl || b.hasSl
  | _ => false
def RT.hasSl : RT → Bool
  | .d T => T.hasSl
  | .own _ T => T.hasSl

/-- 'ios': which arguments are pointers to variables of the caller's own that the callee may write: their places among the arguments, their types and kinds. What stands in them is handed over behind the arguments, and handed back behind the results. 'eat': the first argument is a slice of the caller's own that the call takes: its row is the callee's, and the answer may lie in its block. -/
structure Sig where
  args : List (Option Ty)
  rts : List RT
  ios : List (Nat × TypeId × Ty) := []
  eat : Bool := false

/-- What is kept of a slot where the run is cut: all of it; a slice of the call's own (nil is an empty one). -/
inductive LK where
  | any
  | own (e : TypeId) (T : Ty)
  | cells (l : List (Nat × TypeId × Ty))
  | sh

structure Env where
  P : Program
  ti : TypeId → Option TI
  sg : FuncId → Option Sig
  call : FuncId → List A → Option (List RV)

/-- The notes on one function: its slots, its results, where its loops and its other cuts are and what is kept there; the variables of its caller's that it may write, and then how many arguments it has. -/
structure Note where
  nt : Nat
  res : List ResultVar
  rts : List RT
  loops : List (Nat × List (Nat × LK))
  joins : List (Nat × List (Nat × LK))
  ios : List (Nat × TypeId × Ty) := []
  na : Nat := 0

section
variable {R : Type} (E : Env)

def basic : Value → Bool
  | .bool _ | .int .. | .float .. | .string _ => true
  | _ => false

def outV (v : Value) : Out := { v := .a (.c (.sc v)) }

def binK (op : BinOp) (t : TypeId) (x y : F) (K : Out → Option R) : Option R :=
  match x, y with
  | .a (.c (.sc a)), .a (.c (.sc b)) =>
    match op, a, b with
    | .quo, .int k m, .int k' n => if k = k' then (ifs (n = 0) none (K (outV (.int k (k.wrap (m.tdiv n)))))) else none
    | .rem, .int k m, .int k' n => if k = k' then (ifs (n = 0) none (K (outV (.int k (m.tmod n))))) else none
    | .quo, .float k m, .float k' n => if k = k' then (k.format.div m n).bind fun r => K (outV (.float k r)) else none
    | .add, .float k m, .float k' n => if k = k' then (k.format.add m n).bind fun r => K (outV (.float k r)) else none
    | .sub, .float k m, .float k' n => if k = k' then (k.format.sub m n).bind fun r => K (outV (.float k r)) else none
    | .mul, .float k m, .float k' n => if k = k' then (k.format.mul m n).bind fun r => K (outV (.float k r)) else none
    | .add, .string s, .string u => ifs (s.size + u.size ≤ 9223372036854775807) (K (outV (.string (s ++ u)))) none
    | .eql, .bool p, .bool q => match E.ti t with
      | some ⟨.bool, _, _, _, _⟩ => K (outV (.bool (p == q)))
      | _ => none
    | .neq, .bool p, .bool q => match E.ti t with
      | some ⟨.bool, _, _, _, _⟩ => K (outV (.bool (!(p == q))))
      | _ => none
    | _, _, _ =>
      bif basic a && basic b then
        (match free E.P (binOp op t a b) with
        | some v => bif plain v then K (outV v) else none
        | none => none)
      else none
  | .a (.c .nl), .a (.c .nl) => match op, E.ti t with
    | .eql, some ⟨.slice _, _, _, _, _⟩ => K (outV (.bool true))
    | _, _ => none
  | .a (.c .em), .a (.c .nl) => match op, E.ti t with
    | .eql, some ⟨.slice _, _, _, _, _⟩ => K (outV (.bool false))
    | _, _ => none
  | .a (.c (.sl _ xs)), .a (.c .nl) => match op, E.ti t with
    | .eql, some ⟨.slice _, _, _, _, _⟩ => ifs (xs.length = 0) none (K (outV (.bool false)))
    | _, _ => none
  | _, _ => none

def unK (op : UnOp) (x : F) (K : Out → Option R) : Option R :=
  match x with
  | .a (.c (.sc a)) => match free E.P (Op.unary op a) with
    | some v => bif plain v then K (outV v) else none
    | none => none
  | _ => none

def convK (src dst : TypeId) (x : F) (K : Out → Option R) : Option R :=
  match E.ti src, E.ti dst, x with
  | some _, some j, .a (.c (.sc a)) => match j.desc, a with
    | .int k, .int _ n => K (outV (.int k (k.wrap n)))
    | .string, .string s => K (outV (.string s))
    | .float k, .int _ n => K (outV (.float k (k.nearest n)))
    | _, _ => none
  | _, _, _ => none

def zeroCs (i : TI) : List C := i.zero.cells.toList.map absC

def placesOf : List (Nat × TypeId) → Option (List (Nat × Nat))
  | [] => some []
  | f :: r => match E.ti f.2 with
    | some i => match placesOf r with
      | some l => some ((f.1, i.size) :: l)
      | none => none
    | none => none

def fillC (place : List (Nat × Nat)) (cells : List C) : List (Nat × F) → Option (List C)
  | [] => some cells
  | (i, v) :: r =>
    match place[i]?, v with
    | some (off, size), .a x =>
      bif Nat.beq x.cells.length size && Nat.ble (off + size) cells.length && cellsOk x.cells then fillC place (setAt cells off x.cells) r else none
    | _, _ => none

/-- The elements of a literal, in their order. -/
def litElems (T : Ty) (m : Nat → Option Row) : Nat → List (Nat × F) → Option (List T.den)
  | _, [] => some []
  | n, (i, v) :: r =>
    match v with
    | .a x => bif Nat.beq i n && cellsOk x.cells then (match prj T (x.cells.map (reC0 m)) with
      | some d => match litElems T m (n + 1) r with
        | some ds => some (d :: ds)
        | none => none
      | none => none) else none
    | _ => none

def owIds : List C → List Nat
  | [] => []
  | .ow id _ :: r => id :: owIds r
  | _ :: r => owIds r

def fIds : List (Nat × F) → List Nat
  | [] => []
  | (_, .a x) :: r => owIds x.cells ++ fIds r
  | _ :: r => fIds r

def partK (cs : List C) (j : Nat) (i : TI) (K : Out → Option R) : Option R :=
  bif Nat.ble (j + i.size) cs.length then
    (match mkA (isAggD i.desc) ((cs.drop j).take i.size) with
    | some x => K { v := .a x }
    | none => none)
  else none

def loadK (m : Nat → Option Row) (p : Pt) (i : TI) (K : Out → Option R) : Option R :=
  match p with
  | .own id e j => match m id with
    | some (.box _ _ cs _) => match e with | 0 => partK cs j i K | _ => none
    | some (.arr _ T xs _) => (xs[e]?).bind fun d => partK (injC T d) j i K
    | none => none
  | .sh T d j => partK (injC T d) j i K

def storeK (m : Nat → Option Row) (p : Pt) (i : TI) (x : A) (K : Out → Option R) : Option R :=
  match p with
  | .own id e j => match m id with
    | some (.box t T cs fz) => match e, fz with
      | 0, false => bif Nat.ble (j + i.size) cs.length && Nat.beq x.cells.length i.size && cellsOk x.cells then
          K { v := F.jk, upd := some (id, some (.box t T (setAt cs j x.cells) false)) } else none
      | _, _ => none
    | some (.arr t T xs fz) => match fz with
      | false => (xs[e]?).bind fun d =>
        bif Nat.ble (j + i.size) (injC T d).length && Nat.beq x.cells.length i.size && cellsOk x.cells && !(owIds x.cells).any (Nat.beq id) then
          (match prj T (setAt (injC T d) j (x.cells.map (reC0 m))) with
          | some d' => K { v := F.jk, upd := some (id, some (.arr t T (xs.set e d') false)), fz := owIds x.cells }
          | none => none) else none
      | true => none
    | none => none
  | .sh .. => none

def intF : F → Option Int
  | .a (.c (.sc (.int _ n))) => some n
  | _ => none

def loF : Option F → Option Int
  | none => some 0
  | some l => intF l

def hiF (n : Int) : Option F → Option Int
  | none => some n
  | some h => intF h

def sliceK (m : Nat → Option Row) (t : TypeId) (x : F) (lo hi mx : Option F) (K : Out → Option R) : Option R :=
  match E.ti t, mx with
  | some i, none => match i.desc, x with
    | .string, .a (.c (.sc (.string s))) =>
      (loF lo).bind fun l =>
      (hiF (s.size : Int) hi).bind fun h =>
        ifs (0 ≤ h ∧ h ≤ (s.size : Int)) (ifs (0 ≤ l ∧ l ≤ h) (K (outV (.string (s.extract l.toNat h.toNat)))) none) none
    | .slice e, .a (.c y) => match E.ti e with
      | some ie => match y with
        | .sl T xs =>
          bif Nat.beq ie.size T.w then
            (loF lo).bind fun l =>
            (hiF (xs.length : Int) hi).bind fun h =>
              ifs (0 ≤ h ∧ h ≤ (xs.length : Int)) (ifs (0 ≤ l ∧ l ≤ h) (K { v := .a (.c (.sl T ((xs.take h.toNat).drop l.toNat))) }) none) none
          else none
        | .ow id len => match m id with
          | some (.arr _ T xs _) =>
            bif Nat.beq ie.size T.w then
              (match lo with
              | none => (hiF (len : Int) hi).bind fun h =>
                  ifs (0 ≤ h ∧ h ≤ (len : Int)) (K { v := .a (.c (.ow id h.toNat)) }) none
              | some l => (intF l).bind fun l =>
                (hiF (len : Int) hi).bind fun h =>
                  ifs (0 ≤ h ∧ h ≤ (len : Int)) (ifs (0 ≤ l ∧ l ≤ h) (K { v := .a (.c (.sl T ((xs.take h.toNat).drop l.toNat))), fz := [id] }) none) none)
            else none
          | _ => none
        | _ => none
      | none => none
    | _, _ => none
  | _, _ => none

def fieldK (t : TypeId) (x : F) (f : Nat) (K : Out → Option R) : Option R :=
  match E.ti t, x with
  | some i, .a (.ag cs) => match i.desc with
    | .struct fs => match fs[f]? with
      | some fd => match E.ti fd.2 with
        | some j => partK cs fd.1 j K
        | none => none
      | none => none
    | _ => none
  | _, _ => none

def movePt (p : Pt) (d : Nat) : Pt :=
  match p with
  | .own id i j => .own id i (j + d)
  | .sh T x j => .sh T x (j + d)

def fieldAddrK (t : TypeId) (x : F) (f : Nat) (K : Out → Option R) : Option R :=
  match E.ti t, x with
  | some i, .a (.c (.pt p)) => match i.desc with
    | .struct fs => match fs[f]? with
      | some fd => match E.ti fd.2 with
        | some j => bif Nat.blt 0 j.size then K { v := .a (.c (.pt (movePt p fd.1))) } else none
        | none => none
      | none => none
    | _ => none
  | _, _ => none

def indexAddrK (m : Nat → Option Row) (t : TypeId) (x ix : F) (K : Out → Option R) : Option R :=
  match E.ti t, x, intF ix with
  | some i, .a (.c y), some n => match i.desc with
    | .slice e => match E.ti e with
      | some ie => match y with
        | .sl T xs => bif Nat.beq ie.size T.w then (ifs (0 ≤ n) ((xs[n.toNat]?).bind fun d => K { v := .a (.c (.pt (.sh T d 0))) }) none) else none
        | .ow id len => match m id with
          | some (.arr _ T _ _) => bif Nat.beq ie.size T.w then (ifs (0 ≤ n ∧ n < (len : Int)) (K { v := .a (.c (.pt (.own id n.toNat 0))) }) none) else none
          | _ => none
        | _ => none
      | none => none
    | .array len e => match y, E.ti e with
      | .pt p, some ie => ifs (0 ≤ n ∧ n < (len : Int)) (K { v := .a (.c (.pt (movePt p (n.toNat * ie.size)))) }) none
      | _, _ => none
    | _ => none
  | _, _, _ => none

def indexK (t : TypeId) (x ix : F) (K : Out → Option R) : Option R :=
  match E.ti t, x, intF ix with
  | some i, .a y, some n => match i.desc, y with
    | .string, .c (.sc (.string s)) => ifs (0 ≤ n) ((s[n.toNat]?).bind fun b => K (outV (.int .u8 b.toNat))) none
    | .array len e, .ag cs => match E.ti e with
      | some ie => ifs (0 ≤ n ∧ n < (len : Int)) (partK cs (n.toNat * ie.size) ie K) none
      | none => none
    | _, _ => none
  | _, _, _ => none

def makeSliceK (new : Nat) (t : TypeId) (l c : F) (K : Out → Option R) : Option R :=
  match E.ti t, intF l, intF c with
  | some i, some l, some c => match i.desc with
    | .slice e => match E.ti e with
      | some ie => match ie.ty with
        | some T => match prj T (zeroCs ie) with
          | some z => bif Nat.blt 0 ie.size && Nat.blt 0 ie.bytes && Nat.beq ie.size T.w && Nat.beq ie.zero.cells.size ie.size then
              (ifs (0 ≤ l ∧ l ≤ c ∧ c * ie.bytes ≤ 140737488355328) (K { v := .a (.c (.ow new (List.replicate l.toNat z).length)), row := some (.arr e T (List.replicate l.toNat z) false) }) none) else none
          | none => none
        | none => none
      | none => none
    | _ => none
  | _, _, _ => none

/-- The data that a slice is. -/
def elemsOf (m : Nat → Option Row) (T : Ty) : C → Option (List T.den)
  | .nl => some []
  | .em => some []
  | .sl T' xs => if h : T' = T then some (castL h xs) else none
  | .ow id len => match m id with
    | some (.arr _ T' xs _) => if h : T' = T then some (castL h (xs.take len)) else none
    | _ => none
  | _ => none

def appendK (m : Nat → Option Row) (new : Nat) (t t2 : TypeId) (x y : F) (K : Out → Option R) : Option R :=
  match E.ti t, E.ti t2, x, y with
  | some i, some i2, .a (.c x), .a (.c y) => match i.desc, i2.desc with
    | .slice e, .slice _ => match E.ti e with
      | some ie => match ie.ty with
        | some T => bif Nat.beq t t2 && Nat.blt 0 ie.size && Nat.blt 0 ie.bytes && Nat.beq ie.size T.w && Nat.beq ie.zero.cells.size ie.size then
          (match elemsOf m T y with
          | some ys => match x with
            | .nl => ifs (ys.length * ie.bytes ≤ 140737488355328) (K { v := .a (.c (.ow new ys.length)), row := some (.arr e T ys false) }) none
            | .ow id len => match m id with
              | some (.arr e' T' xs fz) => match fz with
                | false => bif Nat.beq e' e then (if h : T' = T then
                    (ifs ((len + ys.length) * ie.bytes ≤ 140737488355328) (K { v := .a (.c (.ow new (castL h (xs.take len) ++ ys).length)), row := some (.arr e T (castL h (xs.take len) ++ ys) false), upd := some (id, none) }) none) else none) else none
                | true => none
              | _ => none
            | _ => none
          | none => none) else none
        | none => none
      | none => none
    | _, _ => none
  | _, _, _, _ => none

abbrev imax (x y : Int) : Int := if y > x then y else x
abbrev imin (x y : Int) : Int := if y < x then y else x
def maxV (a b : Value) : Option Value :=
  match a, b with
  | .int k x, .int _ y => some (.int k (imax x y))
  | _, _ => none
def minV (a b : Value) : Option Value :=
  match a, b with
  | .int k x, .int _ y => some (.int k (imin x y))
  | _, _ => none
def foldV (f : Value → Value → Option Value) : Value → List F → Option Value
  | a, [] => some a
  | a, .a (.c (.sc b)) :: r => match f a b with
    | some c => foldV f c r
    | none => none
  | _, _ => none

def lenK (t : TypeId) (x : F) (K : Out → Option R) : Option R :=
  match E.ti t, x with
  | some i, .a (.c y) => match i.desc, y with
    | .string, .sc (.string s) => K (outV (.int .i64 s.size))
    | .slice _, .sl _ xs => K (outV (.int .i64 xs.length))
    | .slice _, .nl => K (outV (.int .i64 0))
    | .slice _, .ow _ len => K (outV (.int .i64 len))
    | _, _ => none
  | _, _ => none

def argK (m : Nat → Option Row) : List (Option Ty) → List F → Option (List A)
  | [], [] => some []
  | T :: Ts, .a x :: xs =>
    match T with
    | some T => bif shapeOk T x then (match prj T (x.cells.map (reC0 m)) with
      | some d => match argK m Ts xs with
        | some r => some (inj T d :: r)
        | none => none
      | none => none) else none
    | none => match argK m Ts xs with
      | some r => some (reA m x :: r)
      | none => none
  | _, _ => none

def argIds (m : Nat → Option Row) : List F → List Nat
  | [] => []
  | .a x :: r => x.cells.flatMap (idsC m) ++ argIds m r
  | _ :: r => argIds m r

/-- The results of a call, as_ slots hold them: slices of the call's own get a row each, from 'new' on. -/
def retF (new : Nat) : (rs : List RT) → dens rs → List A × List Row
  | [], _ => ([], [])
  | [r], x => match r, x with
    | .d T, x => ([inj T x], [])
    | .own e T, xs => ([.c (.ow new xs.length)], [.arr e T xs false])
  | r :: r' :: rs, x => match r, x with
    | .d T, x => let p := retF new (r' :: rs) x.2; (inj T x.1 :: p.1, p.2)
    | .own e T, x => let p := retF (new + 1) (r' :: rs) x.2; (.c (.ow new x.1.length) :: p.1, .arr e T x.1 false :: p.2)

def wrapF : List A → F
  | [x] => .a x
  | l => .tp l

/-- An operation's outcome with several rows. -/
structure OutM where
  v : F
  rows : List Row := []
  upd : Option (Nat × Option Row) := none
  ups : List (Nat × Row) := []
  fz : List Nat := []

def lookU : List (Nat × Row) → Nat → Option Row
  | [], _ => none
  | (i, r) :: l, id => bif Nat.beq i id then some r else lookU l id

def Out.many (o : Out) : OutM := { v := o.v, rows := o.row.toList, upd := o.upd, fz := o.fz }

/-- A call's results, as_ data of the kinds that the callee tells. -/
def callT (rts : List RT) (f : FuncId) (as_ : List A) : Option (dens rts) := (E.call f as_).bind (prjRs rts)

def capsF : List F → Option (List Pt)
  | [] => some []
  | .a (.c (.pt p)) :: r => match capsF r with
    | some ps => some (p :: ps)
    | none => none
  | _ => none

/-! ### Calls that write variables of the caller's own -/
def ioPos : List (Nat × TypeId × Ty) → Nat → Nat → Option Nat
  | [], _, _ => none
  | x :: r, i, k => bif Nat.beq x.1 i then some k else ioPos r i (k + 1)

/-- A slice of the caller's own, instead of a variable: its elements are written in place. -/
def arrT : Ty → Option Ty
  | .pair .unit (.sl T) => some T
  | _ => none
/-- The row of what is handed over to be written. -/
def ioRow (x : Nat × TypeId × Ty) (a : A) : Row :=
  match arrT x.2.2 with
  | some T => match prj (.sl T) a.cells with
    | some xs => .arr x.2.1 T xs false
    | none => .box x.2.1 (some x.2.2) a.cells false
  | none => .box x.2.1 (some x.2.2) a.cells false
def ioArr (m : Nat → Option Row) (args : List F) (x : Nat × TypeId × Ty) (T : Ty) : Option (Nat × A × List Nat) :=
  match args[x.1]? with
  | some (.a (.c (.ow id _))) => match m id with
    | some (.arr e T' l false) => bif Nat.beq e x.2.1 then (if T' = T then some (id, .ag [.sl T' l], []) else none) else none
    | _ => none
  | _ => none

/-- One such variable: its row, what stands in it, which slices of the call's own become data by it. -/
def ioOne (m : Nat → Option Row) (args : List F) (x : Nat × TypeId × Ty) : Option (Nat × A × List Nat) :=
  match arrT x.2.2 with
  | some T => ioArr m args x T
  | none =>
  match args[x.1]? with
  | some (.a (.c (.pt (.own id 0 0)))) => match m id with
    | some (.box t (some T) cs false) => bif Nat.beq t x.2.1 then (if T = x.2.2 then (match prj x.2.2 (cs.map (reC0 m)) with
      | some d => some (id, inj x.2.2 d, owIds cs)
      | none => none) else none) else none
    | _ => none
  | _ => none

def ioAll (m : Nat → Option Row) (args : List F) : List (Nat × TypeId × Ty) → Option (List (Nat × A × List Nat))
  | [] => some []
  | x :: r => match ioOne m args x with
    | some y => match ioAll m args r with
      | some ys => some (y :: ys)
      | none => none
    | none => none

def nodupL : List Nat → Bool
  | [] => true
  | x :: r => !r.any (Nat.beq x) && nodupL r

def argIO (m : Nat → Option Row) (ios : List (Nat × TypeId × Ty)) : Nat → List (Option Ty) → List F → Option (List A)
  | _, [], [] => some []
  | i, T :: Ts, .a x :: xs => match argIO m ios (i + 1) Ts xs with
    | none => none
    | some r => match ioPos ios i 0 with
      | some k => some ((match x with | .c (.ow _ len) => .c (.ow k len) | _ => .c (.pt (.own k 0 0))) :: r)
      | none => match T with
        | some T => bif shapeOk T x then (match prj T (x.cells.map (reC0 m)) with
          | some d => some (inj T d :: r)
          | none => none) else none
        | none => some (reA m x :: r)
  | _, _, _ => none

def argIdsIO (m : Nat → Option Row) (ios : List (Nat × TypeId × Ty)) : Nat → List F → List Nat
  | _, [] => []
  | i, .a x :: r => (match ioPos ios i 0 with | some _ => [] | none => x.cells.flatMap (idsC m)) ++ argIdsIO m ios (i + 1) r
  | i, _ :: r => argIdsIO m ios (i + 1) r

/-- The answer of a call, and what then stands in the variables. -/
def callT2 (rts : List RT) (os : List Ty) (f : FuncId) (as_ : List A) : Option (dens rts × dens (os.map RT.d)) :=
  (E.call f as_).bind fun rvs => match prjRs rts (rvs.take rts.length) with
    | some d => match prjRs (os.map RT.d) (rvs.drop rts.length) with
      | some o => some (d, o)
      | none => none
    | none => none

def upsOf : List (Nat × A × List Nat) → List (Nat × TypeId × Ty) → List A → List (Nat × Row)
  | y :: ys, x :: xs, a :: as_ => (y.1, ioRow x a) :: upsOf ys xs as_
  | _, _, _ => []

def callIO (m : Nat → Option Row) (new : Nat) (f : FuncId) (sg : Sig) (args : List F) (K : OutM → Option R) : Option R :=
  match ioAll m args sg.ios with
  | some ys => bif nodupL (ys.map (·.1)) && Nat.ble sg.rts.length 4 && !((ys.flatMap (fun y => y.2.2) ++ argIdsIO m sg.ios 0 args).any fun i => (ys.map (·.1)).any (Nat.beq i)) then
      (match argIO m sg.ios 0 sg.args args with
      | some as_ => (callT2 E sg.rts (sg.ios.map fun x => x.2.2) f (as_ ++ ys.map fun y => y.2.1)).bind fun d =>
          let p := retF new sg.rts d.1
          K { v := wrapF p.1, rows := p.2, ups := upsOf ys sg.ios (retF 0 ((sg.ios.map fun x => x.2.2).map RT.d) d.2).1, fz := ys.flatMap (fun y => y.2.2) ++ argIdsIO m sg.ios 0 args }
      | none => none) else none
  | none => none

/-- No slice of anybody else's. -/
def freshA (m : Nat → Option Row) : F → Bool
  | .a (.c x) => match x with
    | .sl .. | .em | .jk => false
    | .ow id _ => match m id with
      | some (.arr ..) => true
      | _ => false
    | _ => true
  | .a (.ag _) => true
  | .tp _ => false
/-- A call that takes a slice of the caller's own. -/
def eatK (m : Nat → Option Row) (new : Nat) (f : FuncId) (sg : Sig) (args : List F) (K : OutM → Option R) : Option R :=
  match sg.args, args, sg.rts with
  | _ :: Ts, .a (.c x) :: xs, [.own e T] =>
    match (bif xs.all (freshA m) then argK m Ts xs else none) with
    | some as_ =>
      match x with
      | .nl => (callT E [.own e T] f (inj (.sl T) [] :: as_)).bind fun ys =>
          K { v := .a (.c (.ow new ys.length)), rows := [.arr e T ys false], fz := argIds m xs }
      | .ow id len => match m id with
        | some (.arr e' T' l false) => bif Nat.beq e' e && !(argIds m xs).any (Nat.beq id) then (if h : T' = T then
            (callT E [.own e T] f (inj (.sl T) (castL h (l.take len)) :: as_)).bind fun ys =>
              K { v := .a (.c (.ow new ys.length)), rows := [.arr e T ys false], upd := some (id, none), fz := argIds m xs } else none) else none
        | _ => none
      | _ => none
    | none => none
  | _, _, _ => none

def callK (m : Nat → Option Row) (new : Nat) (f : FuncId) (args : List F) (K : OutM → Option R) : Option R :=
  match E.sg f with
  | some sg => match sg.eat with
   | true => eatK E m new f sg args K
   | false => match sg.ios with
   | _ :: _ => callIO E m new f sg args K
   | [] => bif Nat.ble sg.rts.length 4 then match argK m sg.args args with
    | some as_ => (callT E sg.rts f as_).bind fun d =>
        let p := retF new sg.rts d
        K { v := wrapF p.1, rows := p.2, fz := bif sg.rts.any RT.hasSl then argIds m args else [] }
    | none => none
    else none
  | none => none

/-- Structs of this type are compared field by field, all of them, and nothing of the model stands in for them. -/
def eqOkP (P : Program) (t : TypeId) : Bool := (P.fieldsOf t).all (fun f => f.name != "_") && !P.stoodInHeld t && !P.eqGuardType P.depth t
/-- The fields of two structs, one by one. -/
def eqFs (g : TypeId → List C → List C → Option Bool) : List (Nat × TypeId) → List C → List C → Option Bool
  | [], _, _ => some true
  | f :: r, xs, ys => match E.ti f.2 with
    | some j => bif Nat.ble (f.1 + j.size) xs.length && Nat.ble (f.1 + j.size) ys.length then
      (match g f.2 ((xs.drop f.1).take j.size) ((ys.drop f.1).take j.size) with
      | some a => match eqFs g r xs ys with
        | some b => some (a && b)
        | none => none
      | none => none) else none
    | none => none
/-- Are these cells the same, as_ values of this type? -/
def eqT : Nat → TypeId → List C → List C → Option Bool
  | 0, _, _, _ => none
  | d + 1, t, xs, ys => match E.ti t with
    | some i => match i.desc with
      | .struct fs => bif eqOkP E.P t then eqFs E (eqT d) fs xs ys else none
      | .string => match xs, ys with
        | [.sc (.string a)], [.sc (.string b)] => some (a.toList == b.toList)
        | _, _ => none
      | .int _ => match xs, ys with
        | [.sc (.int k a)], [.sc (.int k' b)] => if k = k' then some (a == b) else none
        | _, _ => none
      | .bool => match xs, ys with
        | [.sc (.bool a)], [.sc (.bool b)] => some (a == b)
        | _, _ => none
      | _ => none
    | none => none
/-- '==' and '!=' of structs. -/
def eqK (op : BinOp) (t : TypeId) (xs ys : List C) (K : Out → Option R) : Option R :=
  match E.ti t with
  | some i => bif isAggD i.desc && eqOkP E.P t then (match eqT E 8 t xs ys with
    | some b => match op with
      | .eql => K (outV (.bool b))
      | .neq => K (outV (.bool (!b)))
      | _ => none
    | none => none) else none
  | none => none

/-! ### Floating-point numbers -/
def nanV (k : FloatKind) : Out := { v := .a (.c (.nan k)) }
def fltArg : F → Option (FloatKind × Option Nat)
  | .a (.c (.nan k)) => some (k, none)
  | .a (.c (.sc (.float k n))) => some (k, some n)
  | _ => none
def fltCmp (op : BinOp) (c : Option Ordering) : Option Bool :=
  match op with
  | .eql => some (c == some .eq)
  | .neq => some (c != some .eq)
  | .lss => some (c == some .lt)
  | .leq => some (c == some .lt || c == some .eq)
  | .gtr => some (c == some .gt)
  | .geq => some (c == some .gt || c == some .eq)
  | _ => none
def fltFn (op : BinOp) (k : FloatKind) : Option (Nat → Nat → Option Nat) :=
  match op with
  | .add => some k.format.add
  | .sub => some k.format.sub
  | .mul => some k.format.mul
  | .quo => some k.format.div
  | _ => none
/-- An operation on floating-point numbers; what is no number has bits that nobody knows. -/
def fltK (op : BinOp) (x y : FloatKind × Option Nat) (K : Out → Option R) : Option R :=
  match x, y with
  | (k, some m), (k', some n) => if k = k' then (match fltFn op k with
    | some g => match k with
      | .f64 => ifs ((g m n).isNone = true) (K (nanV .f64)) ((g m n).bind fun r => K (outV (.float .f64 r)))
      | .f32 => none
    | none => match fltCmp op (k.format.order m n) with
      | some b => K (outV (.bool b))
      | none => none) else none
  | (k, _), (k', _) => if k = k' then (match fltCmp op none with
    | some b => K (outV (.bool b))
    | none => none) else none

/-- Numbers, texts, truths alone. -/
def scsF : List F → Option (List Value)
  | [] => some []
  | .a (.c (.sc v)) :: r => match scsF r with
    | some vs => some (v :: vs)
    | none => none
  | _ => none
/-- A function without a body, which the model answers by itself. -/
def extV (P : Program) (f : FuncId) (args : List F) : Option Value :=
  match scsF args with
  | some vs => match free P (callFunc f vs.toArray) with
    | some (.value v) => bif plain v then some v else none
    | _ => none
  | none => none

/-- One operation. -/
def aopK (m : Nat → Option Row) (new : Nat) (ρ : Operand → F) (o : Op) (K : OutM → Option R) : Option R :=
  match o with
  | .move x | .assign x => K { v := ρ x }
  | .pick c a b => match ρ c with
    | .a (.c (.sc (.bool t))) => ifs (t = true) (K { v := ρ a }) (K { v := ρ b })
    | _ => none
  | .alloc t => match E.ti t with
    | some i => bif cellsOk (zeroCs i) then K { v := .a (.c (.pt (.own new 0 0))), rows := [.box t i.ty (zeroCs i) false] } else none
    | none => none
  | .box t x => match E.ti t, ρ x with
    | some i, .a x => bif Nat.beq x.cells.length i.size && cellsOk x.cells then K { v := .a (.c (.pt (.own new 0 0))), rows := [.box t i.ty x.cells false] } else none
    | _, _ => none
  | .build t parts => match E.ti t with
    | some i => match i.desc with
      | .struct fs => match placesOf E fs with
        | some pl => match fillC pl (zeroCs i) (parts.toList.map fun p => (p.1, ρ p.2)) with
          | some cs => K { v := .a (.ag cs) }
          | none => none
        | none => none
      | _ => none
    | none => none
  | .buildSlice t len parts => match E.ti t with
    | some i => match i.desc with
      | .slice e => match E.ti e with
        | some ie => match ie.ty with
          | some T => bif Nat.beq ie.size T.w && Nat.ble (len * ie.size) 16777216 && Nat.ble len 16777216 && Nat.beq parts.toList.length len then
              (match litElems T m 0 (parts.toList.map fun p => (p.1, ρ p.2)) with
              | some xs => K { v := .a (.c (.ow new xs.length)), rows := [.arr e T xs false], fz := fIds (parts.toList.map fun p => (p.1, ρ p.2)) }
              | none => none) else none
          | none => none
        | none => none
      | _ => none
    | none => none
  | .load t a => match E.ti t, ρ a with
    | some i, .a (.c (.pt p)) => loadK m p i fun o => K o.many
    | _, _ => none
  | .store t a x => match E.ti t, ρ a, ρ x with
    | some i, .a (.c (.pt p)), .a x => storeK m p i x fun o => K o.many
    | _, _, _ => none
  | .nilCheck x => match ρ x with
    | .a (.c (.pt p)) => K { v := .a (.c (.pt p)) }
    | _ => none
  | .binOp op t x y _ => match ρ x, ρ y with
    | .a (.ag xs), .a (.ag ys) => eqK E op t xs ys fun o => K o.many
    | fx, fy => match fltArg fx, fltArg fy with
      | some a, some b => fltK op a b fun o => K o.many
      | _, _ => binK E op t fx fy fun o => K o.many
  | .unOp op _ x => unK E op (ρ x) fun o => K o.many
  | .convert src dst x => convK E src dst (ρ x) fun o => K o.many
  | .makeFunc (.func f) first caps =>
    bif first.isEmpty then
      (match capsF (caps.toList.map ρ) with
      | some ps => K { v := .a (.c (.cl f ps)) }
      | none => none) else none
  | .makeSlice t l c => makeSliceK E new t (ρ l) (ρ c) fun o => K o.many
  | .slice t x lo hi mx => sliceK E m t (ρ x) (lo.map ρ) (hi.map ρ) (mx.map ρ) fun o => K o.many
  | .fieldAddr s x f => fieldAddrK E s (ρ x) f fun o => K o.many
  | .field t x f => fieldK E t (ρ x) f fun o => K o.many
  | .indexAddr t x ix => indexAddrK E m t (ρ x) (ρ ix) fun o => K o.many
  | .index t x ix => indexK E t (ρ x) (ρ ix) fun o => K o.many
  | .extract t ix => match ρ t with
    | .tp xs => match xs[ix]? with
      | some x => K { v := .a x }
      | none => none
    | _ => none
  | .call c => match c.callee with
    | .builtin b => match b, c.args.toList.map ρ, c.argTypes.toList with
      | .len, [x], [t] => lenK E t x fun o => K o.many
      | .append, [x, y], [t, t2] => appendK E m new t t2 x y fun o => K o.many
      | .max, .a (.c (.sc a)) :: r, _ => match foldV maxV a r with
        | some v => K (outV v).many
        | none => none
      | .min, .a (.c (.sc a)) :: r, _ => match foldV minV a r with
        | some v => K (outV v).many
        | none => none
      | _, _, _ => none
    | .value g => match ρ g with
      | .a (.c (.cl f ps)) => match E.sg f with
        | none => bif ps.isEmpty then (match extV E.P f (c.args.toList.map ρ) with
          | some v => K (outV v).many
          | none => none) else none
        | some _ => callK E m new f (c.args.toList.map ρ ++ ps.map fun p => .a (.c (.pt p))) K
      | _ => none
    | _ => none
  | _ => none

def setM : List (Option Row) → Nat → Option Row → List (Option Row)
  | [], 0, r => [r]
  | [], i + 1, r => none :: setM [] i r
  | _ :: m, 0, r => r :: m
  | x :: m, i + 1, r => x :: setM m i r

def putRows : List (Option Row) → Nat → List Row → List (Option Row)
  | m, _, [] => m
  | m, n, r :: rs => putRows (setM m n (some r)) (n + 1) rs

def setUps (m : List (Option Row)) : List (Nat × Row) → List (Option Row)
  | [] => m
  | (i, r) :: l => setM (setUps m l) i (some r)

def freezeM (m : List (Option Row)) : List Nat → List (Option Row)
  | [] => m
  | id :: r => freezeM (setM m id ((getM m id).map Row.freeze)) r

def putF (dst : Option Nat) (x : F) (fr : List (Nat × F)) : List (Nat × F) :=
  match dst with
  | some d => (d, x) :: fr
  | none => fr

def applyOut (s : S) (dst : Option Nat) (new : Nat) (o : OutM) : S :=
  { fr := putF dst o.v s.fr,
    mem := putRows (freezeM (setUps (match o.upd with | some (id, r) => setM s.mem id r | none => s.mem) o.ups) o.fz) new o.rows,
    nx := s.nx }

def dstOk (nt : Nat) : Option Nat → Bool
  | none => true
  | some d => Nat.blt d nt

def opsK (ck : Nat → List (Option Row) → OutM → Bool) (nt base : Nat) (ops : Array Oper) (vw : Nat → List (Option Row) → Nat → Option Row) : List Nat → S → (S → Option R) → Option R
  | [], s, K => K s
  | i :: r, s, K => match ops[i]? with
    | none => none
    | some o => bif dstOk nt o.dst then
      (let go (_ : Unit) : Option R := aopK E (vw i s.mem) (base + 4 * i) (evalF s.fr) o.op fun out =>
        bif ck i s.mem out then none else opsK ck nt base ops vw r (applyOut s o.dst (base + 4 * i) out) K
      match o.guard with
      | none => go ()
      | some (j, want) => match ops[j]? with
        | some oj => match oj.dst with
          | some d => match getF s.fr d with
            | .a (.c (.sc (.bool b))) => ifs (b = want) (go ()) (opsK ck nt base ops vw r (applyOut s o.dst (base + 4 * i) { v := F.un }) K)
            | .tp [] => opsK ck nt base ops vw r (applyOut s o.dst (base + 4 * i) { v := F.un }) K
            | _ => none
          | none => none
        | none => none) else none

end
end Go.Proofs.Ytefhcmkiachphaa.Ab
end
section
/- The machine over plain data: the run of a function, with its loops cut at their heads, and the limit over all bounds on the rounds. No condition: these are definitions, and that the limit answers as_ one round more does. -/
namespace Go.Proofs.Ytefhcmkiachphaa.Ab
open Go Go.RowKit

/-! ### Where a run is cut: what is kept, and the rows numbered anew -/
def posOf : List Nat → Nat → Option Nat
  | [], _ => none
  | x :: r, id => bif Nat.beq x id then some 0 else match posOf r id with
    | some k => some (k + 1)
    | none => none

def renP (ids : List Nat) : Pt → Option Pt
  | .own id i j => match posOf ids id with
    | some k => some (.own k i j)
    | none => none
  | .sh T d j => some (.sh T d j)

def renPs (ids : List Nat) : List Pt → Option (List Pt)
  | [] => some []
  | p :: r => match renP ids p with
    | some p' => match renPs ids r with
      | some r' => some (p' :: r')
      | none => none
    | none => none

def renC (ids : List Nat) : C → C
  | .ow id len => match posOf ids id with
    | some k => .ow k len
    | none => .jk
  | .pt p => match renP ids p with
    | some p' => .pt p'
    | none => .jk
  | .cl f ps => match renPs ids ps with
    | some ps' => .cl f ps'
    | none => .jk
  | x => x

def renA (ids : List Nat) : A → A
  | .c x => .c (renC ids x)
  | .ag cs => .ag (cs.map (renC ids))

def renF (ids : List Nat) : F → F
  | .a x => .a (renA ids x)
  | .tp xs => .tp (xs.map (renA ids))

def renRow (ids : List Nat) : Row → Row
  | .box t T cs fz => .box t T (cs.map (renC ids)) fz
  | .arr e T xs fz => .arr e T xs fz

def ptIds : Pt → List Nat
  | .own id _ _ => [id]
  | .sh .. => []

def dirIds : C → List Nat
  | .ow id _ => [id]
  | .pt p => ptIds p
  | .cl _ ps => ps.flatMap ptIds
  | _ => []

def addNew : List Nat → List Nat → List Nat
  | acc, [] => acc
  | acc, x :: r => match posOf acc x with
    | some _ => addNew acc r
    | none => addNew (acc ++ [x]) r

def rowIds (mem : List (Option Row)) (id : Nat) : List Nat :=
  match getM mem id with
  | some (.box _ _ cs _) => cs.flatMap dirIds
  | _ => []

def closeIds (mem : List (Option Row)) : Nat → List Nat → List Nat
  | 0, ids => ids
  | n + 1, ids => closeIds mem n (addNew ids (ids.flatMap (rowIds mem)))

def fDirIds : F → List Nat
  | .a x => x.cells.flatMap dirIds
  | .tp xs => xs.flatMap fun x => x.cells.flatMap dirIds

def nilOne (k : LK) (x : F) (n : Nat) : Option (F × Row) :=
  match k, x with
  | .own e T, .a (.c .nl) => some (.a (.c (.ow n 0)), .arr e T [] false)
  | _, _ => none

def nilFr : List (Nat × LK) → List (Nat × F) → List (Option Row) → S
  | [], fr, mem => { fr := fr, mem := mem, nx := mem.length }
  | _ :: _, [], mem => { fr := [], mem := mem, nx := mem.length }
  | l :: live, p :: fr, mem =>
    match nilOne l.2 p.2 mem.length with
    | some (y, r) =>
      let s := nilFr live fr (mem ++ [some r])
      { fr := (p.1, y) :: s.fr, mem := s.mem, nx := s.nx }
    | none =>
      let s := nilFr live fr mem
      { fr := p :: s.fr, mem := s.mem, nx := s.nx }

def rangeL : Nat → Nat → List Nat
  | _, 0 => []
  | i, n + 1 => i :: rangeL (i + 1) n

/-- 'nio': so many rows, the first ones, are variables of the caller's; they keep their numbers. -/
def canon0 (nio : Nat) (live : List (Nat × LK)) (s : S) : S :=
  let ids := closeIds s.mem 3 (addNew (rangeL 0 nio) (live.flatMap fun x => fDirIds (getF s.fr x.1)))
  nilFr live (live.map fun x => (x.1, renF ids (getF s.fr x.1))) (ids.map fun id => (getM s.mem id).map (renRow ids))

/-- A nil slice in a variable's cell becomes an empty one of the call's own. -/
def fixOne (id : Nat) (x : Nat × TypeId × Ty) (s : S) : S :=
  match getM s.mem id with
  | some (.box t T0 cells fz) => match cells[x.1]? with
    | some .nl => { fr := s.fr, mem := setM (setM s.mem id (some (.box t T0 (cells.set x.1 (.ow s.nx 0)) fz))) s.nx (some (.arr x.2.1 x.2.2 [] false)), nx := s.nx + 1 }
    | _ => s
  | _ => s

def fixCs (id : Nat) : List (Nat × TypeId × Ty) → S → S
  | [], s => s
  | x :: l, s => fixCs id l (fixOne id x s)

def fixF (x : F) (l : List (Nat × TypeId × Ty)) (s : S) : S :=
  match x with
  | .a (.c (.pt (.own id 0 0))) => fixCs id l s
  | _ => s

def fixAll : List (Nat × LK) → S → S
  | [], s => s
  | (t, .cells l) :: r, s => fixAll r (fixF (getF s.fr t) l s)
  | _ :: r, s => fixAll r s

/-- Slices of the call's own, of a slot or of the variable that it points to, become data that nobody writes. -/
def shareA (m : Nat → Option Row) : A → A
  | .c x => .c (reC0 m x)
  | .ag cs => .ag (cs.map (reC0 m))

def shareS (t : Nat) (s : S) : S :=
  match getF s.fr t with
  | .a x => match x with
    | .c (.pt (.own id 0 0)) => match getM s.mem id with
      | some (.box ty T0 cells fz) => bif (owIds cells).any (Nat.beq id) then s else
        { fr := s.fr, mem := setM (freezeM s.mem (owIds cells)) id (some (.box ty T0 (cells.map (reC0 (getM s.mem))) fz)), nx := s.nx }
      | _ => s
    | x => { fr := (t, .a (shareA (getM s.mem) x)) :: s.fr, mem := freezeM s.mem (owIds x.cells), nx := s.nx }
  | _ => s

def shareAll : List (Nat × LK) → S → S
  | [], s => s
  | (t, .sh) :: r, s => shareAll r (shareS t s)
  | _ :: r, s => shareAll r s

def canonS (nio : Nat) (live : List (Nat × LK)) (s : S) : S := fixAll live (canon0 nio live (shareAll live s))

/-! ### The end of a function -/
section
variable (E : Env)

def resA (s : S) : ResultVar → Option A
  | .tmp t => match getF s.fr t with
    | .a x => some x
    | _ => none
  | .cell a t => match getF s.fr a, E.ti t with
    | .a (.c (.pt p)), some i => loadK (getM s.mem) p i fun o => match o.v with | .a x => some x | _ => none
    | _, _ => none

def owCs (x : A) : List Nat := owIds x.cells

def finOne (m : Nat → Option Row) : RT → A → Option RV
  | .d T, x => bif shapeOk T x then (match prj T (x.cells.map (reC0 m)) with
    | some d => some (.d (inj T d))
    | none => none) else none
  | .own e T, .c .nl => some (.own e T [])
  | .own e T, .c (.ow id len) => match m id with
    | some (.arr e' T' xs false) => bif Nat.beq e' e then (if h : T' = T then some (.own e T (castL h (xs.take len))) else none) else none
    | _ => none
  | _, _ => none

/-- A row that is handed out is named in no other result. 'seen': what earlier results named. -/
def finR (s : S) : List ResultVar → List RT → (out seen : List Nat) → Option (List RV)
  | [], [], _, _ => some []
  | v :: vs, r :: rs, out, seen => match resA E s v with
    | some x =>
      let ids := owCs x
      bif ids.any (fun i => out.any (Nat.beq i)) || (match r with | .own .. => ids.any (fun i => seen.any (Nat.beq i)) | .d _ => false) then none else
      (match finOne (getM s.mem) r x with
      | some y => match finR s vs rs (match r with | .own .. => ids ++ out | .d _ => out) (ids ++ seen) with
        | some ys => some (y :: ys)
        | none => none
      | none => none)
    | none => none
  | _, _, _, _ => none

/-- What stands at the end in the caller's variables. -/
def finIO (m : Nat → Option Row) : List (Nat × TypeId × Ty) → Nat → Option (List A)
  | [], _ => some []
  | x :: r, k => match arrT x.2.2 with
   | some T => (match m k with
    | some (.arr e T' l false) => bif Nat.beq e x.2.1 then (if T' = T then (match finIO m r (k + 1) with
        | some os => some (.ag [.sl T' l] :: os)
        | none => none) else none) else none
    | _ => none)
   | none => match m k with
    | some (.box t (some T) cs false) => bif Nat.beq t x.2.1 then (if T = x.2.2 then (match prj x.2.2 (cs.map (reC0 m)) with
      | some d => match finIO m r (k + 1) with
        | some l => some (inj x.2.2 d :: l)
        | none => none
      | none => none) else none) else none
    | _ => none

def ioIds (m : Nat → Option Row) : List (Nat × TypeId × Ty) → Nat → List Nat
  | [], _ => []
  | _ :: r, k => (match m k with | some (.box _ _ cs _) => owIds cs | _ => []) ++ ioIds m r (k + 1)

def finS (N : Note) (s : S) : Option (List RV) :=
  match N.ios with
  | [] => finR E s N.res N.rts [] []
  | _ :: _ => match finIO (getM s.mem) N.ios 0 with
    | some os => bif (ioIds (getM s.mem) N.ios 0).any (fun i => (rangeL 0 N.ios.length).any (Nat.beq i)) then none else
      match finR E s N.res N.rts (rangeL 0 N.ios.length) (ioIds (getM s.mem) N.ios 0 ++ rangeL 0 N.ios.length) with
      | some rs => some (rs ++ os.map RV.d)
      | none => none
    | none => none

/-! ### Regions whose order is drawn -/
def maskOf : List Go.Edge → List Nat → Nat
  | [], _ => 0
  | e :: r, acc => (bif Region.binds .any e then 2 ^ e.on ||| acc.getD e.on 0 else 0) ||| maskOf r acc

def masks : List Oper → List Nat → List Nat
  | [], acc => acc
  | o :: r, acc => masks r (acc ++ [maskOf o.after.toList acc])

def isE2 (o : Oper) : Bool :=
  match o.op with
  | .store .. => true
  | .call c => match c.callee with
    | .builtin .append => true
    | _ => false
  | _ => false

def ordered (M : List Nat) (i j : Nat) : Bool := (M.getD j 0).testBit i || (M.getD i 0).testBit j

def pairOk (ops : Array Oper) (M : List Nat) (o : Oper) (i : Nat) : Nat → List Oper → Bool
  | _, [] => true
  | j, o' :: r => (Nat.beq i j || ordered M i j || o.apart ops o') && pairOk ops M o i (j + 1) r

def opOk (i : Nat) (o : Oper) : Bool :=
  (match o.op with | .select .. => false | _ => true) && o.after.toList.all fun e => !Region.binds .any e || Nat.blt e.on i

def allOk (ops : Array Oper) (M : List Nat) : Nat → List Oper → Bool
  | _, [] => true
  | i, o :: r => opOk i o && pairOk ops M o i 0 ops.toList && allOk ops M (i + 1) r

def drawOk (ops : Array Oper) (M : List Nat) : Bool := allOk ops M 0 ops.toList

/-- The row that a slot of a region points into, as_ the slots stand at its begin. -/
def defAt : List Oper → Nat → Nat → Option (Nat × Op)
  | [], _, _ => none
  | o :: r, k, a => match o.dst with
    | some d => bif Nat.beq d a then some (k, o.op) else defAt r (k + 1) a
    | none => defAt r (k + 1) a
/-- 'base': the number of the region's first new row. -/
def rootOf (base : Nat) (ops : List Oper) (fr : List (Nat × F)) : Nat → Nat → Option Nat
  | 0, _ => none
  | n + 1, a => match defAt ops 0 a with
    | some (k, op) => match op with
      | .fieldAddr _ (.tmp b) _ => rootOf base ops fr n b
      | .indexAddr _ (.tmp b) _ => rootOf base ops fr n b
      | .nilCheck (.tmp b) => rootOf base ops fr n b
      | .move (.tmp b) => rootOf base ops fr n b
      | .buildSlice .. | .makeSlice .. | .alloc .. | .box .. => some (base + 4 * k)
      | .call c => match c.callee with
        | .builtin .append | .value _ => some (base + 4 * k)
        | _ => none
      | _ => none
    | none => match getF fr a with
      | .a (.c (.pt (.own id _ _))) => some id
      | .a (.c (.ow id _)) => some id
      | _ => none
def isCallV (o : Oper) : Bool :=
  match o.op with
  | .call c => match c.callee with
    | .value _ => true
    | _ => false
  | _ => false
/-- May it write? -/
def mayW (o : Oper) : Bool := isE2 o || isCallV o
def opRoot (base : Nat) (ops : List Oper) (fr : List (Nat × F)) : Operand → Option Nat
  | .tmp a => rootOf base ops fr 8 a
  | _ => none
/-- What a call's value is: the function, and the rows of what it captured. -/
def calOf (base : Nat) (ops : List Oper) (fr : List (Nat × F)) : Nat → Operand → Option (FuncId × List (Option Nat))
  | 0, _ => none
  | n + 1, x => match x with
    | .func f => some (f, [])
    | .tmp a => match defAt ops 0 a with
      | some (_, op) => match op with
        | .makeFunc (.func f) _ caps => some (f, caps.toList.map (opRoot base ops fr))
        | .move y => calOf base ops fr n y
        | .assign y => calOf base ops fr n y
        | _ => none
      | none => match getF fr a with
        | .a (.c (.cl f ps)) => some (f, ps.map fun | .own id _ _ => some id | _ => none)
        | _ => none
    | _ => none
def allSome : List (Option Nat) → Option (List Nat)
  | [] => some []
  | some x :: r => (allSome r).map (x :: ·)
  | none :: _ => none
/-- Which rows an operation writes, as_ far as_ the region's begin tells. -/
def wrOf (sg : FuncId → Option Sig) (base : Nat) (ops : List Oper) (fr : List (Nat × F)) (o : Oper) : Option (List Nat) :=
  match o.op with
  | .store _ (.tmp a) _ => (rootOf base ops fr 8 a).map fun x => [x]
  | .call c => match c.callee with
    | .builtin _ => match c.args.toList with
      | .tmp a :: _ => (rootOf base ops fr 8 a).map fun x => [x]
      | _ => none
    | .value g => match calOf base ops fr 4 g with
      | some (f, caps) => match sg f with
        | some s => allSome (s.ios.map fun x => ((c.args.toList.map (opRoot base ops fr)) ++ caps).getD x.1 none)
        | none => none
      | none => none
    | _ => none
  | _ => none
/-- Each by those ahead of it. -/
def wlGo (sg : FuncId → Option Sig) (base : Nat) (fr : List (Nat × F)) : List Oper → List Oper → List (Option (List Nat))
  | _, [] => []
  | pre, o :: r => wrOf sg base pre fr o :: wlGo sg base fr (pre ++ [o]) r
def wlOf (sg : FuncId → Option Sig) (base : Nat) (fr : List (Nat × F)) (ops : List Oper) : List (Option (List Nat)) := wlGo sg base fr [] ops
def wHit (wl : List (Option (List Nat))) (j id : Nat) : Bool :=
  match wl.getD j none with
  | some l => l.any (Nat.beq id)
  | none => true
def wNone (wl : List (Option (List Nat))) (j : Nat) : Bool :=
  match wl.getD j none with
  | some [] => true
  | _ => false
/-- Does it write, as_ far as_ is foreseen? -/
def wrB (wl : List (Option (List Nat))) (j : Nat) (o : Oper) : Bool := isE2 o || (isCallV o && !wNone wl j)
/-- Does an operation that writes stand in no order with this one? -/
def beside (M : List Nat) (wl : List (Option (List Nat))) (i : Nat) : Nat → List Oper → Bool
  | _, [] => false
  | j, o :: r => (wrB wl j o && !Nat.beq i j && !ordered M i j) || beside M wl i (j + 1) r
/-- Does an operation that writes this row stand in no order with this one? -/
def besideW (M : List Nat) (wl : List (Option (List Nat))) (i id : Nat) : Nat → List Oper → Bool
  | _, [] => false
  | j, o :: r => (mayW o && !Nat.beq i j && !ordered M i j && wHit wl j id) || besideW M wl i id (j + 1) r

/-- What an operation of such a region may look at: what stood at its begin, and what those ahead of it made. -/
def vwD (base : Nat) (ops : Array Oper) (M : List Nat) (wl : List (Option (List Nat))) (i : Nat) (mem : List (Option Row)) (id : Nat) : Option Row :=
  bif besideW M wl i id 0 ops.toList then none
  else bif Nat.blt id base then getM mem id
  else bif (M.getD i 0).testBit ((id - base) / 4) then getM mem id else none
/-- The same, where nobody writes anything beside. -/
def vwD0 (base : Nat) (ops : Array Oper) (M : List Nat) (wl : List (Option (List Nat))) (i : Nat) (mem : List (Option Row)) (id : Nat) : Option Row :=
  bif beside M wl i 0 ops.toList then none
  else bif Nat.blt id base then getM mem id
  else bif (M.getD i 0).testBit ((id - base) / 4) then getM mem id else none
/-- What may not be: a row frozen that another one writes beside; a row written that was not foreseen. -/
def ckD (base : Nat) (ops : Array Oper) (M : List Nat) (wl : List (Option (List Nat))) (i : Nat) (mem : List (Option Row)) (out : OutM) : Bool :=
  !(out.fz.all fun id => (vwD0 base ops M wl i mem id).isSome) || (match out.upd with | some (id, _) => !wHit wl i id || !(match ops[i]? with | some o => isE2 o | none => false) | none => false) || out.ups.any fun x => !wHit wl i x.1

/-! ### The run -/
def lookN {α : Type} : List (Nat × α) → Nat → Option α
  | [], _ => none
  | (k, v) :: r, t => bif Nat.beq k t then some v else lookN r t

def firstReg : Code → Option Nat
  | .region id _ _ => some id
  | .seq a _ => firstReg a
  | .block _ c => firstReg c
  | .scope c => firstReg c
  | .cond _ a b => match firstReg a with | some i => some i | none => firstReg b
  | .loop c => firstReg c
  | _ => none

def run (N : Note) (cutQ : List Item → S → Option (List RV)) : Nat → Bool → List Item → S → Option (List RV)
  | 0, _, _, _ => none
  | n + 1, ex, todo, s =>
    match todo with
    | [] => finS E N s
    | .code c :: k =>
      match c with
      | .skip => run N cutQ n false k s
      | .label _ => run N cutQ n false k s
      | .region id ops draw =>
        match (bif ex then none else lookN N.joins id) with
        | some live => cutQ (.code c :: k) (canonS N.ios.length live s)
        | none =>
          bif draw then
            (let M := masks ops.toList []
            let wl := wlOf E.sg s.nx s.fr ops.toList
            bif drawOk ops M then opsK E (ckD s.nx ops M wl) N.nt s.nx ops (vwD s.nx ops M wl) (rangeL 0 ops.size) s fun s' => run N cutQ n false k { fr := s'.fr, mem := s'.mem, nx := s.nx + 4 * ops.size } else none)
          else opsK E (fun _ _ _ => false) N.nt s.nx ops (fun _ mem => getM mem) (rangeL 0 ops.size) s fun s' => run N cutQ n false k { fr := s'.fr, mem := s'.mem, nx := s.nx + 4 * ops.size }
      | .seq a b => run N cutQ n ex (.code a :: .code b :: k) s
      | .cond c a b => match evalF s.fr c with
        | .a (.c (.sc (.bool t))) => ifs (t = true) (run N cutQ n false (.code a :: k) s) (run N cutQ n false (.code b :: k) s)
        | _ => none
      | .block id b => run N cutQ n ex (.code b :: .inBlock id :: k) s
      | .scope b => run N cutQ n ex (.code b :: .inScope b :: k) s
      | .loop b => match firstReg b with
        | some id => match lookN N.loops id with
          | some live => cutQ (.code b :: .inLoop b :: k) (canonS N.ios.length live s)
          | none => none
        | none => none
      | .exit id => match exitTo id k with
        | some k' => run N cutQ n false k' s
        | none => none
      | .ret => finS E N s
      | _ => none
    | .inBlock _ :: k => run N cutQ n false k s
    | .inScope _ :: k => run N cutQ n false k s
    | .inLoop b :: k => match firstReg b with
      | some id => match lookN N.loops id with
        | some live => cutQ (.code b :: .inLoop b :: k) (canonS N.ios.length live s)
        | none => none
      | none => none
    | _ => none
end

/-! ### Rounds, and the limit -/
structure Wd where
  P : Program
  ti : TypeId → Option TI
  sg : FuncId → Option Sig
  fns : FuncId → Option (Code × Note)
  ext : FuncId → Option (List A → Option (List RV))
  eat : FuncId → Bool := fun _ => false

def initS : Nat → List A → List (Nat × F)
  | _, [] => []
  | i, x :: r => (i, .a x) :: initS (i + 1) r

/-- The caller's variables, as_ rows. -/
def ioMem : List (Nat × TypeId × Ty) → List A → List (Option Row)
  | x :: xs, a :: as_ => some (ioRow x a) :: ioMem xs as_
  | _, _ => []

def envOf (W : Wd) (call : FuncId → List A → Option (List RV)) : Env := { P := W.P, ti := W.ti, sg := W.sg, call := call }

def big : Nat := 100000

def callStep (W : Wd) (call : FuncId → List A → Option (List RV)) (cut : Note → List Item → S → Option (List RV)) (f : FuncId) (args : List A) : Option (List RV) :=
  match W.ext f with
  | some g => g args
  | none => match W.fns f with
    | some (c, N) => match N.ios with
      | [] => run (envOf W call) N (cut N) big true [.code c] { fr := initS 0 args, mem := [], nx := 0 }
      | _ :: _ => run (envOf W call) N (cut N) big true [.code c] { fr := initS 0 (args.take N.na), mem := ioMem N.ios (args.drop N.na), nx := N.ios.length }
    | none => none

def cutStep (W : Wd) (call : FuncId → List A → Option (List RV)) (cut : Note → List Item → S → Option (List RV)) (N : Note) (todo : List Item) (s : S) : Option (List RV) :=
  run (envOf W call) N (cut N) big true todo s

mutual
def callN (W : Wd) : Nat → FuncId → List A → Option (List RV)
  | 0, _, _ => none
  | k + 1, f, args => callStep W (callN W k) (cutN W k) f args
def cutN (W : Wd) : Nat → Note → List Item → S → Option (List RV)
  | 0, _, _, _ => none
  | k + 1, N, todo, s => cutStep W (callN W k) (cutN W k) N todo s
end

noncomputable def limO {α : Type} (g : Nat → Option α) : Option α :=
  open Classical in if h : ∃ r k, g k = some r then some h.choose else none

noncomputable def callW (W : Wd) (f : FuncId) (args : List A) : Option (List RV) := limO fun k => callN W k f args
noncomputable def cutW (W : Wd) (N : Note) (todo : List Item) (s : S) : Option (List RV) := limO fun k => cutN W k N todo s

end Go.Proofs.Ytefhcmkiachphaa.Ab
end
section
/- How the machine's data stand in Go's memory, and that this stays where nothing of it is written. No condition. -/
set_option linter.unusedVariables false
set_option linter.unusedSimpArgs false
namespace Go.Proofs.Ytefhcmkiachphaa.Ab
open Go Go.RowKit

/-- What a call may write: blocks that are new since its begin, and some elder ones that were handed to it to write. -/
structure Base where
  n : Nat
  own : Nat → Prop
def Base.may (B : Base) (b : Nat) : Prop := B.n ≤ b ∨ B.own b
abbrev base0 (n : Nat) : Base := ⟨n, fun _ => False⟩

/-- All else is as_ it was. -/
structure Bel (B : Base) (w w' : World) : Prop where
  os : w'.os = w.os
  tape : w'.tape = w.tape
  output : w'.output = w.output
  size : w.heap.size ≤ w'.heap.size
  block : ∀ k, k < B.n → ¬ B.own k → w'.heap[k]? = w.heap[k]?
theorem Bel.refl (B : Base) (w : World) : Bel B w w := ⟨rfl, rfl, rfl, Nat.le_refl _, fun _ _ _ => rfl⟩
theorem Bel.trans {B : Base} {a b c : World} (h : Bel B a b) (k : Bel B b c) : Bel B a c :=
  ⟨k.os.trans h.os, k.tape.trans h.tape, k.output.trans h.output, Nat.le_trans h.size k.size, fun i hi hn => (k.block i hi hn).trans (h.block i hi hn)⟩
theorem Bel.of {B : Base} {n : Nat} {w w' : World} (h : Below n w w') (hn : B.n ≤ n) : Bel B w w' := ⟨h.os, h.tape, h.output, h.size, fun k hk _ => h.block k (Nat.lt_of_lt_of_le hk hn)⟩
theorem Bel.to {n : Nat} {w w' : World} (h : Bel (base0 n) w w') : Below n w w' := ⟨h.os, h.tape, h.output, h.size, fun k hk => h.block k hk (fun x => x)⟩
theorem Bel.drew {B : Base} {a w : World} (h : Bel B a w) : Bel B a w.drew := ⟨h.os, h.tape, h.output, h.size, h.block⟩
theorem Bel.alloc {B : Base} {a w : World} (h : Bel B a w) (hB : B.n ≤ w.heap.size) (o : Obj) : Bel B a (w.alloc o) :=
  h.trans (Bel.of ((Below.refl w.heap.size w).alloc (Nat.le_refl _) o) hB)

abbrev Stb := Nat → Nat → Prop

def At (w : World) (St : Stb) (b o : Nat) (l : List Value) : Prop :=
  ∀ j c, l[j]? = some c → St b (o + j) ∧ w.cell? ⟨b, o + j, none⟩ = some c

def RelT (w : World) (St : Stb) : (T : Ty) → List Value → T.den → Prop
  | .int k, l, n => l = [.int k n]
  | .bool, l, b => l = [.bool b]
  | .str, l, s => l = [.string s]
  | .flt k, l, b => l = [.float k b]
  | .unit, l, _ => l = []
  | .sl t, l, xs => ∃ c, l = [c] ∧ ((c = .slice none 0 0 ∧ xs = []) ∨ ∃ b o s cap, c = .slice (some ⟨b, o, s⟩) xs.length cap ∧ xs.length ≤ cap ∧
      ∀ (i : Nat) x, xs[i]? = some x → s = none ∧ ∃ l', RelT w St t l' x ∧ At w St b (o + i * t.w) l')
  | .pair a b, l, d => ∃ l1 l2, l = l1 ++ l2 ∧ RelT w St a l1 d.1 ∧ RelT w St b l2 d.2

def RelSl (w : World) (St : Stb) (t : Ty) (c : Value) (xs : List t.den) : Prop := RelT w St (.sl t) [c] xs

def Ext (w : World) (St : Stb) (w' : World) (St' : Stb) : Prop :=
  ∀ b o, St b o → St' b o ∧ w'.cell? ⟨b, o, none⟩ = w.cell? ⟨b, o, none⟩

theorem Ext.refl (w : World) (St : Stb) : Ext w St w St := fun _ _ h => ⟨h, rfl⟩
theorem Ext.trans {w w1 w2 : World} {St St1 St2 : Stb} (h : Ext w St w1 St1) (k : Ext w1 St1 w2 St2) : Ext w St w2 St2 :=
  fun b o hs => let ⟨a, e⟩ := h b o hs; let ⟨a', e'⟩ := k b o a; ⟨a', e'.trans e⟩

theorem At.mono {w w' : World} {St St' : Stb} (hE : Ext w St w' St') {b o : Nat} {l : List Value} (h : At w St b o l) : At w' St' b o l :=
  fun j c hj => let ⟨a, e⟩ := h j c hj; let ⟨a', e'⟩ := hE _ _ a; ⟨a', e'.trans e⟩

theorem RelT.mono {w w' : World} {St St' : Stb} (hE : Ext w St w' St') : ∀ (T : Ty) (l : List Value) (d : T.den), RelT w St T l d → RelT w' St' T l d
  | .int _, _, _, h | .bool, _, _, h | .str, _, _, h | .flt _, _, _, h | .unit, _, _, h => h
  | .sl t, l, xs, h => by
    obtain ⟨c, rfl, h⟩ := h
    refine ⟨c, rfl, h.imp id ?_⟩
    rintro ⟨b, o, s, cap, hc, hle, hx⟩
    exact ⟨b, o, s, cap, hc, hle, fun i x hi => let ⟨hs, l', hr, ha⟩ := hx i x hi; ⟨hs, l', RelT.mono hE t l' x hr, ha.mono hE⟩⟩
  | .pair a b, l, d, h => by
    obtain ⟨l1, l2, rfl, h1, h2⟩ := h
    exact ⟨l1, l2, rfl, RelT.mono hE a l1 d.1 h1, RelT.mono hE b l2 d.2 h2⟩

theorem RelT.length {w : World} {St : Stb} : ∀ (T : Ty) (l : List Value) (d : T.den), RelT w St T l d → l.length = T.w
  | .int _, _, _, h | .bool, _, _, h | .str, _, _, h | .flt _, _, _, h | .unit, _, _, h => by rw [show _ = _ from h]; rfl
  | .sl t, l, xs, h => by obtain ⟨c, rfl, h⟩ := h; rfl
  | .pair a b, l, d, h => by
    obtain ⟨l1, l2, rfl, h1, h2⟩ := h
    rw [List.length_append, RelT.length a l1 d.1 h1, RelT.length b l2 d.2 h2]; rfl

/-- No cell holds a struct or a tuple. -/
theorem RelT.one {w : World} {St : Stb} : ∀ (T : Ty) (l : List Value) (d : T.den), RelT w St T l d → ∀ c ∈ l, c.oneCell' = true
  | .int _, _, _, h | .bool, _, _, h | .str, _, _, h | .flt _, _, _, h | .unit, _, _, h => by
    rw [show _ = _ from h]; intro c hc; simp at hc; try (subst hc; rfl)
  | .sl t, l, xs, h => by
    obtain ⟨c, rfl, h⟩ := h
    intro c' hc'; simp at hc'; subst hc'
    rcases h with ⟨rfl, _⟩ | ⟨b, o, s, cap, rfl, _⟩ <;> rfl
  | .pair a b, l, d, h => by
    obtain ⟨l1, l2, rfl, h1, h2⟩ := h
    intro c hc
    rcases List.mem_append.1 hc with hc | hc
    · exact RelT.one a l1 d.1 h1 c hc
    · exact RelT.one b l2 d.2 h2 c hc

/-! ### Where the rows of the call's own lie -/
structure Loc where
  b : Option Nat
  cap : Nat
  k : Nat
  n : Nat

abbrev Bet := Nat → Option Loc

/-- The world in which a call begins, and the elder blocks that it may write. -/
structure Ent extends World where
  own : Nat → Prop
  bet : Bet
  nio : Nat
  bet0 : ∀ k, nio ≤ k → bet k = none
  betS : ∀ k, k < nio → ∃ loc, bet k = some loc
  ownb : ∀ b, own b → ∃ k loc, bet k = some loc ∧ loc.b = some b
abbrev Ent.base (w : Ent) : Base := ⟨w.heap.size, w.own⟩

def RelP (w : World) (St Q : Stb) (β : Bet) (c : Value) : Pt → Prop
  | .own id i j => ∃ b cap k n, β id = some ⟨some b, cap, k, n⟩ ∧ c = .pointer (some ⟨b, i * k + j, none⟩)
  | .sh T d j => ∃ b o l, c = .pointer (some ⟨b, o + j, none⟩) ∧ RelT w St T l d ∧ At w (fun b o => Q b o ∨ St b o) b o l

def All2 {α β : Type} (R : α → β → Prop) : List α → List β → Prop
  | [], [] => True
  | a :: l, b :: m => R a b ∧ All2 R l m
  | _, _ => False

theorem All2.imp {α β : Type} {R S : α → β → Prop} (h : ∀ a b, R a b → S a b) : ∀ (l : List α) (m : List β), All2 R l m → All2 S l m
  | [], [], _ => trivial
  | a :: l, b :: m, ⟨h1, h2⟩ => ⟨h a b h1, All2.imp h l m h2⟩
  | [], _ :: _, h => h.elim
  | _ :: _, [], h => h.elim

theorem All2.length {α β : Type} {R : α → β → Prop} : ∀ (l : List α) (m : List β), All2 R l m → l.length = m.length
  | [], [], _ => rfl
  | a :: l, b :: m, ⟨_, h2⟩ => by simp [All2.length l m h2]
  | [], _ :: _, h => h.elim
  | _ :: _, [], h => h.elim

theorem All2.get {α β : Type} {R : α → β → Prop} : ∀ (l : List α) (m : List β), All2 R l m → ∀ (i : Nat) b, m[i]? = some b → ∃ a, l[i]? = some a ∧ R a b
  | a :: l, b :: m, ⟨h1, h2⟩, 0, b', h => by simp at h; subst h; exact ⟨a, rfl, h1⟩
  | a :: l, b :: m, ⟨h1, h2⟩, i + 1, b', h => by simpa using All2.get l m h2 i b' (by simpa using h)
  | [], [], _, _, _, h => by simp at h
  | [], _ :: _, h, _, _, _ => h.elim
  | _ :: _, [], h, _, _, _ => h.elim

theorem All2.append {α β : Type} {R : α → β → Prop} : ∀ (l : List α) (m : List β) (l' : List α) (m' : List β), All2 R l m → All2 R l' m' → All2 R (l ++ l') (m ++ m')
  | [], [], _, _, _, h => h
  | a :: l, b :: m, l', m', ⟨h1, h2⟩, h => ⟨h1, All2.append l m l' m' h2 h⟩
  | [], _ :: _, _, _, h, _ => h.elim
  | _ :: _, [], _, _, h, _ => h.elim

theorem All2.drop {α β : Type} {R : α → β → Prop} : ∀ (n : Nat) (l : List α) (m : List β), All2 R l m → All2 R (l.drop n) (m.drop n)
  | 0, _, _, h => by simpa using h
  | n + 1, [], [], _ => by simp [All2]
  | n + 1, a :: l, b :: m, ⟨_, h2⟩ => by simpa using All2.drop n l m h2
  | _ + 1, [], _ :: _, h => h.elim
  | _ + 1, _ :: _, [], h => h.elim

theorem All2.take {α β : Type} {R : α → β → Prop} : ∀ (n : Nat) (l : List α) (m : List β), All2 R l m → All2 R (l.take n) (m.take n)
  | 0, _, _, h => by simp [All2]
  | n + 1, [], [], _ => by simp [All2]
  | n + 1, a :: l, b :: m, ⟨h1, h2⟩ => by simpa [All2] using ⟨h1, All2.take n l m h2⟩
  | _ + 1, [], _ :: _, h => h.elim
  | _ + 1, _ :: _, [], h => h.elim

theorem All2.map {α β γ : Type} {R : α → β → Prop} {S : α → γ → Prop} {f : β → γ} (h : ∀ a b, R a b → S a (f b)) : ∀ (l : List α) (m : List β), All2 R l m → All2 S l (m.map f)
  | [], [], _ => trivial
  | a :: l, b :: m, ⟨h1, h2⟩ => ⟨h a b h1, All2.map h l m h2⟩
  | [], _ :: _, h => h.elim
  | _ :: _, [], h => h.elim

def RelC (w : World) (St Q : Stb) (β : Bet) (c : Value) : C → Prop
  | .sc v => c = v ∧ plain v = true
  | .sl T xs => RelSl w St T c xs
  | .nl => c = .slice none 0 0
  | .em => ∃ a cap, c = .slice (some a) 0 cap
  | .ow id len => ∃ loc, β id = some loc ∧ ((loc.b = none ∧ len = 0 ∧ c = .slice none 0 0) ∨ ∃ b, loc.b = some b ∧ c = .slice (some ⟨b, 0, none⟩) len loc.cap ∧ len ≤ loc.n)
  | .pt p => RelP w St Q β c p
  | .cl f ps => ∃ arr : Array Value, c = .func (.func f) #[] arr ∧ All2 (RelP w St Q β) arr.toList ps
  | .nan k => ∃ b, c = .float k b ∧ ∀ y, k.format.order b y = none ∧ k.format.order y b = none
  | .jk => True

def RelA (w : World) (St Q : Stb) (β : Bet) (c : Value) : A → Prop
  | .c x => RelC w St Q β c x
  | .ag cs => ∃ arr : Array Value, c = .agg arr ∧ All2 (RelC w St Q β) arr.toList cs

def RelF (w : World) (St Q : Stb) (β : Bet) (c : Value) : F → Prop
  | .a x => RelA w St Q β c x
  | .tp xs => ∃ arr : Array Value, c = .tuple arr ∧ All2 (RelA w St Q β) arr.toList xs

/-- What a later world and a later state keep. -/
structure Keep (w : World) (St : Stb) (β : Bet) (Q : Stb) (w' : World) (St' : Stb) (β' : Bet) : Prop where
  ext : Ext w St w' St'
  q : ∀ b o, Q b o → w'.cell? ⟨b, o, none⟩ = w.cell? ⟨b, o, none⟩
  bet : ∀ id l, β id = some l → β' id = some l

theorem Keep.refl (w : World) (St : Stb) (β : Bet) (Q : Stb) : Keep w St β Q w St β := ⟨.refl _ _, fun _ _ _ => rfl, fun _ _ h => h⟩
theorem Keep.trans {w w1 w2 : World} {St St1 St2 : Stb} {β β1 β2 : Bet} {Q : Stb} (h : Keep w St β Q w1 St1 β1) (k : Keep w1 St1 β1 Q w2 St2 β2) : Keep w St β Q w2 St2 β2 :=
  ⟨h.ext.trans k.ext, fun b o hq => (k.q b o hq).trans (h.q b o hq), fun id l hl => k.bet id l (h.bet id l hl)⟩

theorem RelP.mono {w w' : World} {St St' Q : Stb} {β β' : Bet} (hk : Keep w St β Q w' St' β') {c : Value} : ∀ {p : Pt}, RelP w St Q β c p → RelP w' St' Q β' c p
  | .own id i j, ⟨b, cap, k, n, hb, hc⟩ => ⟨b, cap, k, n, hk.bet _ _ hb, hc⟩
  | .sh T d j, ⟨b, o, l, hc, hr, ha⟩ => ⟨b, o, l, hc, hr.mono hk.ext, fun j c hj =>
    match ha j c hj with
    | ⟨.inl q, e⟩ => ⟨.inl q, (hk.q _ _ q).trans e⟩
    | ⟨.inr s, e⟩ => ⟨.inr (hk.ext _ _ s).1, (hk.ext _ _ s).2.trans e⟩⟩

theorem RelC.mono {w w' : World} {St St' Q : Stb} {β β' : Bet} (hk : Keep w St β Q w' St' β') {c : Value} : ∀ {x : C}, RelC w St Q β c x → RelC w' St' Q β' c x
  | .sc v, h => h
  | .sl T xs, h => RelT.mono hk.ext (.sl T) [c] xs h
  | .nl, h => h
  | .em, h => h
  | .nan _, h => h
  | .ow id len, ⟨loc, hb, h⟩ => ⟨loc, hk.bet _ _ hb, h⟩
  | .pt p, h => RelP.mono hk h
  | .cl f ps, ⟨arr, hc, h⟩ => ⟨arr, hc, All2.imp (fun _ _ => RelP.mono hk) _ _ h⟩
  | .jk, _ => trivial

theorem RelA.mono {w w' : World} {St St' Q : Stb} {β β' : Bet} (hk : Keep w St β Q w' St' β') {c : Value} : ∀ {x : A}, RelA w St Q β c x → RelA w' St' Q β' c x
  | .c x, h => RelC.mono hk h
  | .ag cs, ⟨arr, hc, h⟩ => ⟨arr, hc, All2.imp (fun _ _ => RelC.mono hk) _ _ h⟩

theorem RelF.mono {w w' : World} {St St' Q : Stb} {β β' : Bet} (hk : Keep w St β Q w' St' β') {c : Value} : ∀ {x : F}, RelF w St Q β c x → RelF w' St' Q β' c x
  | .a x, h => RelA.mono hk h
  | .tp xs, ⟨arr, hc, h⟩ => ⟨arr, hc, All2.imp (fun _ _ => RelA.mono hk) _ _ h⟩

/-- The elements of a slice among a block's cells. -/
def RelL (w : World) (St : Stb) (T : Ty) (l : List Value) (xs : List T.den) : Prop :=
  ∀ (i : Nat) x, xs[i]? = some x → RelT w St T ((l.drop (i * T.w)).take T.w) x

/-- A row and its block. 'n': how many of the block's cells it tells of. -/
inductive RowAt (w : World) (St Q : Stb) (β : Bet) (loc : Loc) : Row → Nat → Prop
  | box (t : TypeId) (T : Option Ty) (cells : List C) (fz : Bool) (b : Nat) (cur : Array Value) : loc = ⟨some b, 1, cells.length, 1⟩ → w.heap[b]? = some (.cells cur t (0, 0)) →
      All2 (RelC w St Q β) cur.toList cells → (∀ c ∈ cur.toList, c.oneCell' = true) → RowAt w St Q β loc (.box t T cells fz) cells.length
  | nil (e : TypeId) (T : Ty) (fz : Bool) (cap : Nat) : loc = ⟨none, cap, T.w, 0⟩ → RowAt w St Q β loc (.arr e T [] fz) 0
  | arr (e : TypeId) (T : Ty) (xs : List T.den) (fz : Bool) (b cap : Nat) (cur : Array Value) : loc = ⟨some b, cap, T.w, xs.length⟩ → w.heap[b]? = some (.cells cur e (0, 0)) →
      cur.size = cap * T.w → xs.length ≤ cap → cap ≤ maxLen → RelL w St T cur.toList xs → RowAt w St Q β loc (.arr e T xs fz) (xs.length * T.w)

def Row.n : Row → Nat
  | .box _ _ cs _ => cs.length
  | .arr _ T xs _ => xs.length * T.w

theorem RowAt.n_eq {w : World} {St Q : Stb} {β : Bet} {loc : Loc} {r : Row} {n : Nat} (h : RowAt w St Q β loc r n) : n = r.n := by
  cases h <;> simp [Row.n]

def Row.fz : Row → Bool
  | .box _ _ _ f => f
  | .arr _ _ _ f => f

def RowRel (w : World) (St Q : Stb) (β : Bet) (B : Base) (id : Nat) (r : Row) : Prop :=
  ∃ loc n, β id = some loc ∧ RowAt w St Q β loc r n ∧
    ∀ b, loc.b = some b → B.may b ∧ (∀ o, St b o → r.fz = true ∧ o < n) ∧ (r.fz = true → ∀ o, o < n → St b o)

structure MemRel (w : World) (St Q : Stb) (β : Bet) (B : Base) (m : Nat → Option Row) : Prop where
  row : ∀ id r, m id = some r → RowRel w St Q β B id r
  dist : ∀ id id' r r' l l' b, m id = some r → m id' = some r' → id ≠ id' → β id = some l → β id' = some l' → l.b = some b → l'.b ≠ some b

def StOK (w : World) (St : Stb) : Prop := ∀ b o, St b o → b < w.heap.size

end Go.Proofs.Ytefhcmkiachphaa.Ab
end
section
/- Each operation of the machine does what Go's does: those that write nothing. -/
set_option linter.unusedVariables false
set_option linter.unusedSimpArgs false
namespace Go.Proofs.Ytefhcmkiachphaa.Ab
open Go Go.RowKit

/-! ### What is known of types -/
def Dok (d : TypeDesc) : D → Prop
  | .int k => d = .int k
  | .float k => d = .float k
  | .bool => d = .bool
  | .string => d = .string
  | .slice e => d = .slice e
  | .array n e => d = .array n e
  | .struct fs => ∃ fa : Array Field, d = .struct fa ∧ fa.toList.map (fun f => (f.offset, f.type)) = fs
  | .other => match d with | .struct _ | .array .. => False | _ => True

def TIok (P : Program) (t : TypeId) (i : TI) : Prop :=
  ∃ d j, P.underlying t = some d ∧ P.info? t = some j ∧ j.size = i.size ∧ j.bytes = i.bytes ∧ j.zero = some i.zero ∧ Dok d i.desc

section
variable {P : Program}

theorem run_typeInfo' {t : TypeId} {j : TypeInfo} (h : P.info? t = some j) (w : World) : (typeInfo t).run P w = .ok j w := by
  simp [typeInfo, h]

theorem run_size {t : TypeId} {i : TI} (h : TIok P t i) (w : World) : (sizeOf t).run P w = .ok i.size w := by
  obtain ⟨d, j, h1, h2, h3, _⟩ := h
  simp [sizeOf, run_typeInfo' h2, h3]

theorem run_zero {t : TypeId} {i : TI} (h : TIok P t i) (w : World) : (zeroValue t).run P w = .ok i.zero w := by
  obtain ⟨d, j, h1, h2, h3, h4, h5, _⟩ := h
  simp [zeroValue, run_typeInfo' h2, h5]

theorem isAgg_of {d : TypeDesc} {x : D} (h : Dok d x) : (match d with | .struct _ | .array _ _ => true | _ => false) = isAggD x := by
  cases x <;> simp only [Dok] at h
  case struct fs => obtain ⟨fa, rfl, _⟩ := h; rfl
  case other => cases d <;> simp_all [isAggD]
  all_goals (subst h; rfl)

theorem run_isAgg {t : TypeId} {i : TI} (h : TIok P t i) (w : World) : (isAgg t).run P w = .ok (isAggD i.desc) w := by
  obtain ⟨d, j, h1, h2, h3, h4, h5, h6⟩ := h
  rw [← isAgg_of h6]
  simp only [isAgg, Sem.run_bind, run_underlying h1, Result.andThen_ok]
  cases d <;> rfl

/-- Sem that touches no memory. -/
theorem free_run {α : Type} (s : Sem α) : ∀ {a : α}, free P s = some a → ∀ w, s.run P w = .ok a w := by
  induction s with
  | pure a => intro b h w; simp [free] at h; subst h; rfl
  | program k ih => intro b h w; simp only [free] at h; simpa [Sem.run] using ih P h w
  | mark m k ih => intro b h w; simp only [free] at h; simpa [Sem.run] using ih h w
  | _ => intro b h; simp [free] at h

/-! ### Cells and data -/
theorem rel_inj (w : World) (St Q : Stb) (β : Bet) : ∀ (T : Ty) (l : List Value) (d : T.den), RelT w St T l d → All2 (RelC w St Q β) l (injC T d)
  | .int k, l, n, h => by rw [show l = [.int k n] from h]; exact ⟨⟨rfl, rfl⟩, trivial⟩
  | .bool, l, n, h => by rw [show l = [.bool n] from h]; exact ⟨⟨rfl, rfl⟩, trivial⟩
  | .str, l, n, h => by rw [show l = [.string n] from h]; exact ⟨⟨rfl, rfl⟩, trivial⟩
  | .flt k, l, n, h => by rw [show l = [.float k n] from h]; exact ⟨⟨rfl, rfl⟩, trivial⟩
  | .unit, l, n, h => by rw [show l = [] from h]; trivial
  | .sl t, l, xs, h => by
    have h' := h
    obtain ⟨c, rfl, h⟩ := h
    exact ⟨h', trivial⟩
  | .pair a b, l, d, h => by
    obtain ⟨l1, l2, rfl, h1, h2⟩ := h
    exact All2.append _ _ _ _ (rel_inj w St Q β a l1 d.1 h1) (rel_inj w St Q β b l2 d.2 h2)

theorem em_sl {w : World} {St Q : Stb} {β : Bet} {T : Ty} {c : Value} (h : RelC w St Q β c .em) : RelT w St (.sl T) [c] [] := by
  obtain ⟨⟨b, o, s⟩, cap, rfl⟩ := h
  exact ⟨_, rfl, .inr ⟨b, o, s, cap, rfl, Nat.zero_le _, fun i x hx => by simp at hx⟩⟩

theorem castL_rel {w : World} {St : Stb} {t' t : Ty} (h : t' = t) {c : Value} {xs : List t'.den} (hr : RelT w St (.sl t') [c] xs) : RelT w St (.sl t) [c] (castL h xs) := by
  subst h; exact hr

theorem rel_prjC (w : World) (St Q : Stb) (β : Bet) : ∀ (T : Ty) (cs : List C) (l : List Value) (d : T.den) (r : List C), All2 (RelC w St Q β) l cs → prjC T cs = some (d, r) →
    ∃ l1 l2, l = l1 ++ l2 ∧ RelT w St T l1 d ∧ All2 (RelC w St Q β) l2 r
  | .int k, cs, l, d, r, h, hp => by
    unfold prjC at hp
    split at hp
    · rename_i k' n r' 
      split at hp
      · rename_i hk; subst hk; cases hp
        cases l with
        | nil => exact h.elim
        | cons c l => obtain ⟨⟨rfl, _⟩, h⟩ := h; exact ⟨[_], l, rfl, rfl, h⟩
      · cases hp
    · cases hp
  | .bool, cs, l, d, r, h, hp => by
    unfold prjC at hp
    split at hp
    · cases hp
      cases l with
      | nil => exact h.elim
      | cons c l => obtain ⟨⟨rfl, _⟩, h⟩ := h; exact ⟨[_], l, rfl, rfl, h⟩
    · cases hp
  | .str, cs, l, d, r, h, hp => by
    unfold prjC at hp
    split at hp
    · cases hp
      cases l with
      | nil => exact h.elim
      | cons c l => obtain ⟨⟨rfl, _⟩, h⟩ := h; exact ⟨[_], l, rfl, rfl, h⟩
    · cases hp
  | .flt k, cs, l, d, r, h, hp => by
    unfold prjC at hp
    split at hp
    · rename_i k' n r' 
      split at hp
      · rename_i hk; subst hk; cases hp
        cases l with
        | nil => exact h.elim
        | cons c l => obtain ⟨⟨rfl, _⟩, h⟩ := h; exact ⟨[_], l, rfl, rfl, h⟩
      · cases hp
    · cases hp
  | .unit, cs, l, d, r, h, hp => by
    obtain rfl : cs = r := by simpa [prjC] using hp
    exact ⟨[], l, rfl, rfl, h⟩
  | .sl t, cs, l, d, r, h, hp => by
    unfold prjC at hp
    split at hp
    · split at hp
      · cases hp
        cases l with
        | nil => exact h.elim
        | cons c l => obtain ⟨h0, h⟩ := h; exact ⟨[_], l, rfl, castL_rel _ h0, h⟩
      · cases hp
    · cases hp
      cases l with
      | nil => exact h.elim
      | cons c l => obtain ⟨h0, h⟩ := h; exact ⟨[_], l, rfl, ⟨_, rfl, .inl ⟨h0, rfl⟩⟩, h⟩
    · cases hp
      cases l with
      | nil => exact h.elim
      | cons c l => obtain ⟨h0, h⟩ := h; exact ⟨[_], l, rfl, em_sl h0, h⟩
    · cases hp
  | .pair a b, cs, l, d, r, h, hp => by
    simp only [prjC] at hp
    split at hp
    · rename_i x r1 h1
      split at hp
      · rename_i y r2 h2
        simp only [Option.some.injEq, Prod.mk.injEq] at hp
        obtain ⟨rfl, rfl⟩ := hp
        obtain ⟨l1, l2, rfl, ha, hl⟩ := rel_prjC w St Q β a cs l x r1 h h1
        obtain ⟨l3, l4, rfl, hb, hl'⟩ := rel_prjC w St Q β b r1 l2 y r2 hl h2
        exact ⟨l1 ++ l3, l4, by simp, ⟨l1, l3, rfl, ha, hb⟩, hl'⟩
      · cases hp
    · cases hp

theorem rel_prj {w : World} {St Q : Stb} {β : Bet} {T : Ty} {cs : List C} {l : List Value} {d : T.den} (h : All2 (RelC w St Q β) l cs) (hp : prj T cs = some d) : RelT w St T l d := by
  unfold prj at hp
  split at hp
  · rename_i d' h'
    cases hp
    obtain ⟨l1, l2, rfl, h1, h2⟩ := rel_prjC w St Q β T cs l d [] h h'
    cases l2 with
    | nil => simpa using h1
    | cons => exact h2.elim
  · cases hp

theorem rel_injA {w : World} {St Q : Stb} {β : Bet} {T : Ty} {c : Value} {l : List Value} {d : T.den} (h : RelT w St T l d) (hc : if T.agg then c = .agg l.toArray else l = [c]) : RelA w St Q β c (inj T d) := by
  cases T with
  | int k => simp only [Ty.agg, Bool.false_eq_true, if_false] at hc; subst hc; exact (rel_inj w St Q β (.int k) _ d h).1
  | bool => simp only [Ty.agg, Bool.false_eq_true, if_false] at hc; subst hc; exact (rel_inj w St Q β .bool _ d h).1
  | str => simp only [Ty.agg, Bool.false_eq_true, if_false] at hc; subst hc; exact (rel_inj w St Q β .str _ d h).1
  | flt k => simp only [Ty.agg, Bool.false_eq_true, if_false] at hc; subst hc; exact (rel_inj w St Q β (.flt k) _ d h).1
  | sl t => simp only [Ty.agg, Bool.false_eq_true, if_false] at hc; subst hc; exact (rel_inj w St Q β (.sl t) _ d h).1
  | unit => simp only [Ty.agg, if_true] at hc; subst hc; exact ⟨_, rfl, rel_inj w St Q β .unit _ d h⟩
  | pair a b => simp only [Ty.agg, if_true] at hc; subst hc; exact ⟨_, rfl, rel_inj w St Q β (.pair a b) _ d h⟩

theorem inj_cells : ∀ (T : Ty) (d : T.den), (inj T d).cells = injC T d
  | .int _, _ | .bool, _ | .str, _ | .flt _, _ | .unit, _ | .sl _, _ | .pair _ _, _ => rfl

/-- The cells of a value, concretely. -/
def vcells (c : Value) : A → List Value
  | .c _ => [c]
  | .ag _ => c.cells.toList

theorem rel_cells {w : World} {St Q : Stb} {β : Bet} {c : Value} {x : A} (h : RelA w St Q β c x) : All2 (RelC w St Q β) (vcells c x) x.cells := by
  cases x with
  | c x => exact ⟨h, trivial⟩
  | ag cs => obtain ⟨arr, rfl, h⟩ := h; exact h

theorem cell_one {w : World} {St Q : Stb} {β : Bet} {c : Value} {x : C} (h : RelC w St Q β c x) (hok : x.ok = true) : c.oneCell' = true ∧ c.cells = #[c] := by
  cases x with
  | sc v => obtain ⟨rfl, hp⟩ := h; cases c <;> simp_all [plain, Value.oneCell', Value.cells]
  | sl T xs => obtain ⟨c', hc, h⟩ := h; cases hc; rcases h with ⟨rfl, _⟩ | ⟨b, o, s, cap, rfl, _⟩ <;> exact ⟨rfl, rfl⟩
  | nl => rw [show c = _ from h]; exact ⟨rfl, rfl⟩
  | em => obtain ⟨a, cap, rfl⟩ := h; exact ⟨rfl, rfl⟩
  | nan k => obtain ⟨b, rfl, _⟩ := h; exact ⟨rfl, rfl⟩
  | ow id len => obtain ⟨loc, _, ⟨_, _, rfl⟩ | ⟨b, _, rfl, _⟩⟩ := h <;> exact ⟨rfl, rfl⟩
  | pt p => cases p with
    | own id i j => obtain ⟨b, cap, k, n, _, rfl⟩ := h; exact ⟨rfl, rfl⟩
    | sh T d j => obtain ⟨b, o, l, rfl, _⟩ := h; exact ⟨rfl, rfl⟩
  | cl f ps => obtain ⟨arr, rfl, _⟩ := h; exact ⟨rfl, rfl⟩
  | jk => cases hok

theorem cells_ok {w : World} {St Q : Stb} {β : Bet} : ∀ {l : List Value} {cs : List C}, All2 (RelC w St Q β) l cs → cellsOk cs = true → ∀ c ∈ l, c.oneCell' = true
  | [], [], _, _ => by simp
  | c :: l, x :: cs, ⟨h, hr⟩, hok => by
    simp only [cellsOk, Bool.and_eq_true] at hok
    intro c' hc'
    rcases List.mem_cons.1 hc' with rfl | hc'
    · exact (cell_one h hok.1).1
    · exact cells_ok hr hok.2 c' hc'
  | [], _ :: _, h, _ => h.elim
  | _ :: _, [], h, _ => h.elim

theorem vcells_eq {w : World} {St Q : Stb} {β : Bet} {c : Value} {x : A} (h : RelA w St Q β c x) (hok : cellsOk x.cells = true) : c.cells.toList = vcells c x := by
  cases x with
  | c x => simp only [A.cells, cellsOk, Bool.and_true] at hok; rw [(cell_one h hok).2]; rfl
  | ag cs => rfl

end
end Go.Proofs.Ytefhcmkiachphaa.Ab
end
section
/- Each operation of the machine does what Go's does: those that write nothing. -/
set_option linter.unusedVariables false
set_option linter.unusedSimpArgs false
namespace Go.Proofs.Ytefhcmkiachphaa.Ab
open Go Go.RowKit

/-- The rows behind an operation. -/
def appM (M : Nat → Option Row) (new : Nat) (o : OutM) : Nat → Option Row := fun id =>
  if new ≤ id ∧ id < new + o.rows.length then o.rows[id - new]?
  else
    let r := match lookU o.ups id with
      | some r => some r
      | none => match o.upd with
        | some (i, r) => if id = i then r else M id
        | none => M id
    if id ∈ o.fz then r.map Row.freeze else r

structure Pre (w : World) (St Q : Stb) (β : Bet) (B : Base) (M : Nat → Option Row) (new : Nat) : Prop where
  st : StOK w St
  qb : ∀ b o, Q b o → b < B.n ∧ ¬ B.own b
  bh : B.n ≤ w.heap.size
  mem : MemRel w St Q β B M
  bn : ∀ j, j < 4 → β (new + j) = none

structure Good (w : World) (St Q : Stb) (β : Bet) (B : Base) (new : Nat) (v : Value) (w' : World) (St' : Stb) (β' : Bet) (x : F) (M' : Nat → Option Row) : Prop where
  below : Bel B w w'
  keep : Keep w St β Q w' St' β'
  rel : RelF w' St' Q β' v x
  mem : MemRel w' St' Q β' B M'
  st : StOK w' St'
  stn : ∀ b o, St' b o → St b o ∨ B.may b
  bnew : ∀ id, β' id ≠ β id → new ≤ id ∧ id < new + 4

/-- The rows that the machine sees are there; some of them may be ones that nobody writes any more. -/
def Sees (m M : Nat → Option Row) : Prop := ∀ id r, m id = some r → ∃ r', M id = some r' ∧ r'.freeze = r.freeze
def SeesX (e2 : Bool) (m M : Nat → Option Row) : Prop := ∀ id r, m id = some r → M id = some r ∨ (e2 = false ∧ ∃ r', M id = some r' ∧ r'.freeze = r.freeze)
theorem Sees.same (M : Nat → Option Row) : Sees M M := fun _ r h => ⟨r, h, rfl⟩
theorem SeesX.sees {e2 : Bool} {m M : Nat → Option Row} (h : SeesX e2 m M) : Sees m M := fun i r hr => (h i r hr).elim (fun x => ⟨r, x, rfl⟩) And.right
theorem SeesX.weak {a b : Bool} {m M : Nat → Option Row} (h : SeesX (a || b) m M) : SeesX a m M := fun i r hr => (h i r hr).imp id fun ⟨e, x⟩ => ⟨(by cases a with | false => rfl | true => cases e), x⟩
theorem SeesX.same (e2 : Bool) (M : Nat → Option Row) : SeesX e2 M M := fun _ _ h => .inl h

/-- The operation does what the machine says, in every state that the machine's state tells of. -/
def OpOK (P : Program) (G : World → Prop) (m : Nat → Option Row) (new : Nat) (ρ : Operand → F) (o : Oper) (out : OutM) : Prop :=
  ∀ (w : World) (St Q : Stb) (β : Bet) (B : Base) (M : Nat → Option Row) (a : Act), (∀ w', Bel B w w' → G w') → Pre w St Q β B M new →
    (∀ x ∈ o.op.operands, RelF w St Q β (a.eval x) (ρ x)) → SeesX (isE2 o || !out.ups.isEmpty || out.upd.isSome) m M →
    ∀ (K : Act → World → Prop) (Qx : Exit → Act → World → Prop),
      (∀ v w' St' β', Good w St Q β B new v w' St' β' out.v (appM M new out) → K (a.put o.dst v) w') → o.wp P a w K Qx

theorem appM_same (M : Nat → Option Row) (new : Nat) (v : F) : appM M new { v := v } = M := by
  funext id
  simp only [appM, List.length_nil, Nat.add_zero]
  rw [if_neg (by omega)]
  simp [lookU]

theorem Good.same {w : World} {St Q : Stb} {β : Bet} {B : Base} {new : Nat} {M : Nat → Option Row} (hp : Pre w St Q β B M new) {v : Value} {x : F} (h : RelF w St Q β v x) :
    Good w St Q β B new v w St β x M :=
  ⟨Bel.refl _ _, Keep.refl _ _ _ _, h, hp.mem, hp.st, fun _ _ h => .inl h, fun id h => absurd rfl h⟩

section
variable {P : Program} {G : World → Prop} {m : Nat → Option Row} {new : Nat} {ρ : Operand → F} {o : Oper}

theorem OpOK.pure {x : F} (h : ∀ (w : World) (St Q : Stb) (β : Bet) (B : Base) (M : Nat → Option Row) (a : Act), Pre w St Q β B M new →
    (∀ x ∈ o.op.operands, RelF w St Q β (a.eval x) (ρ x)) → Sees m M →
    ∃ v, (execOp a.eval o).run P w = .ok (.value v) w ∧ RelF w St Q β v x) : OpOK P G m new ρ o { v := x } := by
  intro w St Q β B M a _ hp hx hm K Qx hK
  obtain ⟨v, hr, hv⟩ := h w St Q β B M a hp hx hm.sees
  unfold Oper.wp
  rw [hr]
  refine hK v w St β ?_
  rw [appM_same]
  exact Good.same hp hv

theorem exec_v {s : Sem Value} {v : Value} {w w' : World} (h : s.run P w = .ok v w') : (do Pure.pure (Next.value (← s)) : Sem Next).run P w = .ok (.value v) w' := by
  simp [h]

variable {R : Type} {r : R} {E : Env}

theorem rel_sc {w : World} {St Q : Stb} {β : Bet} {c a : Value} (h : RelF w St Q β c (.a (.c (.sc a)))) : c = a ∧ plain a = true := h

theorem eqGuard_basic (op : BinOp) (t : TypeId) (xo yo : Operand) (a b : Value) (h : basic a = true) : eqGuard op t xo yo a b = Pure.pure () := by
  cases a <;> simp [basic] at h <;> cases op <;> rfl

theorem equalIn_bool {P : Program} {t : TypeId} (h : P.underlying t = some .bool) (p q : Bool) (w : World) (d : Nat) : (Op.equalIn (d + 1) t (.bool p) (.bool q)).run P w = .ok (p == q) w := by
  simp [Op.equalIn, run_underlying h]

theorem eql_bool {P : Program} {t : TypeId} (h : P.underlying t = some .bool) (p q : Bool) (w : World) : (Op.equal t (.bool p) (.bool q)).run P w = .ok (p == q) w :=
  equalIn_bool h p q w 9999

theorem binK_sound (hti : ∀ t i, E.ti t = some i → TIok E.P t i) {op : BinOp} {t : TypeId} {x y : F} {K : Out → Option R} (h : binK E op t x y K = some r) :
    ∃ v, K (outV v) = some r ∧ plain v = true ∧ ∀ (xo yo : Operand) (cx cy : Value) (w0 : World) (St Q : Stb) (β : Bet), RelF w0 St Q β cx x → RelF w0 St Q β cy y →
      ∀ w, ((do eqGuard op t xo yo cx cy; binOp op t cx cy) : Sem Value).run E.P w = .ok v w := by
  unfold binK at h
  simp only [ifs] at h
  split at h
  · rename_i a b
    split at h
    · rename_i k m' k' n
      split at h
      · rename_i hk
        split at h
        · cases h
        · rename_i hn
          refine ⟨_, h, rfl, fun xo yo cx cy w0 St Q β hx hy w => ?_⟩
          obtain ⟨rfl, _⟩ := rel_sc hx; obtain ⟨rfl, _⟩ := rel_sc hy
          subst hk
          rw [eqGuard_basic _ _ _ _ _ _ rfl]; simp [binOp, Op.intDiv, hn]
      · cases h
    · rename_i k m' k' n
      split at h
      · rename_i hk
        split at h
        · cases h
        · rename_i hn
          refine ⟨_, h, rfl, fun xo yo cx cy w0 St Q β hx hy w => ?_⟩
          obtain ⟨rfl, _⟩ := rel_sc hx; obtain ⟨rfl, _⟩ := rel_sc hy
          subst hk
          rw [eqGuard_basic _ _ _ _ _ _ rfl]; simp [binOp, Op.intDiv, hn]
      · cases h
    · rename_i k m' k' n
      split at h
      · rename_i hk
        subst hk
        cases hd : k.format.div m' n with
        | none => rw [hd] at h; cases h
        | some q =>
          rw [hd] at h
          refine ⟨_, h, rfl, fun xo yo cx cy w0 St Q β hx hy w => ?_⟩
          obtain ⟨rfl, _⟩ := rel_sc hx; obtain ⟨rfl, _⟩ := rel_sc hy
          rw [eqGuard_basic _ _ _ _ _ _ rfl]; simp [binOp, Op.floatArith, hd]
      · cases h
    · rename_i k m' k' n
      split at h
      · rename_i hk
        subst hk
        cases hd : k.format.add m' n with
        | none => rw [hd] at h; cases h
        | some q =>
          rw [hd] at h
          refine ⟨_, h, rfl, fun xo yo cx cy w0 St Q β hx hy w => ?_⟩
          obtain ⟨rfl, _⟩ := rel_sc hx; obtain ⟨rfl, _⟩ := rel_sc hy
          rw [eqGuard_basic _ _ _ _ _ _ rfl]; simp [binOp, Op.floatArith, hd]
      · cases h
    · rename_i k m' k' n
      split at h
      · rename_i hk
        subst hk
        cases hd : k.format.sub m' n with
        | none => rw [hd] at h; cases h
        | some q =>
          rw [hd] at h
          refine ⟨_, h, rfl, fun xo yo cx cy w0 St Q β hx hy w => ?_⟩
          obtain ⟨rfl, _⟩ := rel_sc hx; obtain ⟨rfl, _⟩ := rel_sc hy
          rw [eqGuard_basic _ _ _ _ _ _ rfl]; simp [binOp, Op.floatArith, hd]
      · cases h
    · rename_i k m' k' n
      split at h
      · rename_i hk
        subst hk
        cases hd : k.format.mul m' n with
        | none => rw [hd] at h; cases h
        | some q =>
          rw [hd] at h
          refine ⟨_, h, rfl, fun xo yo cx cy w0 St Q β hx hy w => ?_⟩
          obtain ⟨rfl, _⟩ := rel_sc hx; obtain ⟨rfl, _⟩ := rel_sc hy
          rw [eqGuard_basic _ _ _ _ _ _ rfl]; simp [binOp, Op.floatArith, hd]
      · cases h
    · rename_i s u
      split at h
      · rename_i hs
        refine ⟨_, h, rfl, fun xo yo cx cy w0 St Q β hx hy w => ?_⟩
        obtain ⟨rfl, _⟩ := rel_sc hx; obtain ⟨rfl, _⟩ := rel_sc hy
        have : ¬ ((s.size + u.size : Nat) : Int) > 9223372036854775807 := by omega
        rw [eqGuard_basic _ _ _ _ _ _ rfl]
        have hb : binOp .add t (.string s) (.string u) = Pure.pure (.string (s ++ u)) := by
          simp only [binOp, Op.stringOp, IntKind.max_i64]; rw [if_neg this]
        rw [hb]; rfl
      · cases h
    · rename_i p q
      split at h
      · rename_i hd
        refine ⟨_, h, rfl, fun xo yo cx cy w0 St Q β hx hy w => ?_⟩
        obtain ⟨rfl, _⟩ := rel_sc hx; obtain ⟨rfl, _⟩ := rel_sc hy
        obtain ⟨d, j, h1, _, _, _, _, h6⟩ := hti _ _ hd
        rw [show d = _ from h6] at h1
        rw [eqGuard_basic _ _ _ _ _ _ rfl]; simp [binOp, eql_bool h1]
      · cases h
    · rename_i p q
      split at h
      · rename_i hd
        refine ⟨_, h, rfl, fun xo yo cx cy w0 St Q β hx hy w => ?_⟩
        obtain ⟨rfl, _⟩ := rel_sc hx; obtain ⟨rfl, _⟩ := rel_sc hy
        obtain ⟨d, j, h1, _, _, _, _, h6⟩ := hti _ _ hd
        rw [show d = _ from h6] at h1
        rw [eqGuard_basic _ _ _ _ _ _ rfl]; simp [binOp, eql_bool h1]
      · cases h
    · cases hb : (basic a && basic b) with
      | false => rw [hb] at h; cases h
      | true =>
        rw [hb] at h
        simp only [cond_true] at h
        split at h
        · rename_i v hf
          cases hp : plain v with
          | false => rw [hp] at h; cases h
          | true =>
            rw [hp] at h
            refine ⟨v, h, hp, fun xo yo cx cy w0 St Q β hx hy w => ?_⟩
            obtain ⟨rfl, _⟩ := rel_sc hx; obtain ⟨rfl, _⟩ := rel_sc hy
            simp only [Bool.and_eq_true] at hb
            rw [eqGuard_basic _ _ _ _ _ _ hb.1]
            exact free_run _ hf w
        · cases h
  · split at h
    · rename_i hd
      obtain ⟨d, j, h1, _, _, _, _, h6⟩ := hti _ _ hd
      rw [show d = _ from h6] at h1
      refine ⟨_, h, rfl, fun xo yo cx cy w0 St Q β hx hy w => ?_⟩
      rw [show cx = _ from hx, show cy = _ from hy]
      simp [eqGuard, Lib.run_eql_slice_nil w _ _ none 0 0 0 0 h1]
    · cases h
  · split at h
    · rename_i hd
      obtain ⟨d, j, h1, _, _, _, _, h6⟩ := hti _ _ hd
      rw [show d = _ from h6] at h1
      refine ⟨_, h, rfl, fun xo yo cx cy w0 St Q β hx hy w => ?_⟩
      obtain ⟨a, cap, rfl⟩ := (show RelC w0 St Q β cx .em from hx)
      rw [show cy = _ from hy]
      simp [eqGuard, Lib.run_eql_slice_nil w _ _ (some a) 0 cap 0 0 h1]
    · cases h
  · rename_i T xs
    split at h
    · rename_i hd
      split at h
      · cases h
      · rename_i hne
        obtain ⟨d, j, h1, _, _, _, _, h6⟩ := hti _ _ hd
        rw [show d = _ from h6] at h1
        refine ⟨_, h, rfl, fun xo yo cx cy w0 St Q β hx hy w => ?_⟩
        obtain ⟨c', hc', hc⟩ := (show RelSl w0 St T cx xs from hx)
        cases hc'
        rw [show cy = _ from hy]
        rcases hc with ⟨rfl, rfl⟩ | ⟨b, o, s, cap, rfl, _⟩
        · exact absurd rfl hne
        · simp [eqGuard, Lib.run_eql_slice_nil w _ _ (some ⟨b, o, s⟩) xs.length cap 0 0 h1]
    · cases h
  · cases h

theorem unK_sound {op : UnOp} {x : F} {K : Out → Option R} (h : unK E op x K = some r) :
    ∃ v, K (outV v) = some r ∧ plain v = true ∧ ∀ (cx : Value) (w0 : World) (St Q : Stb) (β : Bet), RelF w0 St Q β cx x → ∀ w, (Op.unary op cx).run E.P w = .ok v w := by
  unfold unK at h
  split at h
  · rename_i a
    split at h
    · rename_i v hf
      cases hp : plain v with
      | false => rw [hp] at h; cases h
      | true =>
        rw [hp] at h
        refine ⟨v, h, hp, fun cx w0 St Q β hx w => ?_⟩
        obtain ⟨rfl, _⟩ := rel_sc hx
        exact free_run _ hf w
    · cases h
  · cases h

theorem convK_sound (hti : ∀ t i, E.ti t = some i → TIok E.P t i) {src dst : TypeId} {x : F} {K : Out → Option R} (h : convK E src dst x K = some r) :
    ∃ v, K (outV v) = some r ∧ plain v = true ∧ ∀ (cx : Value) (w0 : World) (St Q : Stb) (β : Bet), RelF w0 St Q β cx x → ∀ w, (convert src dst cx).run E.P w = .ok v w := by
  unfold convK at h
  split at h
  · rename_i i j a hi hj
    obtain ⟨ds, js, h1, h2, h3, h4, h5, h6⟩ := hti _ _ hi
    obtain ⟨dd, jd, k1, k2, k3, k4, k5, k6⟩ := hti _ _ hj
    split at h
    · rename_i k k' n hd
      refine ⟨_, h, rfl, fun cx w0 St Q β hx w => ?_⟩
      obtain ⟨rfl, _⟩ := rel_sc hx
      rw [hd] at k6
      rw [show dd = _ from k6] at k1
      simp [convert, run_underlying h1, run_underlying k1, Conv.intToInt]
    · rename_i s hd
      refine ⟨_, h, rfl, fun cx w0 St Q β hx w => ?_⟩
      obtain ⟨rfl, _⟩ := rel_sc hx
      rw [hd] at k6
      rw [show dd = _ from k6] at k1
      simp [convert, run_underlying h1, run_underlying k1]
    · rename_i k k' n hd
      refine ⟨_, h, rfl, fun cx w0 St Q β hx w => ?_⟩
      obtain ⟨rfl, _⟩ := rel_sc hx
      rw [hd] at k6
      rw [show dd = _ from k6] at k1
      simp [convert, run_underlying h1, run_underlying k1, Conv.intToFloat]
    · cases h
  · cases h

end
end Go.Proofs.Ytefhcmkiachphaa.Ab
end
section
/- Each operation of the machine does what Go's does: reading, addresses, slices. -/
set_option linter.unusedVariables false
set_option linter.unusedSimpArgs false
namespace Go.Proofs.Ytefhcmkiachphaa.Ab
open Go Go.RowKit

theorem cell_row {w : World} {b : Nat} {cur : Array Value} {t : TypeId} {f : Nat × Nat} (h : w.heap[b]? = some (.cells cur t f)) (o : Nat) : w.cell? ⟨b, o, none⟩ = cur[o]? := by
  simp [World.cell?, h]

section
variable {P : Program} {R : Type} {r : R} {E : Env}

theorem run_loadVar {t : TypeId} {i : TI} (hi : TIok P t i) {b o : Nat} {w : World} {l : List Value} (hl : l.length = i.size)
    (hc : ∀ (j : Nat) c, l[j]? = some c → w.cell? ⟨b, o + j, none⟩ = some c) {c : Value} (h : if isAggD i.desc then c = .agg l.toArray else l = [c]) :
    (Instr.loadAt t (.pointer (some ⟨b, o, none⟩))).run P w = .ok c w := by
  have hload : ∀ (j : Nat) v, l[j]? = some v → w.cell? ((⟨b, o, none⟩ : Addr).add j) = some v := fun j v hj => by rw [Addr.add_lit]; exact hc j v hj
  cases ha : isAggD i.desc with
  | true =>
    rw [ha] at h; simp only [if_true] at h; subst h
    simp only [Instr.loadAt, Instr.sureAddr, Sem.run_bind, Sem.run_pure, Result.andThen_ok, loadVar, run_isAgg hi, ha, if_true, run_size hi]
    have := run_loadCells_list (P := P) w ⟨b, o, none⟩ l hload
    rw [hl] at this
    rw [this]; rfl
  | false =>
    rw [ha] at h; simp only [Bool.false_eq_true, if_false] at h; subst h
    have h0 := hc 0 c rfl
    simp only [Nat.add_zero] at h0
    simp only [Instr.loadAt, Instr.sureAddr, Sem.run_bind, Sem.run_pure, Result.andThen_ok, loadVar, run_isAgg hi, ha, Bool.false_eq_true, if_false, run_load, h0]

theorem take_len {α : Type} {l : List α} {j n : Nat} (h : j + n ≤ l.length) : ((l.drop j).take n).length = n := by
  rw [List.length_take, List.length_drop]; omega

theorem get_take {α : Type} {l : List α} {j n q : Nat} {c : α} (h : ((l.drop j).take n)[q]? = some c) : l[j + q]? = some c := by
  rw [List.getElem?_take] at h
  split at h
  · rw [List.getElem?_drop] at h; exact h
  · cases h

theorem mkA_rel {w : World} {St Q : Stb} {β : Bet} {agg : Bool} {l : List Value} {cs : List C} {x : A} (h : All2 (RelC w St Q β) l cs) (hx : mkA agg cs = some x) :
    ∃ c, (if agg then c = .agg l.toArray else l = [c]) ∧ RelA w St Q β c x := by
  unfold mkA at hx
  split at hx
  · cases hx; exact ⟨.agg l.toArray, by simp, l.toArray, rfl, h⟩
  · cases hx
    cases l with
    | nil => exact h.elim
    | cons c l =>
      obtain ⟨h1, h2⟩ := h
      cases l with
      | nil => exact ⟨c, by simp, h1⟩
      | cons => exact h2.elim
  · cases hx

theorem partK_sound {cs : List C} {j : Nat} {i : TI} {K : Out → Option R} (h : partK cs j i K = some r) :
    ∃ x, K { v := .a x } = some r ∧ ∀ (w : World) (St Q : Stb) (β : Bet) (l : List Value), All2 (RelC w St Q β) l cs →
      j + i.size ≤ l.length ∧ ∃ c, (if isAggD i.desc then c = .agg ((l.drop j).take i.size).toArray else (l.drop j).take i.size = [c]) ∧ RelA w St Q β c x := by
  unfold partK at h
  cases hb : Nat.ble (j + i.size) cs.length with
  | false => rw [hb] at h; cases h
  | true =>
    rw [hb] at h
    simp only [cond_true] at h
    split at h
    · rename_i x hx
      refine ⟨x, h, fun w St Q β l hl => ?_⟩
      have hle := Nat.le_of_ble_eq_true hb
      rw [← All2.length _ _ hl] at hle
      obtain ⟨c, hc, hr⟩ := mkA_rel (All2.take i.size _ _ (All2.drop j _ _ hl)) hx
      exact ⟨hle, c, hc, hr⟩
    · cases h

theorem Sees.box {m M : Nat → Option Row} (h : Sees m M) {id : Nat} {t : TypeId} {T : Option Ty} {cs : List C} {fz : Bool} (hr : m id = some (.box t T cs fz)) :
    ∃ fz', M id = some (.box t T cs fz') := by
  obtain ⟨r', h1, h2⟩ := h _ _ hr
  cases r' with
  | box t' T' cs' fz' => simp only [Row.freeze, Row.box.injEq] at h2; obtain ⟨rfl, rfl, rfl, _⟩ := h2; exact ⟨_, h1⟩
  | arr => simp [Row.freeze] at h2
theorem Sees.arr {m M : Nat → Option Row} (h : Sees m M) {id : Nat} {e : TypeId} {T : Ty} {xs : List T.den} {fz : Bool} (hr : m id = some (.arr e T xs fz)) :
    ∃ fz', M id = some (.arr e T xs fz') := by
  obtain ⟨r', h1, h2⟩ := h _ _ hr
  cases r' with
  | arr e' T' xs' fz' => simp only [Row.freeze, Row.arr.injEq] at h2; obtain ⟨rfl, rfl, h3, _⟩ := h2; cases eq_of_heq h3; exact ⟨_, h1⟩
  | box => simp [Row.freeze] at h2

/-- A row of elements and its block. -/
theorem MemRel.arr {w : World} {St Q : Stb} {β : Bet} {B : Base} {M : Nat → Option Row} (h : MemRel w St Q β B M) {id : Nat} {e : TypeId} {T : Ty} {xs : List T.den} {fz : Bool} (hr : M id = some (.arr e T xs fz)) :
    ∃ cap, (β id = some ⟨none, cap, T.w, 0⟩ ∧ xs = []) ∨ ∃ b cur, β id = some ⟨some b, cap, T.w, xs.length⟩ ∧ w.heap[b]? = some (.cells cur e (0, 0)) ∧ cur.size = cap * T.w ∧ xs.length ≤ cap ∧ cap ≤ maxLen ∧
      RelL w St T cur.toList xs ∧ B.may b ∧ (∀ o, St b o → fz = true ∧ o < xs.length * T.w) ∧ (fz = true → ∀ o, o < xs.length * T.w → St b o) := by
  obtain ⟨loc, n, hb, hat, hst⟩ := h.row _ _ hr
  cases hat with
  | nil e T fz cap hl => subst hl; exact ⟨cap, .inl ⟨hb, rfl⟩⟩
  | arr e T xs fz b cap cur hl hh hs hx hm hrel =>
    subst hl
    obtain ⟨h1, h2, h3⟩ := hst b rfl
    exact ⟨cap, .inr ⟨b, cur, hb, hh, hs, hx, hm, hrel, h1, h2, h3⟩⟩

theorem MemRel.box {w : World} {St Q : Stb} {β : Bet} {B : Base} {M : Nat → Option Row} (h : MemRel w St Q β B M) {id : Nat} {t : TypeId} {T : Option Ty} {cs : List C} {fz : Bool} (hr : M id = some (.box t T cs fz)) :
    ∃ b cur, β id = some ⟨some b, 1, cs.length, 1⟩ ∧ w.heap[b]? = some (.cells cur t (0, 0)) ∧ All2 (RelC w St Q β) cur.toList cs ∧ (∀ c ∈ cur.toList, c.oneCell' = true) ∧ B.may b ∧
      (∀ o, St b o → fz = true ∧ o < cs.length) ∧ (fz = true → ∀ o, o < cs.length → St b o) := by
  obtain ⟨loc, n, hb, hat, hst⟩ := h.row _ _ hr
  cases hat with
  | box t T cs fz b cur hl hh hrel hone =>
    subst hl
    obtain ⟨h1, h2, h3⟩ := hst b rfl
    exact ⟨b, cur, hb, hh, hrel, hone, h1, h2, h3⟩

theorem elem_cells {w : World} {St : Stb} {T : Ty} {cur : List Value} {xs : List T.den} (h : RelL w St T cur xs) {i : Nat} {x : T.den} (hx : xs[i]? = some x) :
    RelT w St T ((cur.drop (i * T.w)).take T.w) x ∧ ∀ (j : Nat) c, ((cur.drop (i * T.w)).take T.w)[j]? = some c → cur[i * T.w + j]? = some c :=
  ⟨h i x hx, fun _ _ hj => get_take hj⟩

theorem loadK_sound {m : Nat → Option Row} {p : Pt} {i : TI} {K : Out → Option R} (h : loadK m p i K = some r) :
    ∃ x, K { v := .a x } = some r ∧ ∀ (w : World) (St Q : Stb) (β : Bet) (B : Base) (M : Nat → Option Row), MemRel w St Q β B M → Sees m M → ∀ t, TIok P t i → ∀ c, RelP w St Q β c p →
      ∃ v, (Instr.loadAt t c).run P w = .ok v w ∧ RelA w St Q β v x := by
  unfold loadK at h
  split at h
  · rename_i id e j
    split at h
    · rename_i t0 T0 cs fz hm
      split at h
      · obtain ⟨x, hx, hp⟩ := partK_sound h
        refine ⟨x, hx, fun w St Q β B M hM hS t ht c hc => ?_⟩
        obtain ⟨fz', hM'⟩ := hS.box hm
        obtain ⟨b, cur, hb, hh, hrel, _⟩ := hM.box hM'
        obtain ⟨b', cap', k', n', hb', rfl⟩ := hc
        rw [hb] at hb'
        simp only [Option.some.injEq, Loc.mk.injEq] at hb'
        obtain ⟨rfl, rfl, rfl, rfl⟩ := hb'
        obtain ⟨hle, v, hv, hr⟩ := hp w St Q β cur.toList hrel
        refine ⟨v, run_loadVar ht (take_len hle) (fun q c hq => ?_) hv, hr⟩
        rw [cell_row hh]
        have := get_take hq
        simpa using this
      · cases h
    · rename_i e0 T xs fz hm
      cases hx : xs[e]? with
      | none => rw [hx] at h; cases h
      | some d =>
        rw [hx] at h
        simp only [Option.bind_some] at h
        obtain ⟨x, hx', hp⟩ := partK_sound h
        refine ⟨x, hx', fun w St Q β B M hM hS t ht c hc => ?_⟩
        obtain ⟨fz', hM'⟩ := hS.arr hm
        obtain ⟨cap, ⟨hb, rfl⟩ | ⟨b, cur, hb, hh, hs, hl, hmx, hrel, hB, _⟩⟩ := hM.arr hM'
        · simp at hx
        obtain ⟨b', cap', k', n', hb', rfl⟩ := hc
        rw [hb] at hb'
        simp only [Option.some.injEq, Loc.mk.injEq] at hb'
        obtain ⟨rfl, rfl, rfl, rfl⟩ := hb'
        obtain ⟨hT, hcells⟩ := elem_cells hrel hx
        obtain ⟨hle, v, hv, hr⟩ := hp w St Q β _ (rel_inj w St Q β T _ d hT)
        refine ⟨v, run_loadVar ht (take_len hle) (fun q c hq => ?_) hv, hr⟩
        rw [cell_row hh, Nat.add_assoc]
        have := hcells _ _ (get_take hq)
        simpa using this
    · cases h
  · rename_i T d j
    obtain ⟨x, hx, hp⟩ := partK_sound h
    refine ⟨x, hx, fun w St Q β B M hM hS t ht c hc => ?_⟩
    obtain ⟨b, o, l, rfl, hT, hAt⟩ := hc
    obtain ⟨hle, v, hv, hr⟩ := hp w St Q β _ (rel_inj w St Q β T _ d hT)
    refine ⟨v, run_loadVar ht (take_len hle) (fun q c hq => ?_) hv, hr⟩
    rw [Nat.add_assoc]
    exact (hAt _ _ (get_take hq)).2

end
end Go.Proofs.Ytefhcmkiachphaa.Ab
end
section
/- Each operation of the machine does what Go's does: fields, elements, slices, lengths. -/
set_option linter.unusedVariables false
set_option linter.unusedSimpArgs false
namespace Go.Proofs.Ytefhcmkiachphaa.Ab
open Go Go.RowKit

section
variable {P : Program} {R : Type} {r : R} {E : Env}

theorem field_of {fa : Array Field} {fs : List (Nat × TypeId)} {f : Nat} {fd : Nat × TypeId} (h : fa.toList.map (fun f => (f.offset, f.type)) = fs) (hf : fs[f]? = some fd) :
    ∃ fld, fa[f]? = some fld ∧ fld.offset = fd.1 ∧ fld.type = fd.2 := by
  subst h
  rw [List.getElem?_map] at hf
  cases hx : fa.toList[f]? with
  | none => rw [hx] at hf; cases hf
  | some fld => rw [hx] at hf; cases hf; exact ⟨fld, by simpa using hx, rfl, rfl⟩

theorem rel_move {w : World} {St Q : Stb} {β : Bet} {c : Value} {p : Pt} (h : RelP w St Q β c p) :
    ∃ b o, c = .pointer (some ⟨b, o, none⟩) ∧ ∀ d, RelP w St Q β (.pointer (some ⟨b, o + d, none⟩)) (movePt p d) := by
  cases p with
  | own id i j => obtain ⟨b, cap, k, n, hb, rfl⟩ := h; exact ⟨b, _, rfl, fun d => ⟨b, cap, k, n, hb, by rw [Nat.add_assoc]⟩⟩
  | sh T x j => obtain ⟨b, o, l, rfl, hr, ha⟩ := h; exact ⟨b, _, rfl, fun d => ⟨b, o, l, by rw [Nat.add_assoc], hr, ha⟩⟩

theorem intF_some {x : F} {n : Int} (h : intF x = some n) : ∃ k, x = .a (.c (.sc (.int k n))) := by
  unfold intF at h
  split at h
  · cases h; exact ⟨_, rfl⟩
  · cases h

theorem run_part {t : TypeId} {i : TI} (hi : TIok P t i) {arr : Array Value} {j : Nat} (hle : j + i.size ≤ arr.toList.length) {c : Value}
    (h : if isAggD i.desc then c = .agg ((arr.toList.drop j).take i.size).toArray else (arr.toList.drop j).take i.size = [c]) (w : World) : (part t arr j).run P w = .ok c w := by
  cases ha : isAggD i.desc with
  | true =>
    rw [ha] at h; simp only [if_true] at h; subst h
    simp only [part, Sem.run_bind, run_isAgg hi, ha, Result.andThen_ok, if_true, run_size hi, Sem.run_pure]
    congr 2
    apply Array.ext'
    simp [List.extract_eq_take_drop]
  | false =>
    rw [ha] at h; simp only [Bool.false_eq_true, if_false] at h
    have h0 : ((arr.toList.drop j).take i.size)[0]? = some c := by rw [h]; rfl
    have h1 := get_take h0
    simp only [Nat.add_zero, Array.getElem?_toList] at h1
    simp only [part, Sem.run_bind, run_isAgg hi, ha, Result.andThen_ok, Bool.false_eq_true, if_false, h1, Sem.run_pure]

theorem fieldK_sound (hti : ∀ t i, E.ti t = some i → TIok E.P t i) {t : TypeId} {x : F} {f : Nat} {K : Out → Option R} (h : fieldK E t x f K = some r) :
    ∃ y, K { v := y } = some r ∧ ∀ (w : World) (St Q : Stb) (β : Bet) (c : Value), RelF w St Q β c x → ∃ v, (Instr.field t c f).run E.P w = .ok v w ∧ RelF w St Q β v y := by
  unfold fieldK at h
  split at h
  · rename_i i cs hi
    split at h
    · rename_i fs hd
      split at h
      · rename_i fd hf
        split at h
        · rename_i j hj
          obtain ⟨y, hy, hp⟩ := partK_sound h
          refine ⟨_, hy, fun w St Q β c hc => ?_⟩
          obtain ⟨arr, rfl, hc⟩ := hc
          obtain ⟨d, j', h1, _, _, _, _, h6⟩ := hti _ _ hi
          rw [hd] at h6
          obtain ⟨fa, rfl, hfa⟩ := h6
          obtain ⟨fld, hfld, ho, htt⟩ := field_of hfa hf
          obtain ⟨hle, v, hv, hr⟩ := hp w St Q β _ hc
          refine ⟨v, ?_, hr⟩
          simp only [Instr.field, Sem.run_bind, run_underlying h1, Result.andThen_ok, hfld, asAgg, Sem.run_pure, ho, htt]
          exact run_part (hti _ _ hj) hle hv w
        · cases h
      · cases h
    · cases h
  · cases h

theorem fieldAddrK_sound (hti : ∀ t i, E.ti t = some i → TIok E.P t i) {t : TypeId} {x : F} {f : Nat} {K : Out → Option R} (h : fieldAddrK E t x f K = some r) :
    ∃ y, K { v := y } = some r ∧ ∀ (w : World) (St Q : Stb) (β : Bet) (c : Value), RelF w St Q β c x → ∃ v, (Instr.fieldAt t c f).run E.P w = .ok v w ∧ RelF w St Q β v y := by
  unfold fieldAddrK at h
  split at h
  · rename_i i p hi
    split at h
    · rename_i fs hd
      split at h
      · rename_i fd hf
        split at h
        · rename_i j hj
          cases hz : Nat.blt 0 j.size with
          | false => rw [hz] at h; cases h
          | true =>
            rw [hz] at h
            refine ⟨_, h, fun w St Q β c hc => ?_⟩
            have hc' : RelP w St Q β c p := hc
            obtain ⟨b, o, rfl, hm⟩ := rel_move hc'
            obtain ⟨d, j', h1, _, _, _, _, h6⟩ := hti _ _ hi
            rw [hd] at h6
            obtain ⟨fa, rfl, hfa⟩ := h6
            obtain ⟨fld, hfld, ho, htt⟩ := field_of hfa hf
            refine ⟨_, ?_, hm fd.1⟩
            have hne : ¬ j.size = 0 := by have := Nat.le_of_ble_eq_true hz; omega
            simp only [Instr.fieldAt, Sem.run_bind, run_underlying h1, Result.andThen_ok, hfld, Instr.sureAddr, Sem.run_pure, fieldPlace, htt, run_size (hti _ _ hj), hne, if_false, ho, Addr.add_lit]
        · cases h
      · cases h
    · cases h
  · cases h

theorem indexAddrK_sound (hti : ∀ t i, E.ti t = some i → TIok E.P t i) {m : Nat → Option Row} {t : TypeId} {x ix : F} {K : Out → Option R} (h : indexAddrK E m t x ix K = some r) :
    ∃ y, K { v := y } = some r ∧ ∀ (w : World) (St Q : Stb) (β : Bet) (B : Base) (M : Nat → Option Row), MemRel w St Q β B M → Sees m M → ∀ (c ci : Value), RelF w St Q β c x → RelF w St Q β ci ix →
      ∃ v, (Instr.indexAt t c ci).run E.P w = .ok v w ∧ RelF w St Q β v y := by
  unfold indexAddrK at h
  simp only [ifs] at h
  split at h
  · rename_i i y n hi hn
    obtain ⟨kk, rfl⟩ := intF_some hn
    obtain ⟨d, j', h1, _, _, _, _, h6⟩ := hti _ _ hi
    split at h
    · rename_i e hd
      rw [hd] at h6
      obtain rfl : d = .slice e := h6
      split at h
      · rename_i ie hie
        split at h
        · rename_i T xs
          cases hz : Nat.beq ie.size T.w with
          | false => rw [hz] at h; cases h
          | true =>
            rw [hz] at h
            simp only [cond_true] at h
            have hsz := Nat.eq_of_beq_eq_true hz
            split at h
            · rename_i h0
              cases hx : xs[n.toNat]? with
              | none => rw [hx] at h; cases h
              | some dd =>
                rw [hx] at h
                refine ⟨_, h, fun w St Q β B M hM hS c ci hc hci => ?_⟩
                obtain ⟨rfl, _⟩ := rel_sc hci
                obtain ⟨c', hc', hc⟩ := (show RelSl w St T c xs from hc)
                cases hc'
                rcases hc with ⟨rfl, rfl⟩ | ⟨b, o, s, cap, rfl, hle, hel⟩
                · simp at hx
                · obtain ⟨rfl, l, hl, hAt⟩ := hel _ _ hx
                  have hlt : n < (xs.length : Int) := by have := (List.getElem?_eq_some_iff.1 hx).1; omega
                  refine ⟨.pointer (some ⟨b, o + n.toNat * T.w, none⟩), ?_, ⟨b, _, l, by rw [Nat.add_zero], hl, fun j c hj => ⟨.inr (hAt j c hj).1, (hAt j c hj).2⟩⟩⟩
                  simp [Instr.indexAt, run_underlying h1, asIntOf, h0, hlt, run_size (hti _ _ hie), hsz, Addr.add_lit]
            · cases h
        · rename_i id len
          split at h
          · rename_i e0 T xs fz hm
            cases hz : Nat.beq ie.size T.w with
            | false => rw [hz] at h; cases h
            | true =>
              rw [hz] at h
              simp only [cond_true] at h
              have hsz := Nat.eq_of_beq_eq_true hz
              split at h
              · rename_i h0
                refine ⟨_, h, fun w St Q β B M hM hS c ci hc hci => ?_⟩
                obtain ⟨rfl, _⟩ := rel_sc hci
                obtain ⟨loc, hb, hc⟩ := (show RelC w St Q β c (.ow id len) from hc)
                obtain ⟨fz', hM'⟩ := hS.arr hm
                rcases hc with ⟨_, rfl, _⟩ | ⟨b, hlb, rfl, hle⟩
                · exact absurd h0.2 (by have := h0.1; omega)
                · obtain ⟨cap, ⟨hb', _⟩ | ⟨b', cur, hb', hh, _⟩⟩ := hM.arr hM'
                  · rw [hb] at hb'; cases hb'; cases hlb
                  · rw [hb] at hb'; cases hb'; cases hlb
                    refine ⟨.pointer (some ⟨b, n.toNat * T.w, none⟩), ?_, ⟨b, cap, T.w, _, hb, by rw [Nat.add_zero]⟩⟩
                    simp [Instr.indexAt, run_underlying h1, asIntOf, h0.1, h0.2, run_size (hti _ _ hie), hsz, Addr.add_lit]
              · cases h
          · cases h
        · cases h
      · cases h
    · rename_i len e hd
      rw [hd] at h6
      obtain rfl : d = .array len e := h6
      split at h
      · rename_i p ie hie
        split at h
        · rename_i h0
          refine ⟨_, h, fun w St Q β B M hM hS c ci hc hci => ?_⟩
          obtain ⟨rfl, _⟩ := rel_sc hci
          obtain ⟨b, o, rfl, hm⟩ := rel_move (show RelP w St Q β c p from hc)
          refine ⟨_, ?_, hm (n.toNat * ie.size)⟩
          simp [Instr.indexAt, run_underlying h1, asIntOf, Instr.sureAddr, h0.1, h0.2, run_size (hti _ _ hie), Addr.add_lit]
        · cases h
      · cases h
    · cases h
  · cases h

theorem indexK_sound (hti : ∀ t i, E.ti t = some i → TIok E.P t i) {t : TypeId} {x ix : F} {K : Out → Option R} (h : indexK E t x ix K = some r) :
    ∃ y, K { v := y } = some r ∧ ∀ (w : World) (St Q : Stb) (β : Bet) (c ci : Value), RelF w St Q β c x → RelF w St Q β ci ix → ∃ v, (Instr.index t c ci).run E.P w = .ok v w ∧ RelF w St Q β v y := by
  unfold indexK at h
  simp only [ifs] at h
  split at h
  · rename_i i y n hi hn
    obtain ⟨kk, rfl⟩ := intF_some hn
    obtain ⟨d, j', h1, _, _, _, _, h6⟩ := hti _ _ hi
    split at h
    · rename_i s hd
      rw [hd] at h6
      obtain rfl : d = .string := h6
      split at h
      · rename_i h0
        cases hs : s[n.toNat]? with
        | none => rw [hs] at h; cases h
        | some b =>
          rw [hs] at h
          refine ⟨_, h, fun w St Q β c ci hc hci => ?_⟩
          obtain ⟨rfl, _⟩ := rel_sc hci
          obtain ⟨rfl, _⟩ := rel_sc (show RelF w St Q β c (.a (.c (.sc (.string s)))) from hc)
          exact ⟨_, by simp [Instr.index, run_underlying h1, asIntOf, h0, hs], rfl, rfl⟩
      · cases h
    · rename_i len e cs hd
      rw [hd] at h6
      obtain rfl : d = .array len e := h6
      split at h
      · rename_i ie hie
        split at h
        · rename_i h0
          obtain ⟨y, hy, hp⟩ := partK_sound h
          refine ⟨_, hy, fun w St Q β c ci hc hci => ?_⟩
          obtain ⟨rfl, _⟩ := rel_sc hci
          obtain ⟨arr, rfl, hc2⟩ := (show RelA w St Q β c (.ag cs) from hc)
          obtain ⟨hle, v, hv, hr⟩ := hp w St Q β _ hc2
          refine ⟨v, ?_, hr⟩
          simp only [Instr.index, Sem.run_bind, asIntOf, Sem.run_pure, Result.andThen_ok, run_underlying h1, h0.1, h0.2, and_self, if_true, run_size (hti _ _ hie)]
          exact run_part (hti _ _ hie) hle hv w
        · cases h
      · cases h
    · cases h
  · cases h

theorem lenK_sound (hti : ∀ t i, E.ti t = some i → TIok E.P t i) {t : TypeId} {x : F} {K : Out → Option R} (h : lenK E t x K = some r) :
    ∃ n : Int, K (outV (.int .i64 n)) = some r ∧ ∀ (w : World) (St Q : Stb) (β : Bet) (c : Value) (ty : TypeId), RelF w St Q β c x → (Builtin.len_ #[t] ty #[c]).run E.P w = .ok (.int .i64 n) w := by
  unfold lenK at h
  split at h
  · rename_i i y hi
    obtain ⟨d, j', h1, _, _, _, _, h6⟩ := hti _ _ hi
    split at h
    · rename_i s hd
      rw [hd] at h6
      obtain rfl : d = .string := h6
      refine ⟨_, h, fun w St Q β c ty hc => ?_⟩
      obtain ⟨rfl, _⟩ := rel_sc (show RelF w St Q β c (.a (.c (.sc (.string s)))) from hc)
      simp [Builtin.len_, run_underlying h1, goInt]
    · rename_i e T xs hd
      rw [hd] at h6
      obtain rfl : d = .slice e := h6
      refine ⟨_, h, fun w St Q β c ty hc => ?_⟩
      obtain ⟨c', hc', hc⟩ := (show RelSl w St T c xs from hc)
      cases hc'
      rcases hc with ⟨rfl, rfl⟩ | ⟨b, o, s, cap, rfl, hle, hel⟩ <;> simp [Builtin.len_, run_underlying h1, goInt]
    · rename_i e hd
      rw [hd] at h6
      obtain rfl : d = .slice e := h6
      refine ⟨_, h, fun w St Q β c ty hc => ?_⟩
      obtain rfl : c = .slice none 0 0 := hc
      simp [Builtin.len_, run_underlying h1, goInt]
    · rename_i e id len hd
      rw [hd] at h6
      obtain rfl : d = .slice e := h6
      refine ⟨_, h, fun w St Q β c ty hc => ?_⟩
      obtain ⟨loc, hb, ⟨_, rfl, rfl⟩ | ⟨b, hlb, rfl, hle⟩⟩ := (show RelC w St Q β c (.ow id len) from hc) <;> simp [Builtin.len_, run_underlying h1, goInt]
    · cases h
  · cases h

theorem maxV_run {a b v : Value} (h : maxV a b = some v) (w : World) : (Builtin.max2 a b).run P w = .ok v w ∧ plain v = true := by
  unfold maxV at h; split at h
  · cases h; exact ⟨rfl, rfl⟩
  · cases h
theorem minV_run {a b v : Value} (h : minV a b = some v) (w : World) : (Builtin.min2 a b).run P w = .ok v w ∧ plain v = true := by
  unfold minV at h; split at h
  · cases h; exact ⟨rfl, rfl⟩
  · cases h

theorem foldV_run {f : Value → Value → Option Value} {g : Value → Value → Sem Value} (hfg : ∀ a b v, f a b = some v → ∀ w, (g a b).run P w = .ok v w ∧ plain v = true)
    {w0 : World} {St Q : Stb} {β : Bet} : ∀ (l : List F) (cs : List Value) (a v : Value), plain a = true → All2 (RelF w0 St Q β) cs l → foldV f a l = some v → ∀ w, (cs.foldlM g a).run P w = .ok v w ∧ plain v = true
  | [], [], a, v, hp, _, h, w => by simp only [foldV, Option.some.injEq] at h; subst h; exact ⟨rfl, hp⟩
  | x :: l, c :: cs, a, v, hp, ⟨h1, h2⟩, h, w => by
    unfold foldV at h
    split at h
    · rename_i heq; cases heq
    · rename_i b r0 heq
      cases heq
      obtain ⟨rfl, _⟩ := rel_sc h1
      split at h
      · rename_i y hy
        obtain ⟨e1, e2⟩ := hfg _ _ _ hy w
        have := foldV_run hfg l cs y v e2 h2 h w
        rw [List.foldlM_cons, Sem.run_bind, e1]
        exact this
      · cases h
    · cases h
  | [], _ :: _, _, _, _, h, _, _ => h.elim
  | _ :: _, [], _, _, _, h, _, _ => h.elim

end
end Go.Proofs.Ytefhcmkiachphaa.Ab
end
section
/- The machine's state: rows that nobody writes any more, new rows, and the operations that make them. -/
set_option linter.unusedVariables false
set_option linter.unusedSimpArgs false
namespace Go.Proofs.Ytefhcmkiachphaa.Ab
open Go Go.RowKit

theorem RelL.mono {w w' : World} {St St' : Stb} (hE : Ext w St w' St') {T : Ty} {l : List Value} {xs : List T.den} (h : RelL w St T l xs) : RelL w' St' T l xs :=
  fun i x hx => RelT.mono hE T _ x (h i x hx)

theorem RowAt.mono {w w' : World} {St St' Q : Stb} {β β' : Bet} (hk : Keep w St β Q w' St' β') {loc : Loc} {r : Row} {n : Nat} (hh : ∀ b, loc.b = some b → w'.heap[b]? = w.heap[b]?)
    (h : RowAt w St Q β loc r n) : RowAt w' St' Q β' loc r n := by
  cases h with
  | box t T cells fz b cur hl hg hr ho =>
    subst hl
    exact .box t T cells fz b cur rfl ((hh b rfl).trans hg) (All2.imp (fun _ _ => RelC.mono hk) _ _ hr) ho
  | nil e T fz cap hl => exact .nil e T fz cap hl
  | arr e T xs fz b cap cur hl hg hs hx hm hr =>
    subst hl
    exact .arr e T xs fz b cap cur rfl ((hh b rfl).trans hg) hs hx hm (hr.mono hk.ext)

theorem RowAt.freeze {w : World} {St Q : Stb} {β : Bet} {loc : Loc} {r : Row} {n : Nat} (h : RowAt w St Q β loc r n) : RowAt w St Q β loc r.freeze n := by
  cases h with
  | box t T cells fz b cur hl hg hr ho => exact .box t T cells true b cur hl hg hr ho
  | nil e T fz cap hl => exact .nil e T true cap hl
  | arr e T xs fz b cap cur hl hg hs hx hm hr => exact .arr e T xs true b cap cur hl hg hs hx hm hr

theorem RowAt.lt {w : World} {St Q : Stb} {β : Bet} {loc : Loc} {r : Row} {n : Nat} (h : RowAt w St Q β loc r n) {b : Nat} (hb : loc.b = some b) : b < w.heap.size := by
  cases h with
  | box t T cells fz b' cur hl hg hr ho => subst hl; cases hb; exact (Array.getElem?_eq_some_iff.1 hg).1
  | nil e T fz cap hl => subst hl; cases hb
  | arr e T xs fz b' cap cur hl hg hs hx hm hr => subst hl; cases hb; exact (Array.getElem?_eq_some_iff.1 hg).1

theorem Row.fz_freeze (r : Row) : r.freeze.fz = true := by cases r <;> rfl
theorem Row.freeze_freeze (r : Row) : r.freeze.freeze = r.freeze := by cases r <;> rfl

/-- These rows are not written any more. -/
def stF (β : Bet) (M : Nat → Option Row) (St : Stb) (ids : List Nat) : Stb := fun b o =>
  St b o ∨ ∃ id, id ∈ ids ∧ ∃ r loc, M id = some r ∧ β id = some loc ∧ loc.b = some b ∧ o < r.n

def frz (M : Nat → Option Row) (ids : List Nat) : Nat → Option Row := fun id => if id ∈ ids then (M id).map Row.freeze else M id

theorem frz_keep (w : World) (St Q : Stb) (β : Bet) (M : Nat → Option Row) (ids : List Nat) : Keep w St β Q w (stF β M St ids) β :=
  ⟨fun _ _ h => ⟨.inl h, rfl⟩, fun _ _ _ => rfl, fun _ _ h => h⟩

theorem frz_some {M : Nat → Option Row} {ids : List Nat} {id : Nat} {r : Row} (h : frz M ids id = some r) : ∃ r0, M id = some r0 ∧ (r = r0 ∨ r = r0.freeze) := by
  unfold frz at h
  split at h
  · cases hm : M id with
    | none => rw [hm] at h; cases h
    | some r0 => rw [hm] at h; cases h; exact ⟨r0, rfl, .inr rfl⟩
  · exact ⟨r, h, .inl rfl⟩

theorem frz_mem {w : World} {St Q : Stb} {β : Bet} {B : Base} {M : Nat → Option Row} (hM : MemRel w St Q β B M) (ids : List Nat) : MemRel w (stF β M St ids) Q β B (frz M ids) := by
  refine ⟨fun id r hr => ?_, fun id id' r r' l l' b h h' hne hl hl' hb => ?_⟩
  · have hr0 := hr
    unfold frz at hr
    split at hr
    · rename_i hin
      cases hm : M id with
      | none => rw [hm] at hr; cases hr
      | some r0 =>
        rw [hm] at hr; cases hr
        obtain ⟨loc, n, hb, hat, hst⟩ := hM.row _ _ hm
        have hn := hat.n_eq
        refine ⟨loc, n, hb, (hat.mono (frz_keep w St Q β M ids) (fun _ _ => rfl)).freeze, fun b hlb => ?_⟩
        obtain ⟨h1, h2, h3⟩ := hst b hlb
        refine ⟨h1, fun o ho => ⟨Row.fz_freeze _, ?_⟩, fun _ o ho => .inr ⟨id, hin, r0, loc, hm, hb, hlb, hn ▸ ho⟩⟩
        rcases ho with ho | ⟨id', _, r', loc', hm', hb', hlb', ho⟩
        · exact (h2 o ho).2
        · by_cases he : id = id'
          · subst he; rw [hm] at hm'; cases hm'; rw [hn]; exact ho
          · exact absurd hlb' (hM.dist id id' _ _ _ _ b hm hm' he hb hb' hlb)
    · rename_i hin
      obtain ⟨loc, n, hb, hat, hst⟩ := hM.row _ _ hr
      refine ⟨loc, n, hb, hat.mono (frz_keep w St Q β M ids) (fun _ _ => rfl), fun b hlb => ?_⟩
      obtain ⟨h1, h2, h3⟩ := hst b hlb
      refine ⟨h1, fun o ho => ?_, fun hf o ho => .inl (h3 hf o ho)⟩
      rcases ho with ho | ⟨id', hin', r', loc', hm', hb', hlb', ho⟩
      · exact h2 o ho
      · by_cases he : id = id'
        · subst he; exact absurd hin' hin
        · exact absurd hlb' (hM.dist id id' _ _ _ _ b hr hm' he hb hb' hlb)
  · obtain ⟨r0, h0, _⟩ := frz_some h
    obtain ⟨r0', h0', _⟩ := frz_some h'
    exact hM.dist id id' _ _ _ _ b h0 h0' hne hl hl' hb

theorem frz_pre {w : World} {St Q : Stb} {β : Bet} {B : Base} {M : Nat → Option Row} {new : Nat} (h : Pre w St Q β B M new) (ids : List Nat) : Pre w (stF β M St ids) Q β B (frz M ids) new := by
  refine ⟨fun b o ho => ?_, h.qb, h.bh, frz_mem h.mem ids, h.bn⟩
  rcases ho with ho | ⟨id, _, r, loc, hm, hb, hlb, _⟩
  · exact h.st b o ho
  · obtain ⟨loc', n, hb', hat, _⟩ := h.mem.row _ _ hm
    rw [hb] at hb'; cases hb'
    exact hat.lt hlb

/-- What is new in the stable part lies from B on. -/
theorem frz_new {w : World} {St Q : Stb} {β : Bet} {B : Base} {M : Nat → Option Row} (hM : MemRel w St Q β B M) (ids : List Nat) : ∀ b o, stF β M St ids b o → St b o ∨ B.may b := by
  rintro b o (ho | ⟨id, _, r, loc, hm, hb, hlb, _⟩)
  · exact .inl ho
  · obtain ⟨loc', n, hb', hat, hst⟩ := hM.row _ _ hm
    rw [hb] at hb'; cases hb'
    exact .inr (hst b hlb).1

/-- A good end behind a freezing is a good end. -/
theorem Good.freeze {w : World} {St Q : Stb} {β : Bet} {B : Base} {new : Nat} {M : Nat → Option Row} (hp : Pre w St Q β B M new) (ids : List Nat) {v : Value} {w' : World} {St' : Stb} {β' : Bet} {x : F} {M' : Nat → Option Row}
    (h : Good w (stF β M St ids) Q β B new v w' St' β' x M') : Good w St Q β B new v w' St' β' x M' :=
  ⟨h.below, (frz_keep w St Q β M ids).trans h.keep, h.rel, h.mem, h.st, fun b o ho => (h.stn b o ho).elim (fun h1 => frz_new hp.mem ids b o h1) .inr, h.bnew⟩

/-- A slice of the call's own, as_ data, where its row is not written any more. -/
theorem ow_sl {w : World} {St Q : Stb} {β : Bet} {B : Base} {M : Nat → Option Row} (hM : MemRel w St Q β B M) {ids : List Nat} {id len : Nat} (hin : id ∈ ids) {e : TypeId} {T : Ty} {xs : List T.den} {fz : Bool}
    (hr : M id = some (.arr e T xs fz)) {c : Value} (hc : RelC w St Q β c (.ow id len)) : len ≤ xs.length ∧ RelSl w (stF β M St ids) T c (xs.take len) := by
  obtain ⟨loc, hb, hc⟩ := hc
  obtain ⟨cap, ⟨hb', rfl⟩ | ⟨b, cur, hb', hh, hs, hx, hmx, hrel, hB, _⟩⟩ := hM.arr hr
  · rw [hb] at hb'; cases hb'
    rcases hc with ⟨_, rfl, rfl⟩ | ⟨b, hlb, _⟩
    · exact ⟨by simp, _, rfl, .inl ⟨rfl, by simp⟩⟩
    · cases hlb
  · rw [hb] at hb'; cases hb'
    rcases hc with ⟨h0, _⟩ | ⟨b', hlb, rfl, hle⟩
    · cases h0
    · cases hlb
      refine ⟨hle, _, rfl, .inr ⟨b, 0, none, cap, by rw [List.length_take, Nat.min_eq_left hle], by rw [List.length_take]; omega, fun i x hi => ?_⟩⟩
      have hxi : xs[i]? = some x := by
        rw [List.getElem?_take] at hi
        split at hi
        · exact hi
        · cases hi
      have hil := (List.getElem?_eq_some_iff.1 hxi).1
      obtain ⟨hT, hcells⟩ := elem_cells hrel hxi
      refine ⟨rfl, _, RelT.mono (frz_keep w St Q β M ids).ext T _ x hT, fun j c hj => ⟨.inr ⟨id, hin, _, _, hr, hb, rfl, ?_⟩, ?_⟩⟩
      · have hjl := (List.getElem?_eq_some_iff.1 hj).1
        rw [RelT.length T _ _ hT] at hjl
        show 0 + i * T.w + j < xs.length * T.w
        have : (i + 1) * T.w ≤ xs.length * T.w := Nat.mul_le_mul_right _ hil
        rw [Nat.add_mul] at this
        omega
      · rw [cell_row hh, Nat.zero_add]
        simpa using hcells j c hj

theorem owIds_mem {cs : List C} {id len : Nat} (h : C.ow id len ∈ cs) : id ∈ owIds cs := by
  induction cs with
  | nil => cases h
  | cons x cs ih =>
    rcases List.mem_cons.1 h with rfl | h'
    · simp [owIds]
    · have := ih h'
      cases x <;> simp [owIds, this]

/-- A cell, its slices of the call's own told as_ data. -/
theorem reC0_rel {w : World} {St Q : Stb} {β : Bet} {B : Base} {M m : Nat → Option Row} (hM : MemRel w St Q β B M) (hS : Sees m M) {ids : List Nat} {x : C} (hin : ∀ id len, x = .ow id len → id ∈ ids)
    {c : Value} (hc : RelC w St Q β c x) : RelC w (stF β M St ids) Q β c (reC0 m x) := by
  have hk := frz_keep w St Q β M ids
  cases x with
  | ow id len =>
    simp only [reC0]
    split
    · rename_i e T xs fz hm
      obtain ⟨fz', hM'⟩ := hS.arr hm
      exact (ow_sl hM (hin _ _ rfl) hM' hc).2
    · trivial
  | _ => exact RelC.mono hk hc

theorem reC0_all {w : World} {St Q : Stb} {β : Bet} {B : Base} {M m : Nat → Option Row} (hM : MemRel w St Q β B M) (hS : Sees m M) {ids : List Nat} : ∀ {cs : List C} {l : List Value}, (∀ id len, C.ow id len ∈ cs → id ∈ ids) →
    All2 (RelC w St Q β) l cs → All2 (RelC w (stF β M St ids) Q β) l (cs.map (reC0 m))
  | [], [], _, _ => trivial
  | x :: cs, c :: l, hin, ⟨h1, h2⟩ =>
    ⟨reC0_rel hM hS (fun id len h => hin id len (h ▸ List.mem_cons_self ..)) h1, reC0_all hM hS (fun id len h => hin id len (List.mem_cons_of_mem _ h)) h2⟩
  | [], _ :: _, _, h => h.elim
  | _ :: _, [], _, h => h.elim

/-! ### A new block -/
/-- The world with a new block: all that was there stays. -/
theorem alloc_keep {w : World} {St Q : Stb} {β : Bet} {B : Base} (hst : StOK w St) (hqb : ∀ b o, Q b o → b < B.n ∧ ¬ B.own b) (hbh : B.n ≤ w.heap.size) (o : Obj) {β' : Bet} (hβ : ∀ id l, β id = some l → β' id = some l)
    {St' : Stb} (hS : ∀ b o, St b o → St' b o) : Keep w St β Q (w.alloc o) St' β' := by
  refine ⟨fun b p h => ⟨hS b p h, ?_⟩, fun b p h => ?_, hβ⟩
  · exact World.cell?_of_block (w := w) (Below.heap_alloc w o b (hst b p h))
  · exact World.cell?_of_block (w := w) (Below.heap_alloc w o b (Nat.lt_of_lt_of_le (hqb b p h).1 hbh))

/-- One row more. -/
theorem MemRel.add {w w' : World} {St St' Q : Stb} {β : Bet} {B : Base} {M : Nat → Option Row} (hM : MemRel w St Q β B M) {new : Nat} {loc : Loc} {r : Row} (hnew : β new = none)
    (hk : Keep w St β Q w' St' (fun id => if id = new then some loc else β id)) (hh : ∀ b, b < w.heap.size → w'.heap[b]? = w.heap[b]?)
    (hS : ∀ b o, St' b o → St b o) (hr : RowAt w' St' Q (fun id => if id = new then some loc else β id) loc r r.n) (hlb : ∀ b, loc.b = some b → b = w.heap.size ∧ B.may b) (hst : StOK w St) (hfz : r.fz = false) :
    MemRel w' St' Q (fun id => if id = new then some loc else β id) B (fun id => if id = new then some r else M id) := by
  have hne : ∀ id r0, M id = some r0 → id ≠ new := fun id r0 h he => by
    subst he
    obtain ⟨loc, n, hb, _⟩ := hM.row _ _ h
    rw [hnew] at hb; cases hb
  refine ⟨fun id r0 h => ?_, fun id id' r0 r0' l l' b h h' hne' hl hl' hb => ?_⟩
  · by_cases he : id = new
    · subst he
      simp only [if_true, Option.some.injEq] at h
      subst h
      refine ⟨loc, r.n, by simp, hr, fun b hb => ⟨(hlb b hb).2, fun o ho => ?_, fun hf => by rw [hfz] at hf; cases hf⟩⟩
      have := hst b o (hS b o ho)
      have := (hlb b hb).1
      omega
    · rw [if_neg he] at h
      obtain ⟨l0, n, hb, hat, hst0⟩ := hM.row _ _ h
      refine ⟨l0, n, by simp [he, hb], hat.mono hk (fun b hb' => hh b (hat.lt hb')), fun b hb' => ?_⟩
      obtain ⟨h1, h2, h3⟩ := hst0 b hb'
      exact ⟨h1, fun o ho => h2 o (hS b o ho), fun hf o ho => (hk.ext b o (h3 hf o ho)).1⟩
  · by_cases he : id = new
    · subst he
      have he' : id' ≠ id := fun e => hne' e.symm
      rw [if_neg he'] at h' hl'
      simp only [if_true, Option.some.injEq] at hl
      subst hl
      obtain ⟨l0, n, hb0, hat, _⟩ := hM.row _ _ h'
      rw [hl'] at hb0; cases hb0
      intro hb'
      have := hat.lt hb'
      have := (hlb b hb).1
      omega
    · rw [if_neg he] at h hl
      by_cases he' : id' = new
      · subst he'
        simp only [if_true, Option.some.injEq] at hl'
        subst hl'
        obtain ⟨l0, n, hb0, hat, _⟩ := hM.row _ _ h
        rw [hl] at hb0; cases hb0
        intro hb'
        have := hat.lt hb
        have := (hlb b hb').1
        omega
      · rw [if_neg he'] at h' hl'
        exact hM.dist id id' _ _ _ _ b h h' hne' hl hl' hb

theorem appM_row (M : Nat → Option Row) (new : Nat) (v : F) (r : Row) : appM M new { v := v, rows := [r] } = fun id => if id = new then some r else M id := by
  funext id
  simp only [appM, List.length_cons, List.length_nil, Nat.zero_add]
  by_cases h : id = new
  · subst h; simp
  · rw [if_neg (by omega), if_neg h]; simp [lookU]

theorem appM_row_fz (M : Nat → Option Row) (new : Nat) (v : F) (r : Row) (fz : List Nat) : appM M new { v := v, rows := [r], fz := fz } = fun id => if id = new then some r else frz M fz id := by
  funext id
  simp only [appM, List.length_cons, List.length_nil, Nat.zero_add]
  by_cases h : id = new
  · subst h; simp
  · rw [if_neg (by omega), if_neg h]; simp [frz, lookU]

/-- Good: a new row at 'new'. -/
theorem Good.alloc {w : World} {St Q : Stb} {β : Bet} {B : Base} {new : Nat} {M : Nat → Option Row} (hp : Pre w St Q β B M new) {o : Obj} {loc : Loc} {row : Row} {v : Value} {x : F}
    (hloc : ∀ b, loc.b = some b → b = w.heap.size) (hfz : row.fz = false)
    (hrow : Keep w St β Q (w.alloc o) St (fun id => if id = new then some loc else β id) → RowAt (w.alloc o) St Q (fun id => if id = new then some loc else β id) loc row row.n)
    (hv : RelF (w.alloc o) St Q (fun id => if id = new then some loc else β id) v x) :
    Good w St Q β B new v (w.alloc o) St (fun id => if id = new then some loc else β id) x (fun id => if id = new then some row else M id) := by
  have hn : β new = none := by simpa using hp.bn 0 (by omega)
  have hk : Keep w St β Q (w.alloc o) St (fun id => if id = new then some loc else β id) :=
    alloc_keep hp.st hp.qb hp.bh o (fun id l hl => by
      by_cases he : id = new
      · subst he; rw [hn] at hl; cases hl
      · simp [he, hl]) (fun _ _ h => h)
  refine ⟨(Bel.refl _ _).alloc hp.bh o, hk, hv, hp.mem.add hn hk (fun b hb => Below.heap_alloc w o b hb) (fun _ _ h => h) (hrow hk) (fun b hb => ⟨hloc b hb, .inl (by have := hp.bh; have := hloc b hb; omega)⟩) hp.st hfz, fun b p h => ?_, fun _ _ h => .inl h, fun id hid => ?_⟩
  · have := hp.st b p h
    show b < (w.heap.push o).size
    simp; omega
  · by_cases he : id = new
    · omega
    · exact absurd (by simp [he]) hid

end Go.Proofs.Ytefhcmkiachphaa.Ab
end
section
/- The machine's operations that make or write memory: variables, stores, append. -/
set_option linter.unusedVariables false
set_option linter.unusedSimpArgs false
namespace Go.Proofs.Ytefhcmkiachphaa.Ab
open Go Go.RowKit

section
variable {P : Program} {R : Type} {r : R} {E : Env}

theorem absC_rel (w : World) (St Q : Stb) (β : Bet) (v : Value) : RelC w St Q β v (absC v) := by
  unfold absC
  split
  · rfl
  · cases hp : plain v with
    | true => exact ⟨rfl, hp⟩
    | false => trivial

theorem absC_all (w : World) (St Q : Stb) (β : Bet) : ∀ l : List Value, All2 (RelC w St Q β) l (l.map absC)
  | [] => trivial
  | v :: l => ⟨absC_rel w St Q β v, absC_all w St Q β l⟩

theorem absA_rel (w : World) (St Q : Stb) (β : Bet) (v : Value) : RelA w St Q β v (absA v) := by
  unfold absA
  split
  · exact ⟨_, rfl, absC_all _ _ _ _ _⟩
  · exact absC_rel _ _ _ _ _

theorem Bel.setRow {B : Base} {g : Nat} {a w : World} (h : Bel B a w) (hg : B.may g) (cs : Array Value) : Bel B a (w.setRow g cs) :=
  h.trans ⟨rfl, rfl, rfl, by simp [World.setRow], fun k hk hn => setRow_other w g k cs (fun e => by subst e; exact hg.elim (fun h => by omega) hn)⟩

/-- An end behind which one block that nobody else knows may hold other cells, and there may be new blocks. -/
theorem Good.touch {w w' : World} {St Q : Stb} {β β' : Bet} {B : Base} {new : Nat} {M M' : Nat → Option Row} {v : Value} {x : F} (hp : Pre w St Q β B M new) (b0 : Option Nat)
    (hb0 : ∀ b, b0 = some b → B.may b ∧ ∀ o, ¬ St b o) (hbelow : Bel B w w') (hh : ∀ b, b < w.heap.size → b0 ≠ some b → w'.heap[b]? = w.heap[b]?)
    (hβ : ∀ id l, β id = some l → β' id = some l) (hβn : ∀ id, β' id ≠ β id → new ≤ id ∧ id < new + 4)
    (hmem : Keep w St β Q w' St β' → MemRel w' St Q β' B M') (hrel : Keep w St β Q w' St β' → RelF w' St Q β' v x) : Good w St Q β B new v w' St β' x M' := by
  have hk : Keep w St β Q w' St β' := by
    refine ⟨fun b o h => ⟨h, World.cell?_of_block (w := w) (hh b (hp.st b o h) (fun e => (hb0 b e).2 o h))⟩, fun b o h => ?_, hβ⟩
    have h1 := hp.qb b o h
    exact World.cell?_of_block (w := w) (hh b (Nat.lt_of_lt_of_le h1.1 hp.bh) (fun e => (hb0 b e).1.elim (fun h => by have := h1.1; omega) h1.2))
  exact ⟨hbelow, hk, hrel hk, hmem hk, fun b o h => Nat.lt_of_lt_of_le (hp.st b o h) hbelow.size, fun _ _ h => .inl h, hβn⟩

theorem MemRel.upd {w w' : World} {St Q : Stb} {β : Bet} {B : Base} {M : Nat → Option Row} (hM : MemRel w St Q β B M) {id : Nat} {r0 r' : Row} {loc : Loc} {b : Nat} (hr : M id = some r0) (hβ : β id = some loc) (hlb : loc.b = some b)
    (hh : ∀ k, k < w.heap.size → some b ≠ some k → w'.heap[k]? = w.heap[k]?) (hk : Keep w St β Q w' St β) (hrow : RowAt w' St Q β loc r' r'.n) (hB : B.may b) (hst : ∀ o, ¬ St b o) (hfz : r'.fz = false) :
    MemRel w' St Q β B (fun i => if i = id then some r' else M i) := by
  refine ⟨fun i r1 h => ?_, fun i i' r1 r1' l l' b' h h' hne hl hl' hb => ?_⟩
  · by_cases he : i = id
    · subst he
      simp only [if_true, Option.some.injEq] at h
      subst h
      refine ⟨loc, r'.n, hβ, hrow, fun b' hb' => ?_⟩
      rw [hlb] at hb'; cases hb'
      exact ⟨hB, fun o ho => absurd ho (hst o), fun hf => by rw [hfz] at hf; cases hf⟩
    · rw [if_neg he] at h
      obtain ⟨l0, n, hb, hat, hst0⟩ := hM.row _ _ h
      refine ⟨l0, n, hb, hat.mono hk (fun b' hb' => hh b' (hat.lt hb') (fun e => ?_)), hst0⟩
      cases e
      exact hM.dist i id _ _ _ _ b h hr he hb hβ hb' hlb
  · have h1 : ∃ r2, M i = some r2 := by
      by_cases he : i = id
      · subst he; exact ⟨_, hr⟩
      · rw [if_neg he] at h; exact ⟨_, h⟩
    have h2 : ∃ r2, M i' = some r2 := by
      by_cases he : i' = id
      · subst he; exact ⟨_, hr⟩
      · rw [if_neg he] at h'; exact ⟨_, h'⟩
    obtain ⟨_, h1⟩ := h1
    obtain ⟨_, h2⟩ := h2
    exact hM.dist i i' _ _ _ _ b' h1 h2 hne hl hl' hb

/-- A row in the place of another one: its block is the elder's, or a new one. -/
theorem MemRel.repl {w w' : World} {St Q : Stb} {β : Bet} {B : Base} {M : Nat → Option Row} (hM : MemRel w St Q β B M) {id new : Nat} {r0 r' : Row} {loc loc' : Loc} (hnew : β new = none) (hr : M id = some r0) (hβ : β id = some loc)
    (hh : ∀ k, k < w.heap.size → loc.b ≠ some k → w'.heap[k]? = w.heap[k]?) (hk : Keep w St β Q w' St (fun i => if i = new then some loc' else β i))
    (hrow : RowAt w' St Q (fun i => if i = new then some loc' else β i) loc' r' r'.n) (hB : ∀ b, loc'.b = some b → B.may b ∧ (∀ o, ¬ St b o) ∧ (loc.b = some b ∨ w.heap.size ≤ b)) (hfz : r'.fz = false) :
    MemRel w' St Q (fun i => if i = new then some loc' else β i) B (fun i => if i = new then some r' else if i = id then none else M i) := by
  have hne0 : id ≠ new := fun e => by subst e; rw [hnew] at hβ; cases hβ
  have key : ∀ i r1, M i = some r1 → i ≠ id → ∀ l, β i = some l → ∀ b, l.b = some b → b < w.heap.size ∧ loc.b ≠ some b := fun i r1 h hi l hl b hb => by
    obtain ⟨l0, n, hb0, hat, _⟩ := hM.row _ _ h
    rw [hl] at hb0; cases hb0
    exact ⟨hat.lt hb, hM.dist i id _ _ _ _ b h hr hi hl hβ hb⟩
  refine ⟨fun i r1 h => ?_, fun i i' r1 r1' l l' b' h h' hne hl hl' hb => ?_⟩
  · by_cases he : i = new
    · subst he
      simp only [if_true, Option.some.injEq] at h
      subst h
      exact ⟨loc', r'.n, by simp, hrow, fun b hb => ⟨(hB b hb).1, fun o ho => absurd ho ((hB b hb).2.1 o), fun hf => by rw [hfz] at hf; cases hf⟩⟩
    · rw [if_neg he] at h
      by_cases he2 : i = id
      · rw [if_pos he2] at h; cases h
      · rw [if_neg he2] at h
        obtain ⟨l0, n, hb, hat, hst0⟩ := hM.row _ _ h
        exact ⟨l0, n, by simp [he, hb], hat.mono hk (fun b' hb' => let ⟨a, c⟩ := key i _ h he2 _ hb b' hb'; hh b' a c), hst0⟩
  · by_cases he : i = new
    · subst he
      simp only [if_true, Option.some.injEq] at hl
      subst hl
      have hi' : i' ≠ i := fun e => hne e.symm
      rw [if_neg hi'] at h' hl'
      by_cases he2 : i' = id
      · rw [if_pos he2] at h'; cases h'
      · rw [if_neg he2] at h'
        intro hb'
        obtain ⟨a, c⟩ := key i' _ h' he2 _ hl' b' hb'
        rcases (hB b' hb).2.2 with h3 | h3
        · exact c h3
        · omega
    · rw [if_neg he] at h hl
      by_cases he2 : i = id
      · rw [if_pos he2] at h; cases h
      · rw [if_neg he2] at h
        obtain ⟨a, c⟩ := key i _ h he2 _ hl b' hb
        by_cases he' : i' = new
        · subst he'
          simp only [if_true, Option.some.injEq] at hl'
          subst hl'
          intro hb'
          rcases (hB b' hb').2.2 with h3 | h3
          · exact c h3
          · omega
        · rw [if_neg he'] at h' hl'
          by_cases he3 : i' = id
          · rw [if_pos he3] at h'; cases h'
          · rw [if_neg he3] at h'
            exact hM.dist i i' _ _ _ _ b' h h' hne hl hl' hb

theorem appM_none {M : Nat → Option Row} {new : Nat} {o : OutM} (h : o.rows = []) (hu : o.ups = []) : appM M new o = fun id => (if id ∈ o.fz then (match o.upd with | some (i, r) => if id = i then r else M id | none => M id).map Row.freeze else (match o.upd with | some (i, r) => if id = i then r else M id | none => M id)) := by
  funext id
  unfold appM
  rw [h, hu, if_neg (fun x => by have h2 := x.2; rw [List.length_nil] at h2; omega)]
  all_goals rfl

theorem setAt_rel {w : World} {St Q : Stb} {β : Bet} {l l' : List Value} {cs xs : List C} (h : All2 (RelC w St Q β) l cs) (h' : All2 (RelC w St Q β) l' xs) (j : Nat) :
    All2 (RelC w St Q β) (l.take j ++ l' ++ l.drop (j + l'.length)) (setAt cs j xs) := by
  unfold setAt
  rw [All2.length _ _ h']
  exact All2.append _ _ _ _ (All2.append _ _ _ _ (All2.take j _ _ h) h') (All2.drop _ _ _ h)

theorem setAt_length {cs xs : List C} {j : Nat} (h : j + xs.length ≤ cs.length) : (setAt cs j xs).length = cs.length := by
  simp only [setAt, List.length_append, List.length_take, List.length_drop]; omega

/-- The store of a value of some cells into a block. -/
theorem run_storeAt {t : TypeId} {i : TI} (hi : TIok P t i) {b o : Nat} {v : Value} {l : List Value} (hv : v.cells.toList = l) (hl : l.length = i.size) {cur : Array Value} {et : TypeId} {w : World}
    (hg : w.heap[b]? = some (.cells cur et (0, 0))) (hfit : o + l.length ≤ cur.size) (hone : ∀ c ∈ l, c.oneCell' = true) :
    (Instr.storeAt t (.pointer (some ⟨b, o, none⟩)) v).run P w = .ok () (w.setRow b (cur.toList.take o ++ l ++ cur.toList.drop (o + l.length)).toArray) := by
  have hs := run_storeCells_at P b o et l 0 cur w hg (by simpa using hfit) hone
  simp only [Nat.add_zero] at hs
  have hsz : ¬ v.cells.size ≠ i.size := by rw [← hl, ← hv]; simp
  simp only [Instr.storeAt, Instr.sureAddr, Sem.run_bind, Sem.run_pure, Result.andThen_ok, storeVar, run_size hi, hsz, if_false, hv, hs]

theorem splice_at {α : Type} {l v : List α} {o j n : Nat} (h : j + v.length ≤ n) (hl : o + n ≤ l.length) :
    ((l.take (o + j) ++ v ++ l.drop (o + j + v.length)).drop o).take n = ((l.drop o).take n).take j ++ v ++ ((l.drop o).take n).drop (j + v.length) := by
  apply List.ext_getElem?
  intro i
  simp only [List.getElem?_take, List.getElem?_drop, List.getElem?_append, List.length_append, List.length_take, List.length_drop]
  have h1 : min (o + j) l.length = o + j := by omega
  have h2 : min j (min n (l.length - o)) = j := by omega
  rw [h1, h2]
  by_cases hn : i < n
  · by_cases a : i < j
    · simp [hn, a, show o + i < o + j + v.length by omega, show o + i < o + j by omega, show i < j + v.length by omega]
    · by_cases c : i < j + v.length
      · have e : o + i - (o + j) = i - j := by omega
        simp [hn, a, c, show o + i < o + j + v.length by omega, show ¬ o + i < o + j by omega, e]
      · have e : o + j + v.length + (o + i - (o + j + v.length)) = o + (j + v.length + (i - (j + v.length))) := by omega
        have e2 : j + v.length + (i - (j + v.length)) < n := by omega
        simp [hn, c, show ¬ o + i < o + j + v.length by omega, e, e2]
  · have a : ¬ i < j + v.length := by omega
    have e2 : ¬ (j + v.length + (i - (j + v.length)) < n) := by omega
    simp [hn, a, e2]

theorem splice_off {α : Type} {l v : List α} {o n p : Nat} (h : o + v.length ≤ l.length) (hd : p + n ≤ o ∨ o + v.length ≤ p) :
    ((l.take o ++ v ++ l.drop (o + v.length)).drop p).take n = (l.drop p).take n := by
  apply List.ext_getElem?
  intro i
  simp only [List.getElem?_take, List.getElem?_drop, List.getElem?_append, List.length_append, List.length_take, List.length_drop]
  have h1 : min o l.length = o := by omega
  rw [h1]
  by_cases hn : i < n
  · rcases hd with hd | hd
    · simp [hn, show p + i < o + v.length by omega, show p + i < o by omega]
    · have e : o + v.length + (p + i - (o + v.length)) = p + i := by omega
      simp [hn, show ¬ p + i < o + v.length by omega, e]
  · simp [hn]

theorem storeK_sound (hti : ∀ t i, E.ti t = some i → TIok E.P t i) {m : Nat → Option Row} {p : Pt} {i : TI} {x : A} {K : Out → Option R} (h : storeK m p i x K = some r) :
    ∃ out : Out, K out = some r ∧ out.v = F.jk ∧ out.row = none ∧ (∀ id x, out.upd = some (id, x) → (m id).isSome = true) ∧ ∀ (w : World) (St Q : Stb) (β : Bet) (B : Base) (new : Nat) (M : Nat → Option Row), Pre w St Q β B M new → SeesX true m M →
      ∀ t, TIok E.P t i → ∀ c v, RelP w St Q β c p → RelA w St Q β v x → ∃ w' St' β', (Instr.storeAt t c v).run E.P w = .ok () w' ∧ Good w St Q β B new undef w' St' β' F.jk (appM M new out.many) := by
  unfold storeK at h
  split at h
  · rename_i id e j
    split at h
    · rename_i t0 T0 cs fz hm
      split at h
      · cases hb : (Nat.ble (j + i.size) cs.length && Nat.beq x.cells.length i.size && cellsOk x.cells) with
        | false => rw [hb] at h; cases h
        | true =>
          rw [hb] at h
          simp only [Bool.and_eq_true] at hb
          refine ⟨_, h, rfl, rfl, (fun id' x' hx' => by cases hx'; rw [hm]; rfl), fun w St Q β B new M hp hS t ht c v hc hv => ?_⟩
          have hM' : M id = some (.box t0 T0 cs false) := (hS _ _ hm).elim (fun h => h) (fun h => by cases h.1)
          obtain ⟨b, cur, hβ, hh, hrel, hone, hB, hst, _⟩ := hp.mem.box hM'
          obtain ⟨b', cap', k', n', hβ', rfl⟩ := hc
          rw [hβ] at hβ'
          simp only [Option.some.injEq, Loc.mk.injEq] at hβ'
          obtain ⟨rfl, rfl, rfl, rfl⟩ := hβ'
          have h1 := Nat.le_of_ble_eq_true hb.1.1
          have h2 := Nat.eq_of_beq_eq_true hb.1.2
          have hcv := rel_cells hv
          have hlen := All2.length _ _ hcv
          have hcl : cur.size = cs.length := by simpa using All2.length _ _ hrel
          have hone' := cells_ok hcv hb.2
          have hfit : j + (vcells v x).length ≤ cur.size := by rw [hlen, h2]; omega
          have hrun := run_storeAt ht (o := j) (vcells_eq hv hb.2) (by rw [hlen, h2]) hh hfit hone'
          have hz : 0 * cs.length + j = j := by omega
          refine ⟨_, St, β, by rw [hz]; exact hrun, ?_⟩
          have happ : appM M new ({ v := F.jk, upd := some (id, some (.box t0 T0 (setAt cs j x.cells) false)) } : Out).many = fun i => if i = id then some (.box t0 T0 (setAt cs j x.cells) false) else M i := by
            rw [appM_none rfl rfl]; funext i
            by_cases hi : i = id <;> simp [Out.many, hi]
          rw [happ]
          have hns : ∀ o, ¬ St b o := fun o ho => by have := (hst o ho).1; cases this
          refine Good.touch hp (some b) (fun b' hb' => by cases hb'; exact ⟨hB, hns⟩) ((Bel.refl _ _).setRow hB _) (fun k _ hk => setRow_other w b k _ (fun e => hk (by rw [e])))
            (fun _ _ h => h) (fun id hid => absurd rfl hid) (fun hk => ?_) (fun _ => trivial)
          refine hp.mem.upd hM' hβ rfl (fun k _ hk => setRow_other w b k _ (fun e => hk (by rw [e]))) hk ?_ hB hns rfl
          have hlen2 : (setAt cs j x.cells).length = cs.length := setAt_length (by omega)
          refine .box t0 T0 _ false b _ (by rw [hlen2]) (setRow_heap w b cur _ t0 (0, 0) hh) ?_ ?_
          · show All2 _ (cur.toList.take j ++ vcells v x ++ cur.toList.drop (j + (vcells v x).length)) _
            exact All2.imp (fun _ _ => RelC.mono hk) _ _ (setAt_rel hrel hcv j)
          · intro c hc
            have hc : c ∈ cur.toList.take j ++ vcells v x ++ cur.toList.drop (j + (vcells v x).length) := hc
            rcases List.mem_append.1 hc with hc | hc
            · rcases List.mem_append.1 hc with hc | hc
              · exact hone c (List.mem_of_mem_take hc)
              · exact hone' c hc
            · exact hone c (List.mem_of_mem_drop hc)
      · cases h
    · rename_i t0 T xs fz hm
      split at h
      · cases hx : xs[e]? with
        | none => rw [hx] at h; cases h
        | some d =>
          rw [hx] at h
          simp only [Option.bind_some] at h
          cases hb : (Nat.ble (j + i.size) (injC T d).length && Nat.beq x.cells.length i.size && cellsOk x.cells && !(owIds x.cells).any (Nat.beq id)) with
          | false => rw [hb] at h; cases h
          | true =>
            rw [hb] at h
            simp only [Bool.and_eq_true] at hb
            simp only [cond_true] at h
            split at h
            · rename_i d' hd'
              refine ⟨_, h, rfl, rfl, (fun id' x' hx' => by cases hx'; rw [hm]; rfl), fun w St Q β B new M hp hS t ht c v hc hv => ?_⟩
              have hM0 : M id = some (.arr t0 T xs false) := (hS _ _ hm).elim (fun h => h) (fun h => by cases h.1)
              have hnin : id ∉ owIds x.cells := fun hin => by
                have := hb.2
                simp only [Bool.not_eq_true', List.any_eq_false] at this
                exact this id hin (by simp)
              have hpF := frz_pre hp (owIds x.cells)
              have hM' : frz M (owIds x.cells) id = some (.arr t0 T xs false) := by unfold frz; rw [if_neg hnin]; exact hM0
              obtain ⟨cap, ⟨_, rfl⟩ | ⟨b, cur, hβ, hh, hs, hl, hmx, hrel, hB, hst, _⟩⟩ := hpF.mem.arr hM'
              · simp at hx
              obtain ⟨b', cap', k', n', hβ', rfl⟩ := hc
              rw [hβ] at hβ'
              simp only [Option.some.injEq, Loc.mk.injEq] at hβ'
              obtain ⟨rfl, rfl, rfl, rfl⟩ := hβ'
              have h1 := Nat.le_of_ble_eq_true hb.1.1.1
              have h2 := Nat.eq_of_beq_eq_true hb.1.1.2
              have hcv := rel_cells hv
              have hlen := All2.length _ _ hcv
              have hone' := cells_ok hcv hb.1.2
              obtain ⟨hT, hcells⟩ := elem_cells hrel hx
              have hTl := RelT.length T _ _ hT
              have hTi := All2.length _ _ (rel_inj w (stF β M St (owIds x.cells)) Q β T _ d hT)
              have hel : e < xs.length := (List.getElem?_eq_some_iff.1 hx).1
              have hmul : (e + 1) * T.w ≤ cap * T.w := Nat.mul_le_mul_right _ (by omega)
              rw [Nat.add_mul] at hmul
              have hfit : e * T.w + j + (vcells v x).length ≤ cur.size := by rw [hlen, h2]; omega
              have hrun := run_storeAt ht (o := e * T.w + j) (vcells_eq hv hb.1.2) (by rw [hlen, h2]) hh hfit hone'
              refine ⟨_, stF β M St (owIds x.cells), β, hrun, Good.freeze hp (owIds x.cells) ?_⟩
              have happ : appM M new ({ v := F.jk, upd := some (id, some (.arr t0 T (xs.set e d') false)), fz := owIds x.cells } : Out).many = fun i => if i = id then some (.arr t0 T (xs.set e d') false) else frz M (owIds x.cells) i := by
                rw [appM_none rfl rfl]; funext i
                by_cases hi : i = id
                · subst hi; simp [Out.many, hnin]
                · simp [Out.many, hi, frz]
              rw [happ]
              have hns : ∀ o, ¬ stF β M St (owIds x.cells) b o := fun o ho => by have := (hst o ho).1; cases this
              refine Good.touch hpF (some b) (fun b' hb' => by cases hb'; exact ⟨hB, hns⟩) ((Bel.refl _ _).setRow hB _) (fun k _ hk => setRow_other w b k _ (fun e => hk (by rw [e])))
                (fun _ _ h => h) (fun id hid => absurd rfl hid) (fun hk => ?_) (fun _ => trivial)
              refine hpF.mem.upd hM' hβ rfl (fun k _ hk => setRow_other w b k _ (fun e => hk (by rw [e]))) hk ?_ hB hns rfl
              refine .arr t0 T _ false b cap _ (by rw [List.length_set]) (setRow_heap w b cur _ t0 (0, 0) hh) ?_ (by rw [List.length_set]; exact hl) hmx ?_
              · simp only [List.size_toArray, List.length_append, List.length_take, List.length_drop, Array.length_toList]; omega
              · intro q y hq
                have hel2 := RelT.mono hk.ext T
                show RelT _ _ T (((cur.toList.take (e * T.w + j) ++ vcells v x ++ cur.toList.drop (e * T.w + j + (vcells v x).length)).drop (q * T.w)).take T.w) y
                by_cases hqe : q = e
                · subst hqe
                  rw [List.getElem?_set_self hel] at hq; cases hq
                  have hz := setAt_rel (rel_inj w (stF β M St (owIds x.cells)) Q β T _ d hT) (reC0_all (m := m) hp.mem (SeesX.sees hS) (ids := owIds x.cells) (fun _ _ h => owIds_mem h) hcv) j
                  have hz2 := rel_prj hz hd'
                  refine hel2 _ _ ?_
                  have heq : ((cur.toList.take (q * T.w + j) ++ vcells v x ++ cur.toList.drop (q * T.w + j + (vcells v x).length)).drop (q * T.w)).take T.w =
                      ((cur.toList.drop (q * T.w)).take T.w).take j ++ vcells v x ++ ((cur.toList.drop (q * T.w)).take T.w).drop (j + (vcells v x).length) := by
                    apply splice_at
                    · rw [hlen, h2]; omega
                    · simpa using (by omega : q * T.w + T.w ≤ cur.size)
                  rw [heq]; exact hz2
                · rw [List.getElem?_set_ne (fun e => hqe e.symm)] at hq
                  have := hel2 _ _ (hrel q y hq)
                  have hql : q < xs.length := (List.getElem?_eq_some_iff.1 hq).1
                  have heq : ((cur.toList.take (e * T.w + j) ++ vcells v x ++ cur.toList.drop (e * T.w + j + (vcells v x).length)).drop (q * T.w)).take T.w = (cur.toList.drop (q * T.w)).take T.w := by
                    apply splice_off
                    · rw [hlen, h2]; simp; omega
                    · rcases Nat.lt_or_gt_of_ne hqe with hlt | hgt
                      · left
                        have : (q + 1) * T.w ≤ e * T.w := Nat.mul_le_mul_right _ hlt
                        rw [Nat.add_mul] at this; omega
                      · right
                        have : (e + 1) * T.w ≤ q * T.w := Nat.mul_le_mul_right _ hgt
                        rw [Nat.add_mul] at this; rw [hlen, h2]; omega
                  rw [heq]; exact this
            · cases h
      · cases h
    · cases h
  · cases h

end
end Go.Proofs.Ytefhcmkiachphaa.Ab
end
section
/- The machine's operations that make or write memory: append, literals, make. -/
set_option linter.unusedVariables false
set_option linter.unusedSimpArgs false
namespace Go.Proofs.Ytefhcmkiachphaa.Ab
open Go Go.RowKit

section
variable {P : Program} {R : Type} {r : R} {E : Env}

/-- The cells of a list of data. -/
theorem RelL.of {w : World} {St : Stb} {T : Ty} : ∀ (ls : List (List Value)) (xs : List T.den), All2 (fun l x => RelT w St T l x) ls xs → RelL w St T ls.flatten xs ∧ ls.flatten.length = xs.length * T.w
  | [], [], _ => ⟨fun i x h => by simp at h, by simp⟩
  | l :: ls, x :: xs, ⟨h1, h2⟩ => by
    obtain ⟨ih, il⟩ := RelL.of ls xs h2
    have hl := RelT.length T _ _ h1
    refine ⟨fun i y hy => ?_, by simp only [List.flatten_cons, List.length_append, List.length_cons, il, hl, Nat.add_mul]; omega⟩
    cases i with
    | zero =>
      simp only [List.getElem?_cons_zero, Option.some.injEq] at hy
      subst hy
      simp only [Nat.zero_mul, List.drop_zero, List.flatten_cons]
      rw [← hl, List.take_left]
      exact h1
    | succ i =>
      have := ih i y (by simpa using hy)
      have e : (i + 1) * T.w = l.length + i * T.w := by rw [Nat.add_mul, hl]; omega
      rw [e, List.flatten_cons, ← List.drop_drop, List.drop_left]
      exact this
  | [], _ :: _, h => h.elim
  | _ :: _, [], h => h.elim

theorem RelL.append {w : World} {St : Stb} {T : Ty} {l l' : List Value} {xs ys : List T.den} (hl : l.length = xs.length * T.w) (h : RelL w St T l xs) (h' : RelL w St T l' ys) : RelL w St T (l ++ l') (xs ++ ys) := by
  intro i x hx
  by_cases hi : i < xs.length
  · rw [List.getElem?_append_left hi] at hx
    have := h i x hx
    have hle : (i + 1) * T.w ≤ xs.length * T.w := Nat.mul_le_mul_right _ hi
    rw [Nat.add_mul] at hle
    rw [List.drop_append_of_le_length (by omega), List.take_append_of_le_length (by simp; omega)]
    exact this
  · rw [List.getElem?_append_right (by omega)] at hx
    have := h' _ x hx
    have e : i * T.w = l.length + (i - xs.length) * T.w := by rw [hl, ← Nat.add_mul]; congr 1; omega
    rw [e, ← List.drop_drop, List.drop_left]
    exact this

theorem RelL.prefix {w : World} {St : Stb} {T : Ty} {l l' : List Value} {xs : List T.den} (h : RelL w St T l xs) (hl : ∀ j, j < xs.length * T.w → l'[j]? = l[j]?) : RelL w St T l' xs := by
  intro i x hx
  have hi : i < xs.length := (List.getElem?_eq_some_iff.1 hx).1
  have hle : (i + 1) * T.w ≤ xs.length * T.w := Nat.mul_le_mul_right _ hi
  rw [Nat.add_mul] at hle
  have : (l'.drop (i * T.w)).take T.w = (l.drop (i * T.w)).take T.w := by
    apply List.ext_getElem?
    intro j
    simp only [List.getElem?_take, List.getElem?_drop]
    split
    · exact hl _ (by omega)
    · rfl
  rw [this]
  exact h i x hx

theorem RelL.take {w : World} {St : Stb} {T : Ty} {l : List Value} {xs : List T.den} (h : RelL w St T l xs) (n : Nat) : RelL w St T l (xs.take n) := by
  intro i x hx
  rw [List.getElem?_take] at hx
  split at hx
  · exact h i x hx
  · cases hx

/-- The cells of a slice, wherever it lies: the source of an append. -/
inductive Src (w : World) (St : Stb) (T : Ty) (ys : List T.den) : Value → Prop
  | nil : ys = [] → Src w St T ys (.slice none 0 0)
  | at (a : Addr) (cap : Nat) (l : List Value) : l.length = ys.length * T.w → (∀ (j : Nat) c, l[j]? = some c → w.cell? (a.add j) = some c) → (∀ c ∈ l, c.oneCell' = true) → RelL w St T l ys →
      Src w St T ys (.slice (some a) ys.length cap)

theorem RelL.one {w : World} {St : Stb} {T : Ty} {l : List Value} {xs : List T.den} (h : RelL w St T l xs) (hl : l.length = xs.length * T.w) : ∀ c ∈ l, c.oneCell' = true := by
  intro c hc
  obtain ⟨j, hj⟩ := List.getElem?_of_mem hc
  have hjl : j < xs.length * T.w := by rw [← hl]; exact (List.getElem?_eq_some_iff.1 hj).1
  have hw : 0 < T.w := by
    rcases Nat.eq_zero_or_pos T.w with h0 | h0
    · rw [h0] at hjl; omega
    · exact h0
  have hq : j / T.w < xs.length := (Nat.div_lt_iff_lt_mul hw).2 hjl
  have hT := h (j / T.w) _ (List.getElem?_eq_getElem hq)
  refine RelT.one T _ _ hT c ?_
  have hm := Nat.mod_lt j hw
  have e : j / T.w * T.w + j % T.w = j := Nat.div_add_mod' j T.w
  refine List.mem_of_getElem? (i := j % T.w) ?_
  rw [List.getElem?_take, if_pos hm, List.getElem?_drop, e]
  exact hj

/-- The cells of a shared slice as_ one list. -/
theorem sl_cells {w : World} {St : Stb} {T : Ty} {b o : Nat} : ∀ (xs : List T.den) (o : Nat), (∀ (i : Nat) x, xs[i]? = some x → ∃ l', RelT w St T l' x ∧ At w St b (o + i * T.w) l') →
    ∃ ls : List (List Value), All2 (fun l x => RelT w St T l x) ls xs ∧ At w St b o ls.flatten
  | [], o, _ => ⟨[], trivial, fun j c h => by simp at h⟩
  | x :: xs, o, h => by
    obtain ⟨l, h1, h2⟩ := h 0 x rfl
    obtain ⟨ls, h3, h4⟩ := sl_cells (b := b) (o := o) xs (o + T.w) (fun i y hy => by
      obtain ⟨l', a, c⟩ := h (i + 1) y (by simpa using hy)
      refine ⟨l', a, ?_⟩
      have e : o + T.w + i * T.w = o + (i + 1) * T.w := by rw [Nat.add_mul]; omega
      rw [e]; exact c)
    refine ⟨l :: ls, ⟨h1, h3⟩, fun j c hj => ?_⟩
    rw [List.flatten_cons] at hj
    by_cases hjl : j < l.length
    · rw [List.getElem?_append_left hjl] at hj
      simp only [Nat.zero_mul, Nat.add_zero] at h2
      exact h2 j c hj
    · rw [List.getElem?_append_right (by omega)] at hj
      have := h4 _ c hj
      have hw := RelT.length T _ _ h1
      have e : o + T.w + (j - l.length) = o + j := by omega
      rw [e] at this
      exact this

theorem src_of_sl {w : World} {St : Stb} {T : Ty} {c : Value} {xs : List T.den} (h : RelSl w St T c xs) : Src w St T xs c := by
  obtain ⟨c', hc', h⟩ := h
  cases hc'
  rcases h with ⟨rfl, rfl⟩ | ⟨b, o, s, cap, rfl, hle, hel⟩
  · exact .nil rfl
  · obtain ⟨ls, h1, h2⟩ := sl_cells (b := b) (o := o) xs o (fun i x hx => (hel i x hx).2)
    obtain ⟨h3, h4⟩ := RelL.of ls xs h1
    refine .at _ cap ls.flatten h4 (fun j c hj => ?_) (h3.one h4) h3
    have hne : xs ≠ [] := fun e => by
      have : ls.flatten.length = 0 := by rw [h4, e]; simp
      have := (List.getElem?_eq_some_iff.1 hj).1
      omega
    obtain ⟨x, hx⟩ : ∃ x, xs[0]? = some x := ⟨_, List.getElem?_eq_getElem (List.length_pos_iff.2 hne)⟩
    obtain rfl := (hel 0 x hx).1
    rw [Addr.add_lit]; exact (h2 j c hj).2

theorem src_of_ow {w : World} {St Q : Stb} {β : Bet} {B : Base} {M : Nat → Option Row} (hM : MemRel w St Q β B M) {id len : Nat} {e : TypeId} {T : Ty} {xs : List T.den} {fz : Bool}
    (hr : M id = some (.arr e T xs fz)) {c : Value} (hc : RelC w St Q β c (.ow id len)) : Src w St T (xs.take len) c := by
  obtain ⟨loc, hb, hc⟩ := hc
  obtain ⟨cap, ⟨hb', rfl⟩ | ⟨b, cur, hb', hh, hs, hx, hmx, hrel, hB, _⟩⟩ := hM.arr hr
  · rw [hb] at hb'; cases hb'
    rcases hc with ⟨_, rfl, rfl⟩ | ⟨b, hlb, _⟩
    · exact .nil (by simp)
    · cases hlb
  · rw [hb] at hb'; cases hb'
    rcases hc with ⟨h0, _⟩ | ⟨b', hlb, rfl, hle⟩
    · cases h0
    · cases hlb
      simp only at hle
      have hlen : (xs.take len).length = len := by rw [List.length_take]; omega
      have hmul : len * T.w ≤ cap * T.w := Nat.mul_le_mul_right _ (by omega)
      have hl : (cur.toList.take (len * T.w)).length = (xs.take len).length * T.w := by rw [hlen, List.length_take, Array.length_toList]; omega
      have hrel2 : RelL w St T (cur.toList.take (len * T.w)) (xs.take len) := (hrel.take len).prefix (fun j hj => by rw [hlen] at hj; rw [List.getElem?_take, if_pos hj])
      have hs := Src.at (w := w) (St := St) (T := T) (ys := xs.take len) ⟨b, 0, none⟩ cap (cur.toList.take (len * T.w)) hl (fun j c hj => by
        rw [Addr.add_lit, cell_row hh, Nat.zero_add]
        have := get_take (j := 0) (n := len * T.w) (l := cur.toList) (q := j) (c := c) (by simpa using hj)
        simpa using this) (hrel2.one hl) hrel2
      rw [hlen] at hs
      exact hs

theorem castL_src {w : World} {St : Stb} {T' T : Ty} (h : T' = T) {xs : List T'.den} {c : Value} (hs : Src w St T' xs c) : Src w St T (castL h xs) c := by
  subst h; exact hs

theorem elemsOf_src {w : World} {St Q : Stb} {β : Bet} {B : Base} {M m : Nat → Option Row} (hM : MemRel w St Q β B M) (hS : Sees m M) {T : Ty} {y : C} {ys : List T.den} (h : elemsOf m T y = some ys)
    {c : Value} (hc : RelC w St Q β c y) : Src w St T ys c := by
  unfold elemsOf at h
  split at h
  · cases h; rw [show c = _ from hc]; exact .nil rfl
  · cases h; exact src_of_sl (em_sl hc)
  · split at h
    · cases h; exact castL_src _ (src_of_sl hc)
    · cases h
  · split at h
    · rename_i e T' xs fz hm
      split at h
      · cases h
        obtain ⟨fz', hM'⟩ := hS.arr hm
        exact castL_src _ (src_of_ow hM hM' hc)
      · cases h
    · cases h
  · cases h

theorem Src.cell {w : World} {St : Stb} {T : Ty} {ys : List T.den} {c : Value} (h : Src w St T ys c) : ∃ (a : Option Addr) (cap : Nat), c = .slice a ys.length cap := by
  cases h with
  | nil h => subst h; exact ⟨_, _, rfl⟩
  | «at» a cap l _ _ _ _ => exact ⟨_, _, rfl⟩

/-- Appending nothing from nil. -/
theorem run_append_none (w : World) {t ty e : TypeId} (ht : P.underlying t = some (.slice e)) {i : TypeInfo} (hi : P.info? e = some i) (base : Option Addr) (n cap : Nat) (h : n ≤ cap) :
    (Builtin.append_ #[t, t] ty #[.slice base n cap, .slice none 0 0]).run P w = .ok (.slice base n cap) w := by
  cases base <;> simp [Builtin.append_, run_underlying ht, sizeOf, typeInfo, hi, Builtin.lenOf, h, Builtin.firstCells, storeCells]

theorem run_append_nothing (w : World) {t ty e : TypeId} (ht : P.underlying t = some (.slice e)) {i : TypeInfo} (hi : P.info? e = some i) (a : Addr) (c : Nat) :
    (Builtin.append_ #[t, t] ty #[.slice none 0 0, .slice (some a) 0 c]).run P w = .ok (.slice none 0 0) w := by
  simp [Builtin.append_, run_underlying ht, sizeOf, typeInfo, hi, Builtin.lenOf, Builtin.firstCells, storeCells, loadCells, loadCellsFrom]

/-- What an append comes to: the elder block, or a new one. -/
theorem append_ends {t ty e : TypeId} {ie : TI} {T : Ty} (hT : ie.size = T.w) (h0 : 0 < ie.size) (hby : 0 < ie.bytes) (hzs : ie.zero.cells.size = ie.size) (he : TIok P e ie) (ht : P.underlying t = some (.slice e)) {w : World} {St : Stb}
    {ys : List T.den} {cy : Value} (hy : Src w St T ys cy) {len : Nat} (hfit : (len + ys.length) * ie.bytes ≤ 140737488355328) {v : Value} {l0 : List Value} (hl0 : l0.length = len * T.w)
    (hv : (v = .slice none 0 0 ∧ len = 0) ∨ ∃ b cap cur, v = .slice (some ⟨b, 0, none⟩) len cap ∧ w.heap[b]? = some (.cells cur e (0, 0)) ∧ cur.size = cap * T.w ∧ len ≤ cap ∧ cap ≤ maxLen ∧ cur.toList.take (len * T.w) = l0) :
    ∃ v' w', (Builtin.append_ #[t, t] ty #[v, cy]).run P w = .ok v' w' ∧
      ((v' = .slice none 0 0 ∧ w' = w ∧ v = .slice none 0 0 ∧ ys = []) ∨
       (∃ b cap cur cur', v = .slice (some ⟨b, 0, none⟩) len cap ∧ w.heap[b]? = some (.cells cur e (0, 0)) ∧ v' = .slice (some ⟨b, 0, none⟩) (len + ys.length) cap ∧ w' = w.setRow b cur' ∧ cur'.size = cap * T.w ∧ len + ys.length ≤ cap ∧ cap ≤ maxLen ∧
          ∃ l1, l1.length = ys.length * T.w ∧ RelL w St T l1 ys ∧ cur'.toList.take ((len + ys.length) * T.w) = l0 ++ l1) ∨
       (∃ cap cur', v' = .slice (some ⟨w.heap.size, 0, none⟩) (len + ys.length) cap ∧ w' = w.drew.alloc (.cells cur' e) ∧ cur'.size = cap * T.w ∧ len + ys.length ≤ cap ∧ cap ≤ maxLen ∧
          ∃ l1, l1.length = ys.length * T.w ∧ RelL w St T l1 ys ∧ cur'.toList.take ((len + ys.length) * T.w) = l0 ++ l1)) := by
  obtain ⟨d, i, h1, h2, h3, h4, h5, h6⟩ := he
  have hle : len + ys.length ≤ 140737488355328 := by
    have : (len + ys.length) * 1 ≤ (len + ys.length) * ie.bytes := Nat.mul_le_mul_left _ hby
    omega
  have hmax : len + ys.length ≤ maxLen := by unfold maxLen; omega
  have h63 : ((len + ys.length : Nat) : Int) ≤ 9223372036854775807 := by omega
  have hsz : i.size = T.w := h3.trans hT
  have fin : ∀ (l1 : List Value) (q : Nat), l1.length = ys.length * T.w → ((l0 ++ l1 ++ (Builtin.zeroCells ie.zero.cells q).toList).take ((len + ys.length) * T.w)) = l0 ++ l1 := fun l1 q hl1 => by
    have : (l0 ++ l1).length = (len + ys.length) * T.w := by rw [List.length_append, hl0, hl1, Nat.add_mul]
    rw [← this]; exact List.take_left
  rcases hv with ⟨rfl, rfl⟩ | ⟨b, cap, cur, rfl, hg, hcs, hlc, hcm, htk⟩
  · have hl00 : l0 = [] := List.eq_nil_of_length_eq_zero (by simpa using hl0)
    subst hl00
    cases hy with
    | nil hy => subst hy; exact ⟨_, _, run_append_none w ht h2 none 0 0 (Nat.le_refl _), .inl ⟨rfl, rfl, rfl, rfl⟩⟩
    | «at» a c news hl hnews h1' hrel =>
      by_cases hm : ys.length = 0
      · have hys : ys = [] := List.eq_nil_of_length_eq_zero hm
        subst hys
        exact ⟨_, _, run_append_nothing w ht h2 a c, .inl ⟨rfl, rfl, rfl, rfl⟩⟩
      · have hr := run_append_nil (P := P) w t ty e i ie.zero ht h2 h5 a ys.length c news (by rw [hsz]; exact hl) hnews (by omega) (by simpa using h63) (by rw [h4]; simp only [Nat.zero_add] at hfit; omega)
        refine ⟨_, _, hr, .inr (.inr ⟨grownCap w ys.length 0 e, news.toArray ++ Builtin.zeroCells ie.zero.cells (grownCap w ys.length 0 e - ys.length), by rw [Nat.zero_add], rfl, ?_, by rw [Nat.zero_add]; exact grownCap_ge w _ _ e, grownCap_le_maxLen w _ _ e (by simpa using hmax), news, hl, hrel, ?_⟩)⟩
        · have hge := grownCap_ge w ys.length 0 e
          simp only [Array.size_append, List.size_toArray, size_zeroCells, hzs, hT, hl, ← Nat.add_mul]
          congr 1; omega
        · have := fin news (grownCap w ys.length 0 e - ys.length) hl
          simp only [List.nil_append] at this ⊢
          simpa using this
  · cases hy with
    | nil hy =>
      subst hy
      refine ⟨_, _, run_append_none w ht h2 (some ⟨b, 0, none⟩) len cap hlc, .inr (.inl ⟨b, cap, cur, cur, rfl, hg, by simp, (setRow_self w b cur e (0, 0) hg).symm, hcs, by simpa using hlc, hcm, [], by simp, fun i x h => by simp at h, by simpa using htk⟩)⟩
    | «at» a c news hl hnews h1' hrel =>
      by_cases hroom : len + ys.length ≤ cap
      · have hf : len * i.size + news.length ≤ cur.size := by rw [hsz, hl, hcs, ← Nat.add_mul]; exact Nat.mul_le_mul_right _ hroom
        have hr := run_append_room (P := P) w t ty e i ht h2 b len cap cur hg a ys.length c news (by rw [hsz]; exact hl) hnews h1' hroom hf
        refine ⟨_, _, hr, .inr (.inl ⟨b, cap, cur, _, rfl, hg, rfl, rfl, ?_, hroom, hcm, news, hl, hrel, ?_⟩)⟩
        · simp only [List.size_toArray, List.length_append, List.length_take, List.length_drop, Array.length_toList]; omega
        · rw [hsz, htk]
          have : (l0 ++ news).length = (len + ys.length) * T.w := by rw [List.length_append, hl0, hl, Nat.add_mul]
          show ((l0 ++ news ++ cur.toList.drop (len * T.w + news.length))).take _ = _
          rw [← this]; exact List.take_left
      · have holds : ∀ (j : Nat) v, l0[j]? = some v → w.cell? ((⟨b, 0, none⟩ : Addr).add j) = some v := fun j v hj => by
          rw [Addr.add_lit, cell_row hg, Nat.zero_add]
          rw [← htk, List.getElem?_take] at hj
          split at hj
          · simpa using hj
          · cases hj
        have hr := run_append_grow (P := P) w t ty e i ie.zero ht h2 h5 ⟨b, 0, none⟩ len cap l0 (by rw [hsz]; exact hl0) holds a ys.length c news (by rw [hsz]; exact hl) hnews (by omega) h63 (growslice_fits (by omega) (by rw [h4]; exact hfit))
        refine ⟨_, _, hr, .inr (.inr ⟨grownCap w (len + ys.length) cap e, _, rfl, rfl, ?_, grownCap_ge w _ _ e, grownCap_le_maxLen w _ _ e hmax, news, hl, hrel, ?_⟩)⟩
        · have hge := grownCap_ge w (len + ys.length) cap e
          simp only [Array.size_append, List.size_toArray, size_zeroCells, hzs, hT, hl, hl0, ← Nat.add_mul]
          congr 1; omega
        · have := fin news (grownCap w (len + ys.length) cap e - (len + ys.length)) hl
          simpa using this

end
end Go.Proofs.Ytefhcmkiachphaa.Ab
end
section
/- The machine's operations that make or write memory: append, variables, literals, make, slices of slices. -/
set_option linter.unusedVariables false
set_option linter.unusedSimpArgs false
namespace Go.Proofs.Ytefhcmkiachphaa.Ab
open Go Go.RowKit

section
variable {P : Program} {R : Type} {r : R} {E : Env}

theorem RelL.of_take {w : World} {St : Stb} {T : Ty} {l cur : List Value} {xs : List T.den} (htk : cur.take (xs.length * T.w) = l) (h : RelL w St T l xs) : RelL w St T cur xs :=
  h.prefix fun j hj => by rw [← htk, List.getElem?_take, if_pos hj]

theorem rowNil {w : World} {St Q : Stb} {β : Bet} (e : TypeId) (T : Ty) (fz : Bool) (cap : Nat) : RowAt w St Q β ⟨none, cap, T.w, 0⟩ (.arr e T [] fz) (Row.arr e T [] fz).n := by
  have h : (Row.arr e T [] fz).n = 0 := by simp [Row.n]
  rw [h]; exact .nil e T fz cap rfl

theorem appM_app (M : Nat → Option Row) (new id : Nat) (v : F) (r : Row) : appM M new ({ v := v, row := some r, upd := some (id, none) } : Out).many = fun i => if i = new then some r else if i = id then none else M i := by
  funext i
  simp only [appM, Out.many, Option.toList, List.length_cons, List.length_nil, Nat.zero_add]
  by_cases h : i = new
  · subst h; simp
  · rw [if_neg (by omega), if_neg h]; simp [lookU]

theorem appendK_sound (hti : ∀ t i, E.ti t = some i → TIok E.P t i) {m : Nat → Option Row} {new : Nat} {t t2 : TypeId} {x y : F} {K : Out → Option R} (h : appendK E m new t t2 x y K = some r) :
    ∃ out : Out, K out = some r ∧ t2 = t ∧ (∀ id x, out.upd = some (id, x) → (m id).isSome = true) ∧ ∀ (w : World) (St Q : Stb) (β : Bet) (B : Base) (M : Nat → Option Row), Pre w St Q β B M new → SeesX true m M →
      ∀ (c cy : Value) (ty : TypeId), RelF w St Q β c x → RelF w St Q β cy y →
        ∃ v w' St' β', (Builtin.append_ #[t, t] ty #[c, cy]).run E.P w = .ok v w' ∧ Good w St Q β B new v w' St' β' out.v (appM M new out.many) := by
  unfold appendK at h
  simp only [ifs] at h
  split at h
  · rename_i i i2 x y hi hi2
    split at h
    · rename_i e e2 hd hd2
      split at h
      · rename_i ie hie
        split at h
        · rename_i T hTy
          cases hb : (Nat.beq t t2 && Nat.blt 0 ie.size && Nat.blt 0 ie.bytes && Nat.beq ie.size T.w && Nat.beq ie.zero.cells.size ie.size) with
          | false => rw [hb] at h; cases h
          | true =>
            rw [hb] at h
            simp only [Bool.and_eq_true] at hb
            simp only [cond_true] at h
            have h1 := Nat.eq_of_beq_eq_true hb.1.1.1.1
            have h2 : 0 < ie.size := Nat.le_of_ble_eq_true hb.1.1.1.2
            have h3 : 0 < ie.bytes := Nat.le_of_ble_eq_true hb.1.1.2
            have h4 := Nat.eq_of_beq_eq_true hb.1.2
            have h5 := Nat.eq_of_beq_eq_true hb.2
            have hund : E.P.underlying t = some (.slice e) := by
              obtain ⟨d, j, k1, _, _, _, _, k6⟩ := hti _ _ hi
              rw [hd] at k6
              rw [show d = _ from k6] at k1; exact k1
            split at h
            · rename_i ys hys
              split at h
              · -- nil
                split at h
                · rename_i hfit
                  refine ⟨_, h, h1.symm, (fun _ _ hx' => by cases hx'), fun w St Q β B M hp hS c cy ty hc hcy => ?_⟩
                  obtain rfl : c = .slice none 0 0 := hc
                  have hsrc := elemsOf_src hp.mem hS.sees hys hcy
                  have hn : β new = none := by simpa using hp.bn 0 (by omega)
                  have hβ1 : ∀ (loc : Loc) id l, β id = some l → (fun i => if i = new then some loc else β i) id = some l := fun loc id l hl => by
                    by_cases he : id = new
                    · subst he; rw [hn] at hl; cases hl
                    · simp [he, hl]
                  have hβ2 : ∀ (loc : Loc) id, (fun i => if i = new then some loc else β i) id ≠ β id → new ≤ id ∧ id < new + 4 := fun loc id hid => by
                    by_cases he : id = new
                    · omega
                    · exact absurd (by simp [he]) hid
                  have happ : ∀ r0, appM M new ({ v := .a (.c (.ow new ys.length)), row := some r0 } : Out).many = fun i => if i = new then some r0 else M i := fun r0 => appM_row M new _ r0
                  obtain ⟨v', w', hrun, hends⟩ := append_ends (ty := ty) h4 h2 h3 h5 (hti _ _ hie) hund hsrc (len := 0) (by rw [Nat.zero_add]; exact hfit) (l0 := []) (by simp) (.inl ⟨rfl, rfl⟩)
                  rcases hends with ⟨rfl, rfl, _, rfl⟩ | ⟨b, cap, cur, cur', hv, _⟩ | ⟨cap, cur', rfl, rfl, hs', hle, hcm, l1, hl1, hr1, htk⟩
                  · refine ⟨_, _, St, (fun i => if i = new then some ⟨none, 0, T.w, 0⟩ else β i), hrun, ?_⟩
                    rw [happ]
                    refine Good.touch hp none (fun b hb => by cases hb) (Bel.refl _ _) (fun _ _ _ => rfl) (hβ1 _) (hβ2 _) (fun hk => ?_) (fun hk => ⟨_, if_pos rfl, .inl ⟨rfl, rfl, rfl⟩⟩)
                    exact hp.mem.add hn hk (fun _ _ => rfl) (fun _ _ h => h) (rowNil e T false 0) (fun b hb => by cases hb) hp.st rfl
                  · cases hv
                  · refine ⟨_, _, St, (fun i => if i = new then some ⟨some w.heap.size, cap, T.w, ys.length⟩ else β i), hrun, ?_⟩
                    rw [happ]
                    simp only [Nat.zero_add, List.nil_append] at hle htk
                    refine Good.touch hp none (fun b hb => by cases hb) (((Bel.refl _ _).drew).alloc hp.bh _) (fun b hb _ => Below.heap_alloc w.drew _ b hb) (hβ1 _) (hβ2 _) (fun hk => ?_) (fun hk => ⟨_, if_pos rfl, .inr ⟨_, rfl, by rw [Nat.zero_add], Nat.le_refl _⟩⟩)
                    refine hp.mem.add hn hk (fun b hb => Below.heap_alloc w.drew _ b hb) (fun _ _ h => h) ?_ (fun b hb => by cases hb; exact ⟨rfl, .inl hp.bh⟩) hp.st rfl
                    exact .arr e T ys false _ cap cur' rfl (heap_alloc_new w.drew _) hs' hle hcm (RelL.mono hk.ext (hr1.of_take htk))
                · cases h
              · rename_i id len
                split at h
                · rename_i e' T' xs fz hm
                  split at h
                  · cases hbe : Nat.beq e' e with
                    | false => rw [hbe] at h; cases h
                    | true =>
                      rw [hbe] at h
                      simp only [cond_true] at h
                      obtain rfl := Nat.eq_of_beq_eq_true hbe
                      split at h
                      · rename_i hTT
                        subst hTT
                        split at h
                        · rename_i hfit
                          refine ⟨_, h, h1.symm, (fun _ _ hx' => by cases hx'; rw [hm]; rfl), fun w St Q β B M hp hS c cy ty hc hcy => ?_⟩
                          have hM' : M id = some (.arr e' T' xs false) := (hS _ _ hm).elim (fun h => h) (fun h => by cases h.1)
                          have hsrc := elemsOf_src hp.mem hS.sees hys hcy
                          have hn : β new = none := by simpa using hp.bn 0 (by omega)
                          have hβ1 : ∀ (loc : Loc) id l, β id = some l → (fun i => if i = new then some loc else β i) id = some l := fun loc id l hl => by
                            by_cases he : id = new
                            · subst he; rw [hn] at hl; cases hl
                            · simp [he, hl]
                          have hβ2 : ∀ (loc : Loc) id, (fun i => if i = new then some loc else β i) id ≠ β id → new ≤ id ∧ id < new + 4 := fun loc id hid => by
                            by_cases he : id = new
                            · omega
                            · exact absurd (by simp [he]) hid
                          have hc' : RelC w St Q β c (.ow id len) := hc
                          obtain ⟨loc, hlb, hcc⟩ := hc'
                          obtain ⟨cap0, hrow⟩ := hp.mem.arr hM'
                          have hcast : castL (rfl : T' = T') (xs.take len) = xs.take len := rfl
                          rw [appM_app, hcast]
                          rcases hrow with ⟨hb0, rfl⟩ | ⟨b, cur, hb0, hh, hs, hx, hmx, hrel, hB, hst, _⟩
                          · rw [hlb] at hb0; cases hb0
                            rcases hcc with ⟨_, rfl, rfl⟩ | ⟨b, hlb', _⟩
                            · obtain ⟨v', w', hrun, hends⟩ := append_ends (ty := ty) h4 h2 h3 h5 (hti _ _ hie) hund hsrc (len := 0) hfit (l0 := []) (by simp) (.inl ⟨rfl, rfl⟩)
                              rcases hends with ⟨rfl, rfl, _, rfl⟩ | ⟨b, cap, cur, cur', hv, _⟩ | ⟨cap, cur', rfl, rfl, hs', hle, hcm, l1, hl1, hr1, htk⟩
                              · refine ⟨_, _, St, (fun i => if i = new then some ⟨none, 0, T'.w, 0⟩ else β i), hrun, ?_⟩
                                refine Good.touch hp none (fun b hb => by cases hb) (Bel.refl _ _) (fun _ _ _ => rfl) (hβ1 _) (hβ2 _) (fun hk => ?_) (fun hk => ⟨_, if_pos rfl, .inl ⟨rfl, rfl, rfl⟩⟩)
                                exact hp.mem.repl hn hM' hlb (fun _ _ _ => rfl) hk (rowNil e' T' false 0) (fun b hb => by cases hb) rfl
                              · cases hv
                              · refine ⟨_, _, St, (fun i => if i = new then some ⟨some w.heap.size, cap, T'.w, ys.length⟩ else β i), hrun, ?_⟩
                                simp only [Nat.zero_add, List.nil_append] at hle htk
                                refine Good.touch hp none (fun b hb => by cases hb) (((Bel.refl _ _).drew).alloc hp.bh _) (fun b hb _ => Below.heap_alloc w.drew _ b hb) (hβ1 _) (hβ2 _) (fun hk => ?_) (fun hk => ⟨_, if_pos rfl, .inr ⟨_, rfl, by simp, by simp⟩⟩)
                                refine hp.mem.repl hn hM' hlb (fun b hb _ => Below.heap_alloc w.drew _ b hb) hk ?_ (fun b hb => by cases hb; exact ⟨.inl hp.bh, fun o ho => by have := hp.st _ o ho; omega, .inr (Nat.le_refl _)⟩) rfl
                                simp only [List.take_nil, List.nil_append]
                                exact .arr e' T' ys false _ cap cur' rfl (heap_alloc_new w.drew _) hs' hle hcm (RelL.mono hk.ext (hr1.of_take htk))
                            · cases hlb'
                          · rw [hlb] at hb0; cases hb0
                            rcases hcc with ⟨h0, _⟩ | ⟨b', hlb', rfl, hle0⟩
                            · cases h0
                            · cases hlb'
                              simp only at hle0
                              have hlen : (xs.take len ++ ys).length = len + ys.length := by rw [List.length_append, List.length_take]; omega
                              have hmul : len * T'.w ≤ cap0 * T'.w := Nat.mul_le_mul_right _ (by omega)
                              have hl0 : (cur.toList.take (len * T'.w)).length = len * T'.w := by rw [List.length_take, Array.length_toList]; omega
                              have hrel0 : RelL w St T' (cur.toList.take (len * T'.w)) (xs.take len) := (hrel.take len).prefix (fun j hj => by
                                rw [List.length_take, Nat.min_eq_left hle0] at hj; rw [List.getElem?_take, if_pos hj])
                              have hl0' : (cur.toList.take (len * T'.w)).length = (xs.take len).length * T'.w := by rw [hl0, List.length_take, Nat.min_eq_left hle0]
                              have hns : ∀ o, ¬ St b o := fun o ho => by have := (hst o ho).1; cases this
                              obtain ⟨v', w', hrun, hends⟩ := append_ends (ty := ty) h4 h2 h3 h5 (hti _ _ hie) hund hsrc (len := len) hfit hl0 (.inr ⟨b, cap0, cur, rfl, hh, hs, by omega, hmx, rfl⟩)
                              rcases hends with ⟨_, _, hv, _⟩ | ⟨b1, cap, cur1, cur', hv, hh1, rfl, rfl, hs', hle, hcm, l1, hl1, hr1, htk⟩ | ⟨cap, cur', rfl, rfl, hs', hle, hcm, l1, hl1, hr1, htk⟩
                              · cases hv
                              · cases hv
                                refine ⟨_, _, St, (fun i => if i = new then some ⟨some b, cap0, T'.w, len + ys.length⟩ else β i), hrun, ?_⟩
                                refine Good.touch hp (some b) (fun b' hb' => by cases hb'; exact ⟨hB, hns⟩) ((Bel.refl _ _).setRow hB _) (fun k _ hk => setRow_other w b k _ (fun e => hk (by rw [e])))
                                  (hβ1 _) (hβ2 _) (fun hk => ?_) (fun hk => ⟨_, if_pos rfl, .inr ⟨_, rfl, by rw [hlen], by rw [hlen]; exact Nat.le_refl _⟩⟩)
                                refine hp.mem.repl hn hM' hlb (fun k _ hk => setRow_other w b k _ (fun e => hk (by rw [e]))) hk ?_ (fun b' hb => by cases hb; exact ⟨hB, hns, .inl rfl⟩) rfl
                                refine .arr e' T' _ false b cap0 cur' (by rw [hlen]) (setRow_heap w b cur _ e' (0, 0) hh) hs' (by rw [hlen]; exact hle) hcm (RelL.mono hk.ext (RelL.of_take (l := cur.toList.take (len * T'.w) ++ l1) (by rw [hlen]; exact htk) (hrel0.append hl0' hr1)))
                              · refine ⟨_, _, St, (fun i => if i = new then some ⟨some w.heap.size, cap, T'.w, len + ys.length⟩ else β i), hrun, ?_⟩
                                refine Good.touch hp none (fun b hb => by cases hb) (((Bel.refl _ _).drew).alloc hp.bh _) (fun b hb _ => Below.heap_alloc w.drew _ b hb) (hβ1 _) (hβ2 _) (fun hk => ?_) (fun hk => ⟨_, if_pos rfl, .inr ⟨_, rfl, by rw [hlen], by rw [hlen]; exact Nat.le_refl _⟩⟩)
                                refine hp.mem.repl hn hM' hlb (fun b hb _ => Below.heap_alloc w.drew _ b hb) hk ?_ (fun b hb => by cases hb; exact ⟨.inl hp.bh, fun o ho => by have := hp.st _ o ho; omega, .inr (Nat.le_refl _)⟩) rfl
                                exact .arr e' T' _ false _ cap cur' (by rw [hlen]; rfl) (heap_alloc_new w.drew _) hs' (by rw [hlen]; exact hle) hcm (RelL.mono hk.ext (RelL.of_take (l := cur.toList.take (len * T'.w) ++ l1) (by rw [hlen]; exact htk) (hrel0.append hl0' hr1)))
                        · cases h
                      · cases h
                  · cases h
                · cases h
              · cases h
            · cases h
        · cases h
      · cases h
    · cases h
  · cases h

end
end Go.Proofs.Ytefhcmkiachphaa.Ab
end
section
/- The machine's operations that make memory: variables, literals, make; and slices of slices. -/
set_option linter.unusedVariables false
set_option linter.unusedSimpArgs false
namespace Go.Proofs.Ytefhcmkiachphaa.Ab
open Go Go.RowKit

section
variable {P : Program} {R : Type} {r : R} {E : Env}

theorem run_newVar (t : TypeId) (v : Value) (w : World) : (newVar t v).run P w = .ok ⟨w.heap.size, 0, none⟩ (w.alloc (.cells v.cells t)) := by
  simp [newVar, newRow]

/-- A variable of the call's own. -/
theorem good_box {w : World} {St Q : Stb} {β : Bet} {B : Base} {new : Nat} {M : Nat → Option Row} (hp : Pre w St Q β B M new) {t : TypeId} (T : Option Ty) {cur : Array Value} {cs : List C}
    (h : All2 (RelC w St Q β) cur.toList cs) (hone : ∀ c ∈ cur.toList, c.oneCell' = true) :
    ∃ St' β', Good w St Q β B new (.pointer (some ⟨w.heap.size, 0, none⟩)) (w.alloc (.cells cur t)) St' β' (.a (.c (.pt (.own new 0 0)))) (fun id => if id = new then some (.box t T cs false) else M id) := by
  refine ⟨_, _, Good.alloc hp (loc := ⟨some w.heap.size, 1, cs.length, 1⟩) (fun b hb => by cases hb; rfl) rfl (fun hk => ?_) ⟨w.heap.size, 1, cs.length, 1, if_pos rfl, by simp⟩⟩
  exact .box t T cs false _ cur rfl (heap_alloc_new w _) (All2.imp (fun _ _ => RelC.mono hk) _ _ h) hone

/-- A slice of the call's own. -/
theorem good_arr {w : World} {St Q : Stb} {β : Bet} {B : Base} {new : Nat} {M : Nat → Option Row} (hp : Pre w St Q β B M new) {e : TypeId} {T : Ty} {cur : Array Value} {xs : List T.den} {cap : Nat}
    (hs : cur.size = cap * T.w) (hx : xs.length ≤ cap) (hm : cap ≤ maxLen) (h : RelL w St T cur.toList xs) :
    ∃ St' β', Good w St Q β B new (.slice (some ⟨w.heap.size, 0, none⟩) xs.length cap) (w.alloc (.cells cur e)) St' β' (.a (.c (.ow new xs.length))) (fun id => if id = new then some (.arr e T xs false) else M id) := by
  refine ⟨_, _, Good.alloc hp (loc := ⟨some w.heap.size, cap, T.w, xs.length⟩) (fun b hb => by cases hb; rfl) rfl (fun hk => ?_) ⟨_, if_pos rfl, .inr ⟨_, rfl, rfl, Nat.le_refl _⟩⟩⟩
  exact .arr e T xs false _ cap cur rfl (heap_alloc_new w _) hs hx hm (h.mono hk.ext)

theorem cyc_get (z : List Value) (n i : Nat) (hi : (i + 1) * z.length ≤ n) : ((((Array.range n).map (fun j => (z.toArray)[j % z.toArray.size]!)).toList.drop (i * z.length)).take z.length) = z := by
  apply List.ext_getElem?
  intro q
  rw [List.getElem?_take]
  split
  · rename_i hq
    have hlt : i * z.length + q < n := by rw [Nat.add_mul] at hi; omega
    have hm : (i * z.length + q) % z.length = q := by rw [Nat.mul_comm, Nat.mul_add_mod]; exact Nat.mod_eq_of_lt hq
    rw [List.getElem?_drop]
    simp [hlt, hm, hq]
  · rename_i hq
    rw [List.getElem?_eq_none (by omega)]

theorem makeSliceK_sound (hti : ∀ t i, E.ti t = some i → TIok E.P t i) {new : Nat} {t : TypeId} {l c : F} {K : Out → Option R} (h : makeSliceK E new t l c K = some r) :
    ∃ out : Out, K out = some r ∧ out.upd = none ∧ ∀ (w : World) (St Q : Stb) (β : Bet) (B : Base) (M : Nat → Option Row), Pre w St Q β B M new →
      ∀ (cl cc : Value), RelF w St Q β cl l → RelF w St Q β cc c → ∃ v w' St' β', (Instr.makeSlice t cl cc).run E.P w = .ok v w' ∧ Good w St Q β B new v w' St' β' out.v (appM M new out.many) := by
  unfold makeSliceK at h
  simp only [ifs] at h
  split at h
  · rename_i i l c hi hl hc
    obtain ⟨kl, rfl⟩ := intF_some hl
    obtain ⟨kc, rfl⟩ := intF_some hc
    split at h
    · rename_i e hd
      split at h
      · rename_i ie hie
        split at h
        · rename_i T hT
          split at h
          · rename_i z hz
            cases hb : (Nat.blt 0 ie.size && Nat.blt 0 ie.bytes && Nat.beq ie.size T.w && Nat.beq ie.zero.cells.size ie.size) with
            | false => rw [hb] at h; cases h
            | true =>
              rw [hb] at h
              simp only [Bool.and_eq_true] at hb
              simp only [cond_true] at h
              split at h
              · rename_i hlc
                refine ⟨_, h, rfl, fun w St Q β B M hp cl cc hcl hcc => ?_⟩
                obtain ⟨rfl, _⟩ := rel_sc hcl
                obtain ⟨rfl, _⟩ := rel_sc hcc
                have h1 : 0 < ie.size := Nat.le_of_ble_eq_true hb.1.1.1
                have h2 : 0 < ie.bytes := Nat.le_of_ble_eq_true hb.1.1.2
                have h3 := Nat.eq_of_beq_eq_true hb.1.2
                have h4 := Nat.eq_of_beq_eq_true hb.2
                obtain ⟨d, j, k1, _, _, _, _, k6⟩ := hti _ _ hi
                rw [hd] at k6
                rw [show d = _ from k6] at k1
                obtain ⟨d', j', q1, q2, q3, q4, q5, q6⟩ := hti _ _ hie
                have hcb : c ≤ c * ie.bytes := by
                  have : c * 1 ≤ c * (ie.bytes : Int) := Int.mul_le_mul_of_nonneg_left (by omega) (by omega)
                  omega
                have hlz : prj T (ie.zero.cells.toList.map absC) = some z := hz
                have hTz : RelT w St T ie.zero.cells.toList z := rel_prj (absC_all w St Q β _) hlz
                have hwl : IntKind.i64.wrap l = l := IntWalk.i64_in _ (by omega)
                have hwc : IntKind.i64.wrap c = c := IntWalk.i64_in _ (by omega)
                have hcap : (c.toNat : Int) = c := by omega
                have hmax : c.toNat ≤ maxLen := by unfold maxLen; omega
                have hlen : (List.replicate l.toNat z).length = l.toNat := by simp
                obtain ⟨St', β', hg⟩ := good_arr (e := e) (T := T) (cur := (Array.range (c.toNat * ie.size)).map (fun j => (ie.zero.cells)[j % ie.zero.cells.size]!)) (xs := List.replicate l.toNat z) (cap := c.toNat) hp
                  (by simp [h3]) (by rw [hlen]; omega) hmax (fun q y hq => by
                    have hql : q < l.toNat := by have := (List.getElem?_eq_some_iff.1 hq).1; simpa using this
                    have hy : y = z := by rw [List.getElem?_replicate, if_pos hql] at hq; exact (Option.some.inj hq).symm
                    subst hy
                    have hzl : ie.zero.cells.toList.length = T.w := by rw [Array.length_toList, h4, h3]
                    have := cyc_get ie.zero.cells.toList (c.toNat * ie.size) q (by rw [hzl, ← h3]; exact Nat.mul_le_mul_right _ (by omega))
                    rw [hzl] at this
                    simp only [Array.toArray_toList] at this
                    rw [this]; exact hTz)
                have hg2 := hg
                rw [hlen] at hg
                refine ⟨.slice (some ⟨w.heap.size, 0, none⟩) l.toNat c.toNat, w.alloc (.cells ((Array.range (c.toNat * ie.size)).map (fun j => (ie.zero.cells)[j % ie.zero.cells.size]!)) e), St', β', ?_, ?_⟩
                · have n1 : ¬ (c < 0) := by omega
                  have n2 : ¬ (281474976710656 < (ie.bytes : Int) * c) := by have := hlc.2.2; rw [Int.mul_comm] at this; omega
                  have n3 : ¬ (l < 0) := by omega
                  have n4 : ¬ (c < l) := by omega
                  simp only [Instr.makeSlice, Sem.run_bind, run_underlying k1, Result.andThen_ok, asInt, asIntOf, Sem.run_pure, run_typeInfo' q2, q4, hwl, hwc]
                  by_cases hz0 : c.toNat * ie.size = 0
                  · have hr0 : ∀ f : Nat → Value, Array.map f (Array.range 0) = #[] := fun f => by simp
                    simp [n1, n2, n3, n4, run_size (hti _ _ hie), newRow, hz0, hr0]
                  · simp [n1, n2, n3, n4, run_size (hti _ _ hie), newRow, hz0, run_zero (hti _ _ hie)]
                · rw [show appM M new ({ v := .a (.c (.ow new (List.replicate l.toNat z).length)), row := some (.arr e T (List.replicate l.toNat z) false) } : Out).many = _ from appM_row M new _ _]; rw [hlen] at hg2 ⊢; exact hg2
              · cases h
          · cases h
        · cases h
      · cases h
    · cases h
  · cases h

end
end Go.Proofs.Ytefhcmkiachphaa.Ab
end
section
/- The machine's operations: literals, and slices of slices. -/
set_option linter.unusedVariables false
set_option linter.unusedSimpArgs false
namespace Go.Proofs.Ytefhcmkiachphaa.Ab
open Go Go.RowKit

section
variable {P : Program} {R : Type} {r : R} {E : Env}

theorem fold_set : ∀ (l : List Value) (k off : Nat) (cur : Array Value), off + k + l.length ≤ cur.size →
    ((l.zipIdx k).foldl (fun (cs : Array Value) (x : Value × Nat) => match x with | (c, j) => cs.setIfInBounds (off + j) c) cur).toList = cur.toList.take (off + k) ++ l ++ cur.toList.drop (off + k + l.length)
  | [], k, off, cur, _ => by simp
  | v :: l, k, off, cur, h => by
    simp only [List.zipIdx_cons, List.foldl_cons]
    rw [fold_set l (k + 1) off (cur.setIfInBounds (off + k) v) (by simp only [List.length_cons] at h; simp only [Array.size_setIfInBounds]; omega)]
    have hlt : off + k < cur.size := by simp only [List.length_cons] at h; omega
    have e1 : (cur.setIfInBounds (off + k) v).toList = cur.toList.take (off + k) ++ v :: cur.toList.drop (off + k + 1) := by
      rw [Array.toList_setIfInBounds, List.set_eq_take_append_cons_drop, if_pos (by simpa using hlt)]
    have e2 : (cur.toList.take (off + k)).length = off + k := by simp; omega
    rw [e1]
    have g1 : (cur.toList.take (off + k) ++ v :: cur.toList.drop (off + k + 1)).take (off + (k + 1)) = cur.toList.take (off + k) ++ [v] := by
      have : off + (k + 1) = (cur.toList.take (off + k)).length + 1 := by omega
      rw [this, List.take_length_add_append]; rfl
    have g2 : (cur.toList.take (off + k) ++ v :: cur.toList.drop (off + k + 1)).drop (off + (k + 1) + l.length) = cur.toList.drop (off + k + (l.length + 1)) := by
      have : off + (k + 1) + l.length = (cur.toList.take (off + k)).length + (l.length + 1) := by omega
      rw [this, List.drop_length_add_append, List.drop_succ_cons, List.drop_drop]
      congr 1; omega
    rw [g1, g2]
    simp

/-- The parts of a literal and their values. -/
def RelParts (w : World) (St Q : Stb) (β : Bet) : List (Nat × Value) → List (Nat × F) → Prop := All2 fun p q => p.1 = q.1 ∧ RelF w St Q β p.2 q.2

theorem lit_sound {w : World} {St Q : Stb} {β : Bet} {B : Base} {M m : Nat → Option Row} (hM : MemRel w St Q β B M) (hS : Sees m M) {T : Ty} {ids : List Nat} {size : Nat} (hsz : size = T.w) :
    ∀ (fs : List (Nat × F)) (vs : List (Nat × Value)) (n : Nat) (ds : List T.den) (cur : Array Value), litElems T m n fs = some ds → RelParts w St Q β vs fs → (∀ id, id ∈ fIds fs → id ∈ ids) → (n + fs.length) * T.w ≤ cur.size →
      ∃ (ls : List (List Value)) (cur' : Array Value), ds.length = fs.length ∧ All2 (fun l x => RelT w (stF β M St ids) T l x) ls ds ∧ Instr.fill (fun i => some (i * size, size)) cur vs = some cur' ∧
        cur'.toList = cur.toList.take (n * T.w) ++ ls.flatten ++ cur.toList.drop ((n + fs.length) * T.w)
  | [], [], n, ds, cur, h, _, _, _ => by
    simp only [litElems, Option.some.injEq] at h
    subst h
    exact ⟨[], cur, rfl, trivial, rfl, by simp⟩
  | (i, v) :: fs, (i', c) :: vs, n, ds, cur, h, ⟨⟨hi, hv⟩, hr⟩, hids, hle => by
    simp only at hi hv
    unfold litElems at h
    split at h
    · rename_i x
      cases hb : (Nat.beq i n && cellsOk x.cells) with
      | false => rw [hb] at h; cases h
      | true =>
        rw [hb] at h
        simp only [Bool.and_eq_true] at hb
        simp only [cond_true] at h
        obtain rfl := Nat.eq_of_beq_eq_true hb.1
        obtain rfl := hi
        split at h
        · rename_i d hd
          split at h
          · rename_i ds' hds
            cases h
            have hcv := rel_cells hv
            have hids1 : ∀ id len, C.ow id len ∈ x.cells → id ∈ ids := fun id len hin => hids id (by simp only [fIds]; exact List.mem_append_left _ (owIds_mem hin))
            have hT := rel_prj (reC0_all hM hS hids1 hcv) hd
            have hl := RelT.length T _ _ hT
            have hce := vcells_eq hv hb.2
            have hcs : c.cells.size = T.w := by rw [← hl, ← hce]; simp
            have hmul : (i' + 1) * T.w ≤ (i' + (fs.length + 1)) * T.w := Nat.mul_le_mul_right _ (by omega)
            simp only [List.length_cons] at hle
            have hfit : i' * T.w + 0 + c.cells.toList.length ≤ cur.size := by
              rw [Array.length_toList, hcs]
              rw [Nat.add_mul] at hmul; omega
            have hfold := fold_set c.cells.toList 0 (i' * T.w) cur hfit
            have hfs : ((c.cells.zipIdx).foldl (fun (cs : Array Value) (x : Value × Nat) => match x with | (c, j) => cs.setIfInBounds (i' * T.w + j) c) cur) =
                ((c.cells.toList.zipIdx 0).foldl (fun (cs : Array Value) (x : Value × Nat) => match x with | (c, j) => cs.setIfInBounds (i' * T.w + j) c) cur) := by
              rw [← Array.foldl_toList, Array.toList_zipIdx]
            have hsz2 : ((c.cells.toList.zipIdx 0).foldl (fun (cs : Array Value) (x : Value × Nat) => match x with | (c, j) => cs.setIfInBounds (i' * T.w + j) c) cur).size = cur.size := by
              rw [← Array.length_toList, hfold]
              simp only [List.length_append, List.length_take, List.length_drop, Array.length_toList, hcs] at hfit ⊢
              omega
            obtain ⟨ls, cur', h1, h2, h3, h4⟩ := lit_sound hM hS hsz fs vs (i' + 1) ds' _ hds hr (fun id hin => hids id (by simp only [fIds]; exact List.mem_append_right _ hin)) (by rw [hsz2]; rw [show i' + 1 + fs.length = i' + (fs.length + 1) by omega]; exact hle)
            refine ⟨vcells c x :: ls, cur', by simp [h1], ⟨hT, h2⟩, ?_, ?_⟩
            · unfold Instr.fill
              simp only [hcs, hsz]
              rw [if_neg]
              · rw [hfs]; rw [hsz] at h3; exact h3
              · have h5 : ¬ (cur.size < i' * T.w + T.w) := by simp only [Array.length_toList, hcs] at hfit; omega
                simp [h5]
            · rw [h4, hfold, hce]
              have hvl : (vcells c x).length = T.w := hl
              have e2 : (cur.toList.take (i' * T.w)).length = i' * T.w := by
                simp only [List.length_take, Array.length_toList, hcs] at hfit ⊢; omega
              simp only [hvl, Nat.add_zero]
              have e3 : (i' + 1) * T.w = (cur.toList.take (i' * T.w) ++ vcells c x).length := by rw [List.length_append, e2, hvl, Nat.add_mul]; omega
              rw [e3, List.take_left]
              have e4 : (i' + 1 + fs.length) * T.w = (cur.toList.take (i' * T.w) ++ vcells c x).length + fs.length * T.w := by rw [List.length_append, e2, hvl, Nat.add_mul, Nat.add_mul]; omega
              rw [e4, List.drop_length_add_append, List.drop_drop]
              simp only [List.flatten_cons, List.append_assoc, List.length_cons]
              congr 4
              rw [Nat.add_mul, Nat.add_mul]; omega
          · cases h
        · cases h
    · cases h
  | [], _ :: _, _, _, _, _, h, _, _ => h.elim
  | _ :: _, [], _, _, _, _, h, _, _ => h.elim

end
end Go.Proofs.Ytefhcmkiachphaa.Ab
end
section
/- The machine's operations: literals, and slices of slices. -/
set_option linter.unusedVariables false
set_option linter.unusedSimpArgs false
namespace Go.Proofs.Ytefhcmkiachphaa.Ab
open Go Go.RowKit

section
variable {P : Program} {R : Type} {r : R} {E : Env}

theorem relParts_of {w : World} {St Q : Stb} {β : Bet} {ev : Operand → Value} {ρ : Operand → F} : ∀ (l : List (Nat × Operand)), (∀ p ∈ l, RelF w St Q β (ev p.2) (ρ p.2)) →
    RelParts w St Q β (l.map fun p => (p.1, ev p.2)) (l.map fun p => (p.1, ρ p.2))
  | [], _ => trivial
  | p :: l, h => ⟨⟨rfl, h p (List.mem_cons_self ..)⟩, relParts_of l (fun q hq => h q (List.mem_cons_of_mem _ hq))⟩

theorem buildSlice_sound (hti : ∀ t i, E.ti t = some i → TIok E.P t i) {m : Nat → Option Row} {t e : TypeId} {i ie : TI} {T : Ty} {len new : Nat} {fs : List (Nat × F)} {xs : List T.den} (hi : E.ti t = some i) (hd : i.desc = .slice e)
    (hie : E.ti e = some ie) (hsz : ie.size = T.w) (hlim : len * ie.size ≤ 16777216) (hlim2 : len ≤ 16777216) (hfl : fs.length = len) (hx : litElems T m 0 fs = some xs)
    {w : World} {St Q : Stb} {β : Bet} {B : Base} {M : Nat → Option Row} (hp : Pre w St Q β B M new) (hS : Sees m M) (parts : Array (Nat × Value)) (hr : RelParts w St Q β parts.toList fs) :
    ∃ v w' St' β', (Instr.buildSlice t len parts).run E.P w = .ok v w' ∧ Good w St Q β B new v w' St' β' (.a (.c (.ow new xs.length))) (appM M new { v := .a (.c (.ow new xs.length)), rows := [.arr e T xs false], fz := fIds fs }) := by
  obtain ⟨d, j, k1, _, _, _, _, k6⟩ := hti _ _ hi
  rw [hd] at k6
  rw [show d = _ from k6] at k1
  have h0 : (if len * ie.size = 0 then (Pure.pure #[] : Sem (Array Value)) else do Pure.pure (← zeroValue e).cells).run E.P w = .ok (if len * ie.size = 0 then #[] else ie.zero.cells) w := by
    split
    · rfl
    · simp [run_zero (hti _ _ hie)]
  obtain ⟨ls, cur', h1, h2, h3, h4⟩ := lit_sound (ids := fIds fs) hp.mem hS hsz fs parts.toList 0 xs ((Array.range (len * ie.size)).map (fun q => ((if len * ie.size = 0 then #[] else ie.zero.cells) : Array Value)[q % ((if len * ie.size = 0 then #[] else ie.zero.cells) : Array Value).size]!)) hx hr (fun _ h => h) (by simp [hfl, hsz])
  obtain ⟨hrl, hll⟩ := RelL.of ls xs h2
  have hxl : xs.length = len := h1.trans hfl
  have hcur : cur'.toList = ls.flatten := by
    rw [h4]
    simp [hfl, hsz]
  obtain ⟨St', β', hg⟩ := good_arr (e := e) (T := T) (cur := cur') (xs := xs) (cap := len) (frz_pre hp (fIds fs)) (by rw [← Array.length_toList, hcur, hll, hxl]) (by omega) (by unfold maxLen; omega) (by rw [hcur]; exact hrl)
  have hg2 := hg
  rw [hxl] at hg
  refine ⟨.slice (some ⟨w.heap.size, 0, none⟩) len len, w.alloc (.cells cur' e), St', β', ?_, ?_⟩
  · have hl : ¬ (16777216 < len * ie.size) := by omega
    simp only [Instr.buildSlice, Sem.run_bind, run_underlying k1, Result.andThen_ok, run_size (hti _ _ hie)]
    rw [Sem.run_ite]
    rw [if_neg (by simpa using hl)]
    by_cases z0 : len * ie.size = 0
    · simp only [if_pos z0] at h3
      rw [if_pos z0]
      simp only [Sem.run_bind, Sem.run_pure, Result.andThen_ok, h3, newRow, run_newObj]
      rfl
    · simp only [if_neg z0] at h3
      rw [if_neg z0]
      simp only [Sem.run_bind, run_zero (hti _ _ hie), Sem.run_pure, Result.andThen_ok, h3, newRow, run_newObj]
      rfl
  · rw [appM_row_fz, hxl]; exact Good.freeze hp _ hg

theorem placesOf_run (hti : ∀ t i, E.ti t = some i → TIok E.P t i) : ∀ (fa : List Field) (pl : List (Nat × Nat)), placesOf E (fa.map fun f => (f.offset, f.type)) = some pl →
    fa.mapM (fun f => (E.P.info? f.type).map fun i => (f.offset, i.size)) = some pl
  | [], pl, h => by simp only [List.map_nil, placesOf, Option.some.injEq] at h; subst h; rfl
  | f :: fa, pl, h => by
    simp only [List.map_cons, placesOf] at h
    split at h
    · rename_i i hi
      split at h
      · rename_i l hl
        cases h
        obtain ⟨d, j, _, k2, k3, _⟩ := hti _ _ hi
        simp [List.mapM_cons, k2, k3, placesOf_run hti fa l hl]
      · cases h
    · cases h

theorem fill_sound {w : World} {St Q : Stb} {β : Bet} {pl : List (Nat × Nat)} : ∀ (fs : List (Nat × F)) (vs : List (Nat × Value)) (cur : Array Value) (cs cs' : List C), fillC pl cs fs = some cs' → RelParts w St Q β vs fs →
    All2 (RelC w St Q β) cur.toList cs → ∃ cur' : Array Value, Instr.fill (fun x => pl[x]?) cur vs = some cur' ∧ All2 (RelC w St Q β) cur'.toList cs'
  | [], [], cur, cs, cs', h, _, hc => by simp only [fillC, Option.some.injEq] at h; subst h; exact ⟨cur, rfl, hc⟩
  | (i, v) :: fs, (i', c) :: vs, cur, cs, cs', h, ⟨⟨hi, hv⟩, hr⟩, hc => by
    simp only at hi hv
    obtain rfl := hi
    unfold fillC at h
    split at h
    · rename_i off size x hpl
      cases hb : (Nat.beq x.cells.length size && Nat.ble (off + size) cs.length && cellsOk x.cells) with
      | false => rw [hb] at h; cases h
      | true =>
        rw [hb] at h
        simp only [Bool.and_eq_true] at hb
        simp only [cond_true] at h
        have h1 := Nat.eq_of_beq_eq_true hb.1.1
        have h2 := Nat.le_of_ble_eq_true hb.1.2
        have hcv := rel_cells hv
        have hlen := All2.length _ _ hcv
        have hce := vcells_eq hv hb.2
        have hcs : c.cells.size = size := by rw [← Array.length_toList, hce, hlen, h1]
        have hcur : cur.size = cs.length := by simpa using All2.length _ _ hc
        have hfold := fold_set c.cells.toList 0 off cur (by rw [Array.length_toList, hcs]; omega)
        have hfs : ((c.cells.zipIdx).foldl (fun (cs : Array Value) (x : Value × Nat) => match x with | (c, j) => cs.setIfInBounds (off + j) c) cur) =
            ((c.cells.toList.zipIdx 0).foldl (fun (cs : Array Value) (x : Value × Nat) => match x with | (c, j) => cs.setIfInBounds (off + j) c) cur) := by
          rw [← Array.foldl_toList, Array.toList_zipIdx]
        obtain ⟨cur', h3, h4⟩ := fill_sound fs vs (((c.cells.toList.zipIdx 0).foldl (fun (cs : Array Value) (x : Value × Nat) => match x with | (c, j) => cs.setIfInBounds (off + j) c) cur)) (setAt cs off x.cells) cs' h hr (by
          rw [hfold, hce]; simpa using setAt_rel hc hcv off)
        refine ⟨cur', ?_, h4⟩
        unfold Instr.fill
        simp only [hpl, hcs]
        rw [if_neg]
        · rw [hfs]; exact h3
        · have h5 : ¬ (cur.size < off + size) := by omega
          simp [h5]
    · cases h
  | [], _ :: _, _, _, _, _, h, _ => h.elim
  | _ :: _, [], _, _, _, _, h, _ => h.elim

theorem build_sound (hti : ∀ t i, E.ti t = some i → TIok E.P t i) {t : TypeId} {i : TI} {fs : List (Nat × TypeId)} {pl : List (Nat × Nat)} {cs : List C} {ps : List (Nat × F)} (hi : E.ti t = some i) (hd : i.desc = .struct fs)
    (hpl : placesOf E fs = some pl) (hf : fillC pl (zeroCs i) ps = some cs) {w : World} {St Q : Stb} {β : Bet} (parts : Array (Nat × Value)) (hr : RelParts w St Q β parts.toList ps) :
    ∃ v, (Instr.build t parts).run E.P w = .ok v w ∧ RelF w St Q β v (.a (.ag cs)) := by
  obtain ⟨d, j, k1, k2, _, _, k5, k6⟩ := hti _ _ hi
  rw [hd] at k6
  obtain ⟨fa, rfl, hfa⟩ := k6
  rw [← hfa] at hpl
  have hm := placesOf_run hti fa.toList pl hpl
  obtain ⟨cur', h1, h2⟩ := fill_sound ps parts.toList i.zero.cells (zeroCs i) cs hf hr (absC_all _ _ _ _ _)
  refine ⟨.agg cur', run_build w t parts cur' ?_, cur', rfl, h2⟩
  unfold Program.built
  simp only [k2, k1, k5, hm]
  simpa using h1

end
end Go.Proofs.Ytefhcmkiachphaa.Ab
end
section
/- The machine's operations: slices of slices and of texts. -/
set_option linter.unusedVariables false
set_option linter.unusedSimpArgs false
namespace Go.Proofs.Ytefhcmkiachphaa.Ab
open Go Go.RowKit

section
variable {P : Program} {R : Type} {r : R} {E : Env}

def RelO (w : World) (St Q : Stb) (β : Bet) : Option Value → Option F → Prop
  | none, none => True
  | some c, some x => RelF w St Q β c x
  | _, _ => False

theorem run_bounds {isSlice : Bool} {len cap : Nat} {lo hi : Option Value} {l h : Int} (hlo : (lo = none ∧ l = 0) ∨ ∃ k, lo = some (.int k l)) (hhi : (hi = none ∧ h = len) ∨ ∃ k, hi = some (.int k h))
    (h0 : 0 ≤ h) (h1 : h ≤ (cap : Int)) (l0 : 0 ≤ l) (l1 : l ≤ h) (w : World) : (Instr.sliceBounds isSlice len cap lo hi none).run P w = .ok (l.toNat, h.toNat, cap) w := by
  have e : ((h.toNat : Nat) : Int) = h := by omega
  rcases hlo with ⟨rfl, rfl⟩ | ⟨kl, rfl⟩ <;> rcases hhi with ⟨rfl, rfl⟩ | ⟨kh, rfl⟩
  · simp [Instr.sliceBounds]
  · simp [Instr.sliceBounds, Instr.sliceBound, asIntOf, h0, h1]
  · simp [Instr.sliceBounds, Instr.sliceBound, asIntOf, l0, l1]
  · simp [Instr.sliceBounds, Instr.sliceBound, asIntOf, h0, h1, l0, e, l1]

theorem lo_of {w : World} {St Q : Stb} {β : Bet} {lo : Option F} {l : Int} {lo' : Option Value} (h : loF lo = some l) (hr : RelO w St Q β lo' lo) :
    (lo' = none ∧ l = 0) ∨ ∃ k, lo' = some (.int k l) := by
  cases lo with
  | none => cases lo' with
    | none => simp [loF] at h; exact .inl ⟨rfl, h.symm⟩
    | some c => exact hr.elim
  | some x => cases lo' with
    | none => exact hr.elim
    | some c =>
      obtain ⟨k, rfl⟩ := intF_some h
      obtain ⟨rfl, _⟩ := rel_sc (show RelF w St Q β c _ from hr)
      exact .inr ⟨k, rfl⟩

theorem hi_of {w : World} {St Q : Stb} {β : Bet} {hi : Option F} {n h : Int} {hi' : Option Value} (hh : hiF n hi = some h) (hr : RelO w St Q β hi' hi) :
    (hi' = none ∧ h = n) ∨ ∃ k, hi' = some (.int k h) := by
  cases hi with
  | none => cases hi' with
    | none => simp [hiF] at hh; exact .inl ⟨rfl, hh.symm⟩
    | some c => exact hr.elim
  | some x => cases hi' with
    | none => exact hr.elim
    | some c =>
      obtain ⟨k, rfl⟩ := intF_some hh
      obtain ⟨rfl, _⟩ := rel_sc (show RelF w St Q β c _ from hr)
      exact .inr ⟨k, rfl⟩

/-- A part of a shared slice. -/
theorem sl_part {w : World} {St : Stb} {T : Ty} {c : Value} {xs : List T.den} (hc : RelSl w St T c xs) {l h : Nat} (h1 : h ≤ xs.length) (h2 : l ≤ h) {t e : TypeId} {size : Nat} (ht : P.underlying t = some (.slice e))
    (hs : ∀ w, (sizeOf e).run P w = .ok size w) (hsz : size = T.w) {lo hi : Option Value} (hb : ∀ cap, xs.length ≤ cap → ∀ w, (Instr.sliceBounds true xs.length cap lo hi none).run P w = .ok (l, h, cap) w) :
    ∃ v, (Instr.sliceAt t c lo hi none).run P w = .ok v w ∧ RelSl w St T v ((xs.take h).drop l) := by
  obtain ⟨c', hc', hc⟩ := hc
  cases hc'
  have hlen : ((xs.take h).drop l).length = h - l := by simp; omega
  rcases hc with ⟨rfl, rfl⟩ | ⟨b, o, s, cap, rfl, hle, hel⟩
  · have hz : h = 0 := by simpa using h1
    subst hz
    obtain rfl : l = 0 := by omega
    have := hb 0 (Nat.le_refl _) w
    simp only [List.length_nil] at this
    exact ⟨.slice none 0 0, by simp [Instr.sliceAt, Instr.slice, run_underlying ht, this, hs], _, rfl, .inl ⟨rfl, by simp⟩⟩
  · have hbw := hb cap hle w
    by_cases hm : cap = l
    · subst hm
      refine ⟨.slice (some ⟨b, o, s⟩) (h - cap) (cap - cap), by simp [Instr.sliceAt, Instr.slice, run_underlying ht, hbw, hs], _, rfl, .inr ⟨b, o, s, cap - cap, by rw [hlen], by rw [hlen]; omega, fun i x hi => ?_⟩⟩
      have := (List.getElem?_eq_some_iff.1 hi).1
      omega
    · have hadd : (⟨b, o, s⟩ : Addr).add (l * T.w) = ⟨b, o + l * T.w, if l * T.w = 0 then s else none⟩ := by
        unfold Addr.add
        split
        · rename_i h0; simp [h0]
        · rfl
      refine ⟨.slice (some ⟨b, o + l * T.w, if l * T.w = 0 then s else none⟩) (h - l) (cap - l), by simp [Instr.sliceAt, Instr.slice, run_underlying ht, hbw, hs, hm, hsz, hadd], _, rfl, .inr ⟨b, _, _, cap - l, by rw [hlen], by rw [hlen]; omega, fun i x hi => ?_⟩⟩
      rw [List.getElem?_drop, List.getElem?_take] at hi
      split at hi
      · obtain ⟨hsn, l', a, d⟩ := hel _ x hi
        refine ⟨by rw [hsn]; split <;> rfl, l', a, ?_⟩
        have e : o + l * T.w + i * T.w = o + (l + i) * T.w := by rw [Nat.add_mul]; omega
        rw [e]; exact d
      · cases hi

theorem sliceK_sound (hti : ∀ t i, E.ti t = some i → TIok E.P t i) {m : Nat → Option Row} {t : TypeId} {x : F} {lo hi mx : Option F} {K : Out → Option R} (h : sliceK E m t x lo hi mx K = some r) :
    ∃ out : Out, K out = some r ∧ mx = none ∧ out.upd = none ∧ ∀ (w : World) (St Q : Stb) (β : Bet) (B : Base) (new : Nat) (M : Nat → Option Row), Pre w St Q β B M new → Sees m M →
      ∀ (c : Value) (lo' hi' : Option Value), RelF w St Q β c x → RelO w St Q β lo' lo → RelO w St Q β hi' hi →
        ∃ v St' β', (Instr.sliceAt t c lo' hi' none).run E.P w = .ok v w ∧ Good w St Q β B new v w St' β' out.v (appM M new out.many) := by
  unfold sliceK at h
  simp only [ifs] at h
  split at h
  · rename_i i hi0
    obtain ⟨d, j, k1, _, _, _, _, k6⟩ := hti _ _ hi0
    split at h
    · rename_i s hd
      rw [hd] at k6
      obtain rfl : d = .string := k6
      cases hl : loF lo with
      | none => rw [hl] at h; cases h
      | some l =>
        rw [hl] at h
        simp only [Option.bind_some] at h
        cases hh : hiF (s.size : Int) hi with
        | none => rw [hh] at h; cases h
        | some hv =>
          rw [hh] at h
          simp only [Option.bind_some] at h
          split at h
          · rename_i h1
            split at h
            · rename_i h2
              refine ⟨_, h, rfl, rfl, fun w St Q β B new M hp hS c lo' hi' hc hlo hhi => ?_⟩
              obtain ⟨rfl, _⟩ := rel_sc hc
              have hb := run_bounds (P := E.P) (isSlice := false) (cap := s.size) (lo_of hl hlo) (hi_of hh hhi) h1.1 h1.2 h2.1 h2.2 w
              refine ⟨_, St, β, by simp [Instr.sliceAt, Instr.slice, run_underlying k1, hb]; rfl, ?_⟩
              rw [show appM M new (outV (.string (s.extract l.toNat hv.toNat))).many = M from appM_same M new _]
              exact Good.same hp ⟨rfl, rfl⟩
            · cases h
          · cases h
    · rename_i e y hd
      rw [hd] at k6
      obtain rfl : d = .slice e := k6
      split at h
      · rename_i ie hie
        split at h
        · rename_i T xs
          cases hz : Nat.beq ie.size T.w with
          | false => rw [hz] at h; cases h
          | true =>
            rw [hz] at h
            simp only [cond_true] at h
            have hsz := Nat.eq_of_beq_eq_true hz
            cases hl : loF lo with
            | none => rw [hl] at h; cases h
            | some l =>
              rw [hl] at h
              simp only [Option.bind_some] at h
              cases hh : hiF (xs.length : Int) hi with
              | none => rw [hh] at h; cases h
              | some hv =>
                rw [hh] at h
                simp only [Option.bind_some] at h
                split at h
                · rename_i h1
                  split at h
                  · rename_i h2
                    refine ⟨_, h, rfl, rfl, fun w St Q β B new M hp hS c lo' hi' hc hlo hhi => ?_⟩
                    obtain ⟨v, hv1, hv2⟩ := sl_part (show RelSl w St T c xs from hc) (l := l.toNat) (h := hv.toNat) (by omega) (by omega) k1 (fun w => run_size (hti _ _ hie) w) hsz
                      (fun cap hcap w => run_bounds (lo_of hl hlo) (hi_of hh hhi) h1.1 (by omega) h2.1 h2.2 w)
                    refine ⟨v, St, β, hv1, ?_⟩
                    rw [show appM M new ({ v := .a (.c (.sl T ((xs.take hv.toNat).drop l.toNat))) } : Out).many = M from appM_same M new _]
                    exact Good.same hp hv2
                  · cases h
                · cases h
        · rename_i id len
          split at h
          · rename_i e' T xs fz hm
            cases hz : Nat.beq ie.size T.w with
            | false => rw [hz] at h; cases h
            | true =>
              rw [hz] at h
              simp only [cond_true] at h
              have hsz := Nat.eq_of_beq_eq_true hz
              split at h
              · cases hh : hiF (len : Int) hi with
                | none => rw [hh] at h; cases h
                | some hv =>
                  rw [hh] at h
                  simp only [Option.bind_some] at h
                  split at h
                  · rename_i h1
                    refine ⟨_, h, rfl, rfl, fun w St Q β B new M hp hS c lo' hi' hc hlo hhi => ?_⟩
                    obtain ⟨loc, hlb, hcc⟩ := (show RelC w St Q β c (.ow id len) from hc)
                    obtain ⟨fz', hM'⟩ := hS.arr hm
                    have hl : (lo' = none ∧ (0 : Int) = 0) ∨ ∃ k, lo' = some (.int k 0) := by
                      cases lo' with
                      | none => exact .inl ⟨rfl, rfl⟩
                      | some _ => exact hlo.elim
                    rw [show appM M new ({ v := .a (.c (.ow id hv.toNat)) } : Out).many = M from appM_same M new _]
                    rcases hcc with ⟨hn, rfl, rfl⟩ | ⟨b, hb, rfl, hle⟩
                    · obtain rfl : hv = 0 := by omega
                      have hb := run_bounds (P := E.P) (isSlice := true) (len := 0) (cap := 0) hl (hi_of hh hhi) h1.1 h1.2 (Int.le_refl 0) (Int.le_refl 0) w
                      exact ⟨.slice none 0 0, St, β, by simp [Instr.sliceAt, Instr.slice, run_underlying k1, hb, run_size (hti _ _ hie)], Good.same hp ⟨loc, hlb, .inl ⟨hn, rfl, rfl⟩⟩⟩
                    · have hcap : len ≤ loc.cap := by
                        obtain ⟨cap, ⟨hb', _⟩ | ⟨b', cur, hb', _, _, hx, _⟩⟩ := hp.mem.arr hM'
                        · rw [hlb] at hb'; cases hb'; cases hb
                        · rw [hlb] at hb'; cases hb'; simp only at hle ⊢; omega
                      have hbd := run_bounds (P := E.P) (isSlice := true) (len := len) (cap := loc.cap) hl (hi_of hh hhi) h1.1 (by omega) (Int.le_refl 0) h1.1 w
                      refine ⟨.slice (some ⟨b, 0, none⟩) hv.toNat loc.cap, St, β, ?_, Good.same hp ⟨loc, hlb, .inr ⟨b, hb, rfl, by omega⟩⟩⟩
                      simp [Instr.sliceAt, Instr.slice, run_underlying k1, hbd, run_size (hti _ _ hie), Addr.add_lit]
                  · cases h
              · rename_i lx
                cases hl : intF lx with
                | none => rw [hl] at h; cases h
                | some l =>
                  rw [hl] at h
                  simp only [Option.bind_some] at h
                  cases hh : hiF (len : Int) hi with
                  | none => rw [hh] at h; cases h
                  | some hv =>
                    rw [hh] at h
                    simp only [Option.bind_some] at h
                    split at h
                    · rename_i h1
                      split at h
                      · rename_i h2
                        refine ⟨_, h, rfl, rfl, fun w St Q β B new M hp hS c lo' hi' hc hlo hhi => ?_⟩
                        obtain ⟨fz', hM'⟩ := hS.arr hm
                        obtain ⟨hle, hsl⟩ := ow_sl hp.mem (ids := [id]) (by simp) hM' (show RelC w St Q β c (.ow id len) from hc)
                        have hlen : (xs.take len).length = len := by rw [List.length_take]; omega
                        obtain ⟨v, hv1, hv2⟩ := sl_part hsl (l := l.toNat) (h := hv.toNat) (by omega) (by omega) k1 (fun w => run_size (hti _ _ hie) w) hsz
                          (fun cap hcap w => by rw [hlen]; exact run_bounds (lo_of (lo := some lx) hl hlo) (hi_of hh hhi) h1.1 (by omega) h2.1 h2.2 w)
                        refine ⟨v, stF β M St [id], β, hv1, ?_⟩
                        have happ : appM M new ({ v := .a (.c (.sl T ((xs.take hv.toNat).drop l.toNat))), fz := [id] } : Out).many = frz M [id] := by
                          rw [appM_none rfl rfl]; rfl
                        rw [happ]
                        have htt : (xs.take len).take hv.toNat = xs.take hv.toNat := by rw [List.take_take, Nat.min_eq_left (by omega)]
                        rw [htt] at hv2
                        exact Good.freeze hp [id] (Good.same (frz_pre hp [id]) hv2)
                      · cases h
                    · cases h
          · cases h
        · cases h
      · cases h
    · cases h
  · cases h

end
end Go.Proofs.Ytefhcmkiachphaa.Ab
end
section
/- The machine's calls: what a function's contract says in the machine's words, and that a call keeps the state. -/
set_option linter.unusedVariables false
set_option linter.unusedSimpArgs false
namespace Go.Proofs.Ytefhcmkiachphaa.Ab
open Go Go.RowKit

def noBet : Bet := fun _ => none
def noQ : Stb := fun _ _ => False

/-- One result: data, or a slice with a block that nobody else knows. -/
def RelRV (w : World) (St : Stb) (B : Base) (c : Value) : RV → Option Nat → Prop
  | .d x, ob => ob = none ∧ RelA w St noQ noBet c x
  | .own e T xs, none => c = .slice none 0 0 ∧ xs = []
  | .own e T xs, some b => ∃ cap cur, c = .slice (some ⟨b, 0, none⟩) xs.length cap ∧ B.may b ∧ w.heap[b]? = some (.cells cur e (0, 0)) ∧ cur.size = cap * T.w ∧ xs.length ≤ cap ∧ cap ≤ maxLen ∧ RelL w St T cur.toList xs ∧ ∀ o, ¬ St b o

def RelRVs (w : World) (St : Stb) (B : Base) : List Value → List RV → List (Option Nat) → Prop
  | [], [], [] => True
  | c :: cs, v :: vs, ob :: obs => RelRV w St B c v ob ∧ RelRVs w St B cs vs obs
  | _, _, _ => False

/-- Several results are one tuple. -/
def wrapV : List Value → Value
  | [c] => c
  | cs => .tuple cs.toArray

/-- The function's contract: on these data it hands back those, and writes nothing that was there. -/
def CallOK (P : Program) (G : World → Prop) (f : FuncId) (args : List A) (rvs : List RV) : Prop :=
  ∀ (w : World) (St Q : Stb) (cargs : Array Value), G w → StOK w St → (∀ b o, Q b o → b < w.heap.size) → All2 (RelA w St Q noBet) cargs.toList args →
    Calls P f cargs w fun e w' => ∃ (cs : List Value) (obs : List (Option Nat)) (St' : Stb), e = .returned (wrapV cs) ∧ Below w.heap.size w w' ∧ (∀ b o, St b o → St' b o) ∧ (∀ b o, St' b o → St b o ∨ w.heap.size ≤ b) ∧ StOK w' St' ∧
      RelRVs w' St' (base0 w.heap.size) cs rvs obs ∧ (∀ (i j : Nat) (b : Nat), obs[i]? = some (some b) → obs[j]? = some (some b) → i = j)

/-- The rows of the variables that a call may write. -/
def ioM : List (Nat × TypeId × Ty) → List A → Nat → Option Row
  | x :: _, a :: _, 0 => some (ioRow x a)
  | _ :: xs, _ :: as_, i + 1 => ioM xs as_ i
  | _, _, _ => none

/-- The contract of a function that may write variables of its caller's ('ios'; what stands in them is 'ds', then 'os'). -/
def CallIO (P : Program) (G : World → Prop) (f : FuncId) (ios : List (Nat × TypeId × Ty)) (as_ ds : List A) (rvs : List RV) (nr : Nat) : Prop :=
  ∀ (w : World) (St Q : Stb) (β : Bet) (own : Nat → Prop) (cargs : Array Value), (∀ w', Bel ⟨w.heap.size, own⟩ w w' → G w') → StOK w St → (∀ b o, Q b o → b < w.heap.size ∧ ¬ own b) →
    (∀ b, own b → ∃ k loc, k < ios.length ∧ β k = some loc ∧ loc.b = some b) → (∀ k, ios.length ≤ k → β k = none) → (∀ k, k < ios.length → ∃ loc, β k = some loc) → MemRel w St Q β ⟨w.heap.size, own⟩ (ioM ios ds) → All2 (RelA w St Q β) cargs.toList as_ →
    Calls P f cargs w fun e w' => ∃ (cs : List Value) (obs : List (Option Nat)) (St' : Stb) (os : List A), e = .returned (wrapV cs) ∧ Bel ⟨w.heap.size, own⟩ w w' ∧ (∀ b o, St b o → St' b o) ∧ (∀ b o, St' b o → St b o ∨ w.heap.size ≤ b) ∧ StOK w' St' ∧
      RelRVs w' St' (base0 w.heap.size) cs (rvs.take nr) obs ∧ (∀ (i j : Nat) (b : Nat), obs[i]? = some (some b) → obs[j]? = some (some b) → i = j) ∧
      rvs.drop nr = os.map RV.d ∧ os.length = ios.length ∧ MemRel w' St' Q β ⟨w.heap.size, own⟩ (ioM ios os)

/-- A slice's block, where it has one, is plain memory. -/
def Fresh (w : World) (c : Value) : Prop := ∀ b o s n cap, c = .slice (some ⟨b, o, s⟩) n cap → ∃ cur e, w.heap[b]? = some (.cells cur e (0, 0))
/-- The contract of a function that takes its first argument, a slice of the caller's own: it may write the slice's block, and what it hands back may lie there. -/
def CallEat (P : Program) (G : World → Prop) (f : FuncId) (args : List A) (rvs : List RV) : Prop :=
  ∀ (e : TypeId) (T : Ty) (xs ys : List T.den) (rest : List A), args = .c (.sl T xs) :: rest → rvs = [.own e T ys] →
    ∀ (w : World) (St Q : Stb) (ob : Option Nat) (own : Nat → Prop) (c0 : Value) (cargs : List Value), (∀ b, own b ↔ ob = some b) → (∀ w', Bel ⟨w.heap.size, own⟩ w w' → G w') → StOK w St → (∀ b o, Q b o → b < w.heap.size ∧ ¬ own b) →
      RelRV w St ⟨w.heap.size, own⟩ c0 (.own e T xs) ob → (∀ c ∈ cargs, Fresh w c) → All2 (RelA w St Q noBet) cargs rest →
      Calls P f (c0 :: cargs).toArray w fun en w' => ∃ (c : Value) (ob' : Option Nat) (St' : Stb), en = .returned c ∧ Bel ⟨w.heap.size, own⟩ w w' ∧ (∀ b o, St b o → St' b o) ∧ (∀ b o, St' b o → St b o ∨ w.heap.size ≤ b) ∧ StOK w' St' ∧
        RelRV w' St' ⟨w.heap.size, own⟩ c (.own e T ys) ob'

/-- A function's contract, by its signature. -/
def CallAny (P : Program) (G : World → Prop) (f : FuncId) (s : Sig) (args : List A) (rvs : List RV) : Prop :=
  match s.eat with
  | true => CallEat P G f args rvs
  | false => match s.ios with
  | [] => CallOK P G f args rvs
  | _ :: _ => CallIO P G f s.ios (args.take s.args.length) (args.drop s.args.length) rvs s.rts.length

section
variable {P : Program} {R : Type} {r : R} {E : Env}

theorem RelC.noBet {w : World} {St Q : Stb} {β : Bet} {c : Value} {x : C} (h : RelC w St Q β c x) (hno : ∀ id len, x ≠ .ow id len) (hp : ∀ p, x ≠ .pt p) (hc : ∀ f ps, x ≠ .cl f ps) {Q' : Stb} {β' : Bet} : RelC w St Q' β' c x := by
  cases x with
  | ow id len => exact absurd rfl (hno _ _)
  | pt p => exact absurd rfl (hp _)
  | cl f ps => exact absurd rfl (hc _ _)
  | _ => exact h

theorem reC0_pure {m : Nat → Option Row} {w : World} {St Q Q' : Stb} {β β' : Bet} {c : Value} {x : C} (hp : ∀ p, x ≠ .pt p) (hc : ∀ f ps, x ≠ .cl f ps) (h : RelC w St Q β c (reC0 m x)) : RelC w St Q' β' c (reC0 m x) := by
  cases x with
  | pt p => exact absurd rfl (hp _)
  | cl f ps => exact absurd rfl (hc _ _)
  | ow id len =>
    simp only [reC0] at h ⊢
    split
    · rename_i e T xs fz hm; rw [hm] at h; exact h
    · trivial
  | _ => exact h

theorem idsC_ow {m : Nat → Option Row} {id len : Nat} : id ∈ idsC m (.ow id len) := by simp [idsC]

/-- What a callee may look at: all that is handed to it as_ data. -/
structure QcOK (St Q : Stb) (β : Bet) (M : Nat → Option Row) (ids : List Nat) (Qc : Stb) : Prop where
  q : ∀ b o, Q b o → Qc b o
  s : ∀ b o, St b o → Qc b o
  r : ∀ id r loc b o, id ∈ ids → M id = some r → β id = some loc → loc.b = some b → Qc b o

theorem QcOK.all {w : World} {St Q : Stb} {β : Bet} {B : Base} {new : Nat} {M : Nat → Option Row} (hp : Pre w St Q β B M new) (ids : List Nat) : QcOK St Q β M ids (fun b _ => b < w.heap.size) :=
  ⟨fun b o h => Nat.lt_of_lt_of_le (hp.qb _ _ h).1 hp.bh, fun b o h => hp.st _ _ h, fun id r loc b o _ hm hb hl => by
    obtain ⟨loc', n, hb', hat, _⟩ := hp.mem.row _ _ hm
    rw [hb] at hb'; cases hb'
    exact hat.lt hl⟩

/-- A pointer of the call's own, as_ a pointer to data. -/
theorem reP_rel {w : World} {St Q : Stb} {β : Bet} {B : Base} {new : Nat} {M m : Nat → Option Row} (hp : Pre w St Q β B M new) (hS : Sees m M) {ids : List Nat} {Qc : Stb} (hQ : QcOK St Q β M ids Qc) {p p' : Pt} (h : reP m p = some p')
    (hin : ∀ id i j, p = .own id i j → id ∈ ids ∧ ∀ t T cs fz, m id = some (.box t T cs fz) → ∀ id' len, C.ow id' len ∈ cs → id' ∈ ids) {c : Value} (hc : RelP w St Q β c p) :
    RelP w (stF β M St ids) Qc noBet c p' := by
  unfold reP at h
  split at h
  · rename_i T d j
    cases h
    obtain ⟨b, o, l, rfl, hr, ha⟩ := hc
    refine ⟨b, o, l, rfl, RelT.mono (frz_keep w St Q β M ids).ext T _ _ hr, fun q c hq => ⟨.inl ?_, (ha q c hq).2⟩⟩
    rcases (ha q c hq).1 with h | h
    · exact hQ.q _ _ h
    · exact hQ.s _ _ h
  · rename_i id i j
    split at h
    · rename_i t T cs fz hm
      split at h
      · split at h
        · rename_i d hd
          cases h
          obtain ⟨fz', hM'⟩ := hS.box hm
          obtain ⟨b, cur, hb, hh, hrel, _⟩ := hp.mem.box hM'
          obtain ⟨b', cap', k', n', hb', rfl⟩ := hc
          rw [hb] at hb'
          simp only [Option.some.injEq, Loc.mk.injEq] at hb'
          obtain ⟨rfl, rfl, rfl, rfl⟩ := hb'
          have hall := reC0_all (m := m) hp.mem hS (ids := ids) ((hin _ _ _ rfl).2 _ _ _ _ hm) hrel
          refine ⟨b, 0, cur.toList, by simp, rel_prj hall hd, fun q c hq => ⟨.inl (hQ.r id _ _ _ _ (hin _ _ _ rfl).1 hM' hb rfl), ?_⟩⟩
          rw [cell_row hh, Nat.zero_add]; simpa using hq
        · cases h
      · cases h
    · cases h

theorem rePs_rel {w : World} {St Q : Stb} {β : Bet} {B : Base} {new : Nat} {M m : Nat → Option Row} (hp : Pre w St Q β B M new) (hS : Sees m M) {ids : List Nat} {Qc : Stb} (hQ : QcOK St Q β M ids Qc) : ∀ {ps ps' : List Pt} {l : List Value}, rePs m ps = some ps' →
    (∀ p, p ∈ ps → ∀ id i j, p = .own id i j → id ∈ ids ∧ ∀ t T cs fz, m id = some (.box t T cs fz) → ∀ id' len, C.ow id' len ∈ cs → id' ∈ ids) → All2 (RelP w St Q β) l ps →
    All2 (RelP w (stF β M St ids) Qc noBet) l ps'
  | [], ps', [], h, _, _ => by simp only [rePs, Option.some.injEq] at h; subst h; trivial
  | p :: ps, ps', c :: l, h, hin, ⟨h1, h2⟩ => by
    simp only [rePs] at h
    split at h
    · rename_i p' hp'
      split at h
      · rename_i r' hr'
        cases h
        exact ⟨reP_rel hp hS hQ hp' (hin p (List.mem_cons_self ..)) h1, rePs_rel hp hS hQ hr' (fun q hq => hin q (List.mem_cons_of_mem _ hq)) h2⟩
      · cases h
    · cases h
  | [], _, _ :: _, _, _, h => h.elim
  | _ :: _, _, [], _, _, h => h.elim

theorem reC_rel {w : World} {St Q : Stb} {β : Bet} {B : Base} {new : Nat} {M m : Nat → Option Row} (hp : Pre w St Q β B M new) (hS : Sees m M) {ids : List Nat} {Qc : Stb} (hQ : QcOK St Q β M ids Qc) {x : C} (hin : ∀ id, id ∈ idsC m x → id ∈ ids)
    {c : Value} (hc : RelC w St Q β c x) : RelC w (stF β M St ids) Qc noBet c (reC m x) := by
  cases x with
  | pt p =>
    simp only [reC]
    split
    · rename_i p' hp'
      refine reP_rel hp hS hQ hp' (fun id i j e => ⟨hin id (by subst e; simp [idsC]), fun t T cs fz hm id' len hmem => hin id' ?_⟩) hc
      subst e
      simp only [idsC, hm]
      exact List.mem_cons_of_mem _ (List.mem_flatMap.2 ⟨_, hmem, by simp⟩)
    · trivial
  | cl f ps =>
    simp only [reC]
    split
    · rename_i ps' hps'
      obtain ⟨arr, rfl, hc⟩ := hc
      refine ⟨arr, rfl, rePs_rel hp hS hQ hps' (fun p hpm id i j e => ⟨hin id (by subst e; simp only [idsC]; exact List.mem_flatMap.2 ⟨_, hpm, by simp⟩), fun t T cs fz hm id' len hmem => hin id' ?_⟩) hc⟩
      subst e
      simp only [idsC]
      refine List.mem_flatMap.2 ⟨_, hpm, ?_⟩
      simp only [hm]
      exact List.mem_cons_of_mem _ (List.mem_flatMap.2 ⟨_, hmem, by simp⟩)
    · trivial
  | ow id len => exact reC0_pure (fun _ h => by cases h) (fun _ _ h => by cases h) (reC0_rel hp.mem hS (fun id' len' e => by cases e; exact hin _ idsC_ow) hc)
  | sc v => exact hc
  | sl T xs => exact RelT.mono (frz_keep w St Q β M ids).ext (.sl T) [c] xs hc
  | nl => exact hc
  | em => exact hc
  | nan k => exact hc
  | jk => trivial

theorem reA_rel {w : World} {St Q : Stb} {β : Bet} {B : Base} {new : Nat} {M m : Nat → Option Row} (hp : Pre w St Q β B M new) (hS : Sees m M) {ids : List Nat} {Qc : Stb} (hQ : QcOK St Q β M ids Qc) {x : A} (hin : ∀ id, id ∈ x.cells.flatMap (idsC m) → id ∈ ids)
    {c : Value} (hc : RelA w St Q β c x) : RelA w (stF β M St ids) Qc noBet c (reA m x) := by
  cases x with
  | c x => exact reC_rel hp hS hQ (fun id h => hin id (by simpa [A.cells] using h)) hc
  | ag cs =>
    obtain ⟨arr, rfl, hc⟩ := hc
    refine ⟨arr, rfl, ?_⟩
    have key : ∀ (cs : List C) (l : List Value), (∀ id, id ∈ cs.flatMap (idsC m) → id ∈ ids) → All2 (RelC w St Q β) l cs → All2 (RelC w (stF β M St ids) Qc noBet) l (cs.map (reC m)) := by
      intro cs
      induction cs with
      | nil => intro l _ h; cases l with
        | nil => trivial
        | cons => exact h.elim
      | cons y cs ih => intro l hin h; cases l with
        | nil => exact h.elim
        | cons c l => exact ⟨reC_rel hp hS hQ (fun id hid => hin id (by simp [hid])) h.1, ih l (fun id hid => hin id (by simp only [List.flatMap_cons]; exact List.mem_append_right _ hid)) h.2⟩
    exact key cs _ hin hc

theorem shape_val {w : World} {St Q : Stb} {β : Bet} {T : Ty} {x : A} (hs : shapeOk T x = true) {c : Value} (hc : RelA w St Q β c x) : if T.agg then c = .agg (vcells c x).toArray else vcells c x = [c] := by
  cases x with
  | c x => simp only [shapeOk, Bool.not_eq_true'] at hs; simp [hs, vcells]
  | ag cs => simp only [shapeOk] at hs; obtain ⟨arr, rfl, _⟩ := hc; simp [hs, vcells, Value.cells]

theorem owIds_idsC {m : Nat → Option Row} {x : A} {id len : Nat} (h : C.ow id len ∈ x.cells) : id ∈ x.cells.flatMap (idsC m) := List.mem_flatMap.2 ⟨_, h, idsC_ow⟩

theorem argK_rel {w : World} {St Q : Stb} {β : Bet} {B : Base} {new : Nat} {M m : Nat → Option Row} (hp : Pre w St Q β B M new) (hS : Sees m M) {ids : List Nat} {Qc : Stb} (hQ : QcOK St Q β M ids Qc) : ∀ {Ts : List (Option Ty)} {fs : List F} {as_ : List A} {l : List Value}, argK m Ts fs = some as_ →
    (∀ id, id ∈ argIds m fs → id ∈ ids) → All2 (RelF w St Q β) l fs → All2 (RelA w (stF β M St ids) Qc noBet) l as_
  | [], [], as_, [], h, _, _ => by simp only [argK, Option.some.injEq] at h; subst h; trivial
  | T :: Ts, .a x :: fs, as_, c :: l, h, hin, ⟨h1, h2⟩ => by
    have hin1 : ∀ id, id ∈ x.cells.flatMap (idsC m) → id ∈ ids := fun id hid => hin id (by simp only [argIds]; exact List.mem_append_left _ hid)
    have hin2 : ∀ id, id ∈ argIds m fs → id ∈ ids := fun id hid => hin id (by simp only [argIds]; exact List.mem_append_right _ hid)
    cases T with
    | none =>
      simp only [argK] at h
      split at h
      · rename_i r' hr'
        cases h
        exact ⟨reA_rel hp hS hQ hin1 h1, argK_rel hp hS hQ hr' hin2 h2⟩
      · cases h
    | some T =>
      simp only [argK] at h
      cases hs : shapeOk T x with
      | false => rw [hs] at h; cases h
      | true =>
        rw [hs] at h
        simp only [cond_true] at h
        split at h
        · rename_i d hd
          split at h
          · rename_i r' hr'
            cases h
            have hT := rel_prj (reC0_all (m := m) hp.mem hS (ids := ids) (fun id len hm => hin1 id (owIds_idsC hm)) (rel_cells h1)) hd
            exact ⟨rel_injA hT (shape_val hs h1), argK_rel hp hS hQ hr' hin2 h2⟩
          · cases h
        · cases h
  | [], [], _, _ :: _, _, _, h => h.elim
  | [], _ :: _, _, _, h, _, _ => by simp [argK] at h
  | _ :: _, [], _, _, h, _, _ => by simp [argK] at h
  | _ :: _, .tp _ :: _, _, _, h, _, _ => by simp [argK] at h
  | _ :: _, .a _ :: _, _, [], _, _, h => h.elim

theorem RelT.nosl {w w' : World} {St St' : Stb} : ∀ (T : Ty) (l : List Value) (d : T.den), T.hasSl = false → RelT w St T l d → RelT w' St' T l d
  | .int _, _, _, _, h | .bool, _, _, _, h | .str, _, _, _, h | .flt _, _, _, _, h | .unit, _, _, _, h => h
  | .sl t, _, _, hn, _ => by cases hn
  | .pair a b, l, d, hn, h => by
    simp only [Ty.hasSl, Bool.or_eq_false_iff] at hn
    obtain ⟨l1, l2, rfl, h1, h2⟩ := h
    exact ⟨l1, l2, rfl, RelT.nosl a l1 d.1 hn.1 h1, RelT.nosl b l2 d.2 hn.2 h2⟩

theorem MemRel.mono {w w' : World} {St St' Q : Stb} {β : Bet} {B : Base} {M : Nat → Option Row} (hM : MemRel w St Q β B M) (hk : Keep w St β Q w' St' β) (hh : ∀ b, b < w.heap.size → w'.heap[b]? = w.heap[b]?)
    (hS : ∀ b o, St' b o → St b o ∨ w.heap.size ≤ b) : MemRel w' St' Q β B M := by
  refine ⟨fun id r h => ?_, hM.dist⟩
  obtain ⟨loc, n, hb, hat, hst⟩ := hM.row _ _ h
  refine ⟨loc, n, hb, hat.mono hk (fun b hb' => hh b (hat.lt hb')), fun b hb' => ?_⟩
  obtain ⟨h1, h2, h3⟩ := hst b hb'
  refine ⟨h1, fun o ho => ?_, fun hf o ho => (hk.ext b o (h3 hf o ho)).1⟩
  rcases hS b o ho with h | h
  · exact h2 o h
  · have := hat.lt hb'; omega

theorem MemRel.addw {w : World} {St Q : Stb} {β : Bet} {B : Base} {M : Nat → Option Row} (hM : MemRel w St Q β B M) {new : Nat} {loc : Loc} {r : Row} (hnew : β new = none)
    (hr : RowAt w St Q (fun id => if id = new then some loc else β id) loc r r.n) (hlb : ∀ b, loc.b = some b → B.may b ∧ (∀ o, ¬ St b o) ∧ ∀ id r0 l, M id = some r0 → β id = some l → l.b ≠ some b) (hfz : r.fz = false) :
    MemRel w St Q (fun id => if id = new then some loc else β id) B (fun id => if id = new then some r else M id) := by
  have hk : Keep w St β Q w St (fun id => if id = new then some loc else β id) := ⟨fun _ _ h => ⟨h, rfl⟩, fun _ _ _ => rfl, fun id l hl => by
    by_cases he : id = new
    · subst he; rw [hnew] at hl; cases hl
    · simp [he, hl]⟩
  refine ⟨fun id r0 h => ?_, fun id id' r0 r0' l l' b h h' hne' hl hl' hb => ?_⟩
  · by_cases he : id = new
    · subst he
      simp only [if_true, Option.some.injEq] at h
      subst h
      exact ⟨loc, r.n, by simp, hr, fun b hb => ⟨(hlb b hb).1, fun o ho => absurd ho ((hlb b hb).2.1 o), fun hf => by rw [hfz] at hf; cases hf⟩⟩
    · rw [if_neg he] at h
      obtain ⟨l0, n, hb, hat, hst0⟩ := hM.row _ _ h
      exact ⟨l0, n, by simp [he, hb], hat.mono hk (fun _ _ => rfl), hst0⟩
  · by_cases he : id = new
    · subst he
      have he' : id' ≠ id := fun e => hne' e.symm
      rw [if_neg he'] at h' hl'
      simp only [if_true, Option.some.injEq] at hl
      subst hl
      exact (hlb b hb).2.2 _ _ _ h' hl'
    · rw [if_neg he] at h hl
      by_cases he' : id' = new
      · subst he'
        simp only [if_true, Option.some.injEq] at hl'
        subst hl'
        intro hb'
        exact (hlb b hb').2.2 _ _ _ h hl hb
      · rw [if_neg he'] at h' hl'
        exact hM.dist id id' _ _ _ _ b h h' hne' hl hl' hb

end
end Go.Proofs.Ytefhcmkiachphaa.Ab
end
section
/- The machine's calls keep the state. -/
set_option linter.unusedVariables false
set_option linter.unusedSimpArgs false
namespace Go.Proofs.Ytefhcmkiachphaa.Ab
open Go Go.RowKit

section
variable {P : Program} {R : Type} {r : R} {E : Env}

def addRows (M : Nat → Option Row) : Nat → List Row → Nat → Option Row
  | _, [] => M
  | new, r :: rs => addRows (fun id => if id = new then some r else M id) (new + 1) rs

/-- The state behind a call: the results' rows stand from 'new' on. -/
structure Added (w : World) (St Q : Stb) (β : Bet) (B : Base) (new n : Nat) (β' : Bet) (M' : Nat → Option Row) : Prop where
  bet : ∀ id l, β id = some l → β' id = some l
  bnew : ∀ id, β' id ≠ β id → new ≤ id ∧ id < new + n
  mem : MemRel w St Q β' B M'

theorem ret_one {w : World} {St0 St Q : Stb} {β : Bet} {B0 B : Base} {M : Nat → Option Row} (hM : MemRel w St Q β B M) (hB : ∀ b, B0.may b → B.may b) {new : Nat} (hnew : β new = none) {rt : RT} {c : Value} {rv : RV} {ob : Option Nat} {d : rt.den}
    (hold : ∀ id r l b, M id = some r → β id = some l → l.b = some b → ob ≠ some b) (hst : ∀ b o, ob = some b → ¬ St b o)
    (hconv : ∀ T l (d : T.den), (rt = .d T ∨ ∃ e, rt = .own e T) → RelT w St0 T l d → RelT w St T l d) (hr : RelRV w St0 B0 c rv ob) (hd : prjR rt rv = some d) :
    (∃ T, ∃ x : T.den, rt = .d T ∧ HEq d x ∧ RelA w St Q β c (inj T x)) ∨
    (∃ e T, ∃ xs : List T.den, rt = .own e T ∧ HEq d xs ∧ ∃ loc, RelA w St Q (fun id => if id = new then some loc else β id) c (.c (.ow new xs.length)) ∧
      Added w St Q β B new 1 (fun id => if id = new then some loc else β id) (fun id => if id = new then some (.arr e T xs false) else M id) ∧ ∀ b, loc.b = some b → ob = some b) := by
  cases rt with
  | d T =>
    left
    cases rv with
    | own e T xs => simp [prjR] at hd
    | d x =>
      simp only [prjR] at hd
      cases hs : shapeOk T x with
      | false => rw [hs] at hd; cases hd
      | true =>
        rw [hs] at hd
        simp only [cond_true] at hd
        obtain ⟨_, hr⟩ := hr
        have hT := hconv T _ _ (.inl rfl) (rel_prj (rel_cells hr) hd)
        exact ⟨T, d, rfl, HEq.rfl, rel_injA hT (shape_val hs hr)⟩
  | own e T =>
    right
    cases rv with
    | d x => simp [prjR] at hd
    | own e' T' xs =>
      simp only [prjR] at hd
      split at hd
      · rename_i he
        subst he
        split at hd
        · rename_i hT
          subst hT
          cases hd
          have hbet : ∀ (loc : Loc) id l, β id = some l → (fun i => if i = new then some loc else β i) id = some l := fun loc id l hl => by
            by_cases he : id = new
            · subst he; rw [hnew] at hl; cases hl
            · simp [he, hl]
          have hbnew : ∀ (loc : Loc) id, (fun i => if i = new then some loc else β i) id ≠ β id → new ≤ id ∧ id < new + 1 := fun loc id hid => by
            by_cases he : id = new
            · omega
            · exact absurd (by simp [he]) hid
          cases ob with
          | none =>
            obtain ⟨rfl, rfl⟩ := hr
            refine ⟨e', T', [], rfl, HEq.rfl, ⟨none, 0, T'.w, 0⟩, ⟨_, if_pos rfl, .inl ⟨rfl, rfl, rfl⟩⟩, ⟨hbet _, hbnew _, ?_⟩, fun b hb => by cases hb⟩
            exact hM.addw hnew (rowNil e' T' false 0) (fun b hb => by cases hb) rfl
          | some b =>
            obtain ⟨cap, cur, rfl, hb, hh, hs, hx, hm, hrel, hno⟩ := hr
            refine ⟨e', T', xs, rfl, HEq.rfl, ⟨some b, cap, T'.w, xs.length⟩, ⟨_, if_pos rfl, .inr ⟨b, rfl, rfl, Nat.le_refl _⟩⟩, ⟨hbet _, hbnew _, ?_⟩, fun b' hb' => by cases hb'; rfl⟩
            refine hM.addw hnew ?_ (fun b' hb' => by
              cases hb'
              exact ⟨hB _ hb, fun o => hst b o rfl, fun id r0 l h hl hlb => hold id r0 l b h hl hlb rfl⟩) rfl
            exact .arr e' T' xs false b cap cur rfl hh hs hx hm (fun i x hi => hconv T' _ _ (.inr ⟨_, rfl⟩) (hrel i x hi))
        · cases hd
      · cases hd

theorem ret_sound {w : World} {St0 St Q : Stb} {B0 B : Base} (hB : ∀ b, B0.may b → B.may b) : ∀ (rts : List RT) (d : dens rts) (β : Bet) (M : Nat → Option Row) (new : Nat) (cs : List Value) (rvs : List RV) (obs : List (Option Nat)),
    MemRel w St Q β B M → (∀ j, j < rts.length → β (new + j) = none) → (∀ id r l b, M id = some r → β id = some l → l.b = some b → some b ∉ obs) → (∀ b o, some b ∈ obs → ¬ St b o) →
    (∀ (i j : Nat) (b : Nat), obs[i]? = some (some b) → obs[j]? = some (some b) → i = j) →
    (∀ rt ∈ rts, ∀ T l (d : T.den), (rt = .d T ∨ ∃ e, rt = .own e T) → RelT w St0 T l d → RelT w St T l d) → RelRVs w St0 B0 cs rvs obs → prjRs rts rvs = some d →
    ∃ β', All2 (RelA w St Q β') cs (retF new rts d).1 ∧ Added w St Q β B new rts.length β' (addRows M new (retF new rts d).2)
  | [], d, β, M, new, cs, rvs, obs, hM, hn, hold, hst, hdist, hconv, hr, hd => by
    cases rvs with
    | cons => simp [prjRs] at hd
    | nil => cases cs with
      | cons => cases obs <;> exact hr.elim
      | nil => exact ⟨β, trivial, fun _ _ h => h, fun _ h => absurd rfl h, hM⟩
  | [rt], d, β, M, new, cs, rvs, obs, hM, hn, hold, hst, hdist, hconv, hr, hd => by
    cases rvs with
    | nil => simp [prjRs] at hd
    | cons rv rvs => cases rvs with
      | cons => simp [prjRs] at hd
      | nil => cases cs with
        | nil => exact hr.elim
        | cons c cs => cases obs with
          | nil => exact hr.elim
          | cons ob obs => cases cs with
            | cons => cases obs <;> exact hr.2.elim
            | nil => cases obs with
              | cons => exact hr.2.elim
              | nil =>
                simp only [prjRs] at hd
                have h1 := ret_one (St0 := St0) hM hB (by simpa using hn 0 (by simp)) (ob := ob) (fun id r l b h hl hlb e => hold id r l b h hl hlb (by simp [e])) (fun b o e => hst b o (by simp [e])) (hconv rt (by simp)) hr.1 hd
                rcases h1 with ⟨T, x, rfl, hx, hrel⟩ | ⟨e, T, xs, rfl, hx, loc, hrel, hadd, _⟩
                · obtain rfl := eq_of_heq hx
                  exact ⟨β, ⟨hrel, trivial⟩, fun _ _ h => h, fun _ h => absurd rfl h, hM⟩
                · obtain rfl := eq_of_heq hx
                  exact ⟨_, ⟨hrel, trivial⟩, hadd⟩
  | rt :: rt' :: rts, d, β, M, new, cs, rvs, obs, hM, hn, hold, hst, hdist, hconv, hr, hd => by
    cases rvs with
    | nil => simp [prjRs] at hd
    | cons rv rvs => cases cs with
      | nil => exact hr.elim
      | cons c cs => cases obs with
        | nil => exact hr.elim
        | cons ob obs =>
          simp only [prjRs] at hd
          split at hd
          · rename_i d1 hd1
            split at hd
            · rename_i d2 hd2
              cases hd
              have hdist' : ∀ (i j : Nat) (b : Nat), obs[i]? = some (some b) → obs[j]? = some (some b) → i = j := fun i j b h h' => by
                have := hdist (i + 1) (j + 1) b (by simpa using h) (by simpa using h'); omega
              have h1 := ret_one (St0 := St0) hM hB (by simpa using hn 0 (by simp)) (ob := ob) (fun id r l b h hl hlb e => hold id r l b h hl hlb (by simp [e])) (fun b o e => hst b o (by simp [e])) (hconv rt (by simp)) hr.1 hd1
              rcases h1 with ⟨T, x, rfl, hx, hrel⟩ | ⟨e, T, xs, rfl, hx, loc, hrel, hadd, hloc⟩
              · obtain rfl := eq_of_heq hx
                obtain ⟨β', h2, h3⟩ := ret_sound hB (rt' :: rts) d2 β M new cs rvs obs hM (fun j hj => hn j (by simp at hj ⊢; omega)) (fun id r l b h hl hlb hin => hold id r l b h hl hlb (by simp [hin])) (fun b o hin => hst b o (by simp [hin])) hdist' (fun q hq => hconv q (by simp at hq ⊢; exact .inr hq)) hr.2 hd2
                have hk : Keep w St β Q w St β' := ⟨fun _ _ h => ⟨h, rfl⟩, fun _ _ _ => rfl, h3.bet⟩
                exact ⟨β', ⟨RelA.mono hk hrel, h2⟩, h3.bet, fun id hid => by have := h3.bnew id hid; simp at this ⊢; omega, h3.mem⟩
              · obtain rfl := eq_of_heq hx
                obtain ⟨β', h2, h3⟩ := ret_sound hB (rt' :: rts) d2 (fun id => if id = new then some loc else β id) _ (new + 1) cs rvs obs hadd.mem (fun j hj => by
                    have : new + 1 + j ≠ new := by omega
                    simp only [this, if_false]
                    have := hn (j + 1) (by simp at hj ⊢; omega)
                    rwa [show new + (j + 1) = new + 1 + j by omega] at this) (fun id r l b h hl hlb hin => by
                    by_cases he : id = new
                    · subst he
                      simp only [if_true, Option.some.injEq] at hl
                      subst hl
                      have := hloc b hlb
                      subst this
                      obtain ⟨j, hj⟩ := List.getElem?_of_mem hin
                      have := hdist 0 (j + 1) b rfl (by simpa using hj)
                      omega
                    · simp only [he, if_false] at h hl
                      exact hold id r l b h hl hlb (by simp [hin])) (fun b o hin => hst b o (by simp [hin])) hdist' (fun q hq => hconv q (by simp at hq ⊢; exact .inr hq)) hr.2 hd2
                have hk : Keep w St (fun id => if id = new then some loc else β id) Q w St β' := ⟨fun _ _ h => ⟨h, rfl⟩, fun _ _ _ => rfl, h3.bet⟩
                refine ⟨β', ⟨RelA.mono hk hrel, h2⟩, fun id l hl => h3.bet id l (hadd.bet id l hl), fun id hid => ?_, h3.mem⟩
                by_cases he : β' id = (if id = new then some loc else β id)
                · rw [he] at hid
                  have := hadd.bnew id hid
                  simp at this ⊢; omega
                · have := h3.bnew id he
                  simp at this ⊢; omega
            · cases hd
          · cases hd

theorem retF_rows : ∀ (rts : List RT) (d : dens rts) (new : Nat), (retF new rts d).2.length ≤ rts.length
  | [], _, _ => Nat.le_refl _
  | [.d T], _, _ => by simp [retF]
  | [.own e T], _, _ => by simp [retF]
  | .d T :: r' :: rs, d, new => by have := retF_rows (r' :: rs) d.2 new; simp [retF] at this ⊢; omega
  | .own e T :: r' :: rs, d, new => by have := retF_rows (r' :: rs) d.2 (new + 1); simp [retF] at this ⊢; omega

theorem addRows_eq : ∀ (rows : List Row) (M : Nat → Option Row) (new : Nat), addRows M new rows = fun id => if new ≤ id ∧ id < new + rows.length then rows[id - new]? else M id
  | [], M, new => by funext id; simp only [addRows, List.length_nil]; rw [if_neg (by omega)]
  | r :: rs, M, new => by
    rw [addRows, addRows_eq rs]
    funext id
    simp only [List.length_cons]
    by_cases h : id = new
    · subst h; rw [if_neg (by omega), if_pos (by omega)]; simp
    · by_cases h2 : new + 1 ≤ id ∧ id < new + 1 + rs.length
      · rw [if_pos h2, if_pos (by omega)]
        have : id - new = (id - (new + 1)) + 1 := by omega
        rw [this]; rfl
      · rw [if_neg h2, if_neg h, if_neg (by omega)]

theorem callK0_sound {G : World → Prop} (hcall : ∀ f s args rvs, E.sg f = some s → s.eat = false → s.ios = [] → E.call f args = some rvs → CallOK E.P G f args rvs) {m : Nat → Option Row} {new : Nat} {f : FuncId} {args : List F} {K : OutM → Option R} (hio : ∀ s, E.sg f = some s → s.ios = []) (hea : ∀ s, E.sg f = some s → s.eat = false) (h : callK E m new f args K = some r) :
    ∃ out : OutM, K out = some r ∧ out.rows.length ≤ 4 ∧ out.upd = none ∧ out.ups = [] ∧ (∃ as_ rvs, E.call f as_ = some rvs) ∧ ∀ (w : World) (St Q : Stb) (β : Bet) (B : Base) (M : Nat → Option Row), G w → Pre w St Q β B M new → Sees m M →
      ∀ (cargs : Array Value), All2 (RelF w St Q β) cargs.toList args →
        Calls E.P f cargs w fun e w' => ∃ v St' β', e = .returned v ∧ Good w St Q β B new v w' St' β' out.v (appM M new out) := by
  unfold callK at h
  split at h
  · rename_i sg hsg
    rw [hea sg hsg, hio sg hsg] at h
    simp only at h
    cases hble : Nat.ble sg.rts.length 4 with
    | false => rw [hble] at h; cases h
    | true =>
      rw [hble] at h
      simp only [cond_true] at h
      have h4 := Nat.le_of_ble_eq_true hble
      split at h
      · rename_i as_ has
        simp only [callT] at h
        cases hc : E.call f as_ with
        | none => rw [hc] at h; cases h
        | some rvs =>
          rw [hc] at h
          simp only [Option.bind_some] at h
          cases hd : prjRs sg.rts rvs with
          | none => rw [hd] at h; cases h
          | some d =>
            rw [hd] at h
            simp only [Option.bind_some] at h
            refine ⟨_, h, Nat.le_trans (retF_rows _ _ _) h4, rfl, rfl, ⟨as_, rvs, hc⟩, fun w St Q β B M hG hp hS cargs hargs => ?_⟩
            have hrel := argK_rel hp hS (QcOK.all hp (argIds m args)) has (fun _ h => h) hargs
            have hpF := frz_pre hp (argIds m args)
            refine (hcall f sg as_ rvs hsg (hea sg hsg) (hio sg hsg) hc w _ _ cargs hG hpF.st (fun _ _ h => h) hrel).mono fun e w' => ?_
            rintro ⟨cs, obs, St1, rfl, hbelow, hsub, hnewst, hst1, hrvs, hdist⟩
            have hobs : ∀ b, some b ∈ obs → w.heap.size ≤ b ∧ ∀ o, ¬ St1 b o := by
              have key : ∀ (cs : List Value) (rvs : List RV) (obs : List (Option Nat)), RelRVs w' St1 (base0 w.heap.size) cs rvs obs → ∀ b, some b ∈ obs → w.heap.size ≤ b ∧ ∀ o, ¬ St1 b o := by
                intro cs
                induction cs with
                | nil => intro rvs obs h b hb; cases rvs <;> cases obs <;> first | exact h.elim | cases hb
                | cons c cs ih =>
                  intro rvs obs h b hb
                  cases rvs with
                  | nil => exact h.elim
                  | cons rv rvs => cases obs with
                    | nil => exact h.elim
                    | cons ob obs =>
                      rcases List.mem_cons.1 hb with hb | hb
                      · subst hb
                        cases rv with
                        | d x => cases h.1.1
                        | own e T xs => obtain ⟨cap, cur, _, h1, _, _, _, _, _, h2⟩ := h.1; exact ⟨h1.elim (fun h => h) False.elim, h2⟩
                      · exact ih rvs obs h.2 b hb
              exact key cs rvs obs hrvs
            -- the values
            have wrap : ∀ (β' : Bet) (St' : Stb), All2 (RelA w' St' Q β') cs (retF new sg.rts d).1 → RelF w' St' Q β' (wrapV cs) (wrapF (retF new sg.rts d).1) := by
              intro β' St' hall
              generalize (retF new sg.rts d).1 = l at hall
              match cs, l, hall with
              | [], [], _ => exact ⟨#[], rfl, trivial⟩
              | [c], [x], h => exact h.1
              | c :: c' :: cs, x :: x' :: l, h => exact ⟨_, rfl, h⟩
            cases hsl : sg.rts.any RT.hasSl with
            | true =>
              simp only [hsl, cond_true]
              have hk1 : Keep w (stF β M St (argIds m args)) β Q w' St1 β := ⟨fun b o h => ⟨hsub b o h, hbelow.cell (p := ⟨b, o, none⟩) (hpF.st b o h)⟩, fun b o h => hbelow.cell (p := ⟨b, o, none⟩) (Nat.lt_of_lt_of_le (hp.qb b o h).1 hp.bh), fun _ _ h => h⟩
              have hM1 := hpF.mem.mono hk1 (fun b hb => hbelow.block b hb) hnewst
              obtain ⟨β', hall, hadd⟩ := ret_sound (St0 := St1) (St := St1) (fun b h => h.elim (fun h => .inl (Nat.le_trans hp.bh h)) False.elim) sg.rts d β (frz M (argIds m args)) new cs rvs obs hM1 (fun j hj => hp.bn j (by omega)) (fun id r0 l b h hl hlb hin => by
                obtain ⟨loc, n, hb, hat, _⟩ := hpF.mem.row _ _ h
                rw [hl] at hb; cases hb
                have := hat.lt hlb
                have := (hobs b hin).1
                omega) (fun b o hin => (hobs b hin).2 o) hdist (fun _ _ _ _ _ _ h => h) hrvs hd
              refine ⟨_, St1, β', rfl, Bel.of hbelow hp.bh, ?_, wrap β' St1 hall, ?_, hst1, fun b o h => ?_, fun id hid => ?_⟩
              · exact (frz_keep w St Q β M (argIds m args)).trans (hk1.trans ⟨fun _ _ h => ⟨h, rfl⟩, fun _ _ _ => rfl, hadd.bet⟩)
              · have := hadd.mem
                rw [addRows_eq] at this
                exact this
              · rcases hnewst b o h with h | h
                · exact frz_new hp.mem _ b o h
                · exact .inr (.inl (by have := hp.bh; omega))
              · have := hadd.bnew id hid; omega
            | false =>
              simp only [hsl, cond_false]
              have hk1 : Keep w St β Q w' St β := ⟨fun b o h => ⟨h, hbelow.cell (p := ⟨b, o, none⟩) (hp.st b o h)⟩, fun b o h => hbelow.cell (p := ⟨b, o, none⟩) (Nat.lt_of_lt_of_le (hp.qb b o h).1 hp.bh), fun _ _ h => h⟩
              have hM1 := hp.mem.mono hk1 (fun b hb => hbelow.block b hb) (fun _ _ h => .inl h)
              have hnosl : ∀ rt ∈ sg.rts, rt.hasSl = false := fun rt hrt => by
                rw [List.any_eq_false] at hsl; simpa using hsl rt hrt
              obtain ⟨β', hall, hadd⟩ := ret_sound (St0 := St1) (St := St) (fun b h => h.elim (fun h => .inl (Nat.le_trans hp.bh h)) False.elim) sg.rts d β M new cs rvs obs hM1 (fun j hj => hp.bn j (by omega)) (fun id r0 l b h hl hlb hin => by
                obtain ⟨loc, n, hb, hat, _⟩ := hp.mem.row _ _ h
                rw [hl] at hb; cases hb
                have := hat.lt hlb
                have := (hobs b hin).1
                omega) (fun b o hin ho => by have := hp.st b o ho; have := (hobs b hin).1; omega) hdist (fun rt hrt T l d he h => by
                  have := hnosl rt hrt
                  rcases he with rfl | ⟨e, rfl⟩ <;> exact RelT.nosl T l d this h) hrvs hd
              refine ⟨_, St, β', rfl, Bel.of hbelow hp.bh, ?_, wrap β' St hall, ?_, fun b o h => Nat.lt_of_lt_of_le (hp.st b o h) hbelow.size, fun b o h => .inl h, fun id hid => ?_⟩
              · exact hk1.trans ⟨fun _ _ h => ⟨h, rfl⟩, fun _ _ _ => rfl, hadd.bet⟩
              · have := hadd.mem
                rw [addRows_eq] at this
                have e : appM M new { v := wrapF (retF new sg.rts d).1, rows := (retF new sg.rts d).2 } = fun id => if new ≤ id ∧ id < new + (retF new sg.rts d).2.length then (retF new sg.rts d).2[id - new]? else M id := by
                  funext id; simp [appM, lookU]
                rw [e]; exact this
              · have := hadd.bnew id hid; omega
      · cases h
  · cases h

end
end Go.Proofs.Ytefhcmkiachphaa.Ab
end
