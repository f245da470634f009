/- An abstract machine for a part of GoSem: pure data in place of memory. This text: its values, its state, one operation, one function body. -/
import Derived.Calls
import Derived.Orders
import Derived.KernelRfl
set_option linter.unusedVariables false
namespace Go.Ab

/-! ### Types of data, and what they hold -/
inductive Ty where
  | int (k : IntKind) | bool | sl (t : Ty) | pair (a b : Ty)

abbrev Ty.den : Ty → Type
  | .int _ => Int | .bool => Bool | .sl t => List t.den | .pair a b => a.den × b.den

def Ty.size : Ty → Nat
  | .int _ => 1 | .bool => 1 | .sl _ => 1 | .pair a b => a.size + b.size

def Ty.flat : Ty → Bool
  | .int _ | .bool => true | .sl _ => false | .pair a b => a.flat && b.flat

def Ty.dflt : (t : Ty) → t.den
  | .int _ => (0 : Int) | .bool => false | .sl t => ([] : List t.den) | .pair a b => (a.dflt, b.dflt)

def kindEq : IntKind → IntKind → Bool
  | .i8, .i8 | .i16, .i16 | .i32, .i32 | .i64, .i64 | .u8, .u8 | .u16, .u16 | .u32, .u32 | .u64, .u64 => true
  | _, _ => false
theorem kindEq_spec {a b : IntKind} (h : kindEq a b = true) : a = b := by cases a <;> cases b <;> first | rfl | cases h

def tyEq : Ty → Ty → Bool
  | .int j, .int k => kindEq j k
  | .bool, .bool => true
  | .sl a, .sl b => tyEq a b
  | .pair a b, .pair c d => tyEq a c && tyEq b d
  | _, _ => false
theorem tyEq_spec : ∀ {a b : Ty}, tyEq a b = true → a = b
  | .int j, .int k, h => congrArg Ty.int (kindEq_spec h)
  | .bool, .bool, _ => rfl
  | .sl a, .sl b, h => congrArg Ty.sl (tyEq_spec (a := a) (b := b) h)
  | .pair a b, .pair c d, h => by
    simp only [tyEq, Bool.and_eq_true] at h
    rw [tyEq_spec h.1, tyEq_spec h.2]
  | .int _, .bool, h | .int _, .sl _, h | .int _, .pair _ _, h | .bool, .int _, h | .bool, .sl _, h | .bool, .pair _ _, h
  | .sl _, .int _, h | .sl _, .bool, h | .sl _, .pair _ _, h | .pair _ _, .int _, h | .pair _ _, .bool, h | .pair _ _, .sl _, h => by cases h

/-- The same data at another name of the same type. -/
def castL (a b : Ty) (xs : List a.den) : Option (List b.den) :=
  if h : tyEq a b = true then some (tyEq_spec h ▸ xs) else none

/-! ### Values of one cell, values, objects -/
inductive CVal where
  | undef
  | int (k : IntKind) (n : Int)
  | bool (b : Bool)
  /-- a slice that nobody writes any more; 'sh': it may be kept -/
  | fsl (sh : Bool) (t : Ty) (xs : List t.den)
  /-- the same, not nil -/
  | nfl (sh : Bool) (t : Ty) (xs : List t.den)
  | nsl
  /-- a slice of an object of the call's own: all of it, or so many elements from one on -/
  | osl (id : Nat) (r : Option (Nat × Nat))
  /-- a slice of a box's cells -/
  | bsl (id off len : Nat)
  | ptr (id off : Nat)
  | eptr (id i off : Nat)
  | fptr (sh : Bool) (t : Ty) (x : t.den) (off : Nat)
  /-- a row of an object of rows, its number of turns; a place of the object; a place in a row -/
  | mrow (id i ver : Nat)
  | mptr (id i : Nat)
  | meptr (id i j ver : Nat)
  | nilp | nilf | nilm
  | fn (f : Nat) (cap : List Nat)
  | map (id : Nat)

inductive AVal where
  | undef
  /-- what an operation that was passed by leaves -/
  | skp
  | c (v : CVal)
  | agg (vs : List CVal)
  | tup (xs : List (Bool × List CVal))

inductive Obj where
  | box (own : Bool) (cells : List CVal)
  /-- a box that is read alone -/
  | robox (cells : List CVal)
  | arr (own : Bool) (t : Ty) (xs : List t.den)
  /-- rows of int64, each of its own -/
  | mat (ver : Nat) (xs : List (List Int))
  /-- so many rows, of which the first ones are of its own -/
  | pmat (ver : Nat) (xs : List (List Int)) (n : Nat)
  | imap (kvs : List (Int × Bool))
  | gone

abbrev Hp := Nat → Option Obj
abbrev Upd := List (Nat × Obj)

def hset (h : Hp) (id : Nat) (o : Obj) : Hp := fun n => bif Nat.beq n id then some o else h n
def happly (h : Hp) : Upd → Hp
  | [] => h
  | (id, o) :: u => happly (hset h id o) u

structure St where
  t : Nat → AVal
  h : Hp

def tset (t : Nat → AVal) (d : Nat) (v : AVal) : Nat → AVal := fun n => bif Nat.beq n d then v else t n
def tput (t : Nat → AVal) (d : Option Nat) (v : AVal) : Nat → AVal := match d with
  | some d => tset t d v
  | none => t

/-! ### What an operation comes to -/
inductive Sres where
  /-- the first whose test holds -/
  | alts (l : List (Bool × AVal × Upd))
  | call (X : Type) (x : Option X) (f : X → AVal × Upd)

def Sres.stuck : Sres := .alts []
def Sres.one (v : AVal) : Sres := .alts [(true, v, [])]
def Sres.when (c : Bool) (v : AVal) : Sres := .alts [(c, v, [])]

def altsElim {R : Type} (K : AVal → Upd → Option R) : List (Bool × AVal × Upd) → Option R
  | [] => none
  | (c, v, u) :: l => bif c then K v u else altsElim K l

def Sres.elim {R : Type} (s : Sres) (K : AVal → Upd → Option R) : Option R := match s with
  | .alts l => altsElim K l
  | .call _ x f => x.bind fun r => K (f r).1 (f r).2

/-! ### Constants, cells -/
def absC : Value → CVal
  | .int k n => .int k n
  | .bool b => .bool b
  | .slice none 0 0 => .nsl
  | .pointer none => .nilp
  | .nilFunc => .nilf
  | .map none => .nilm
  | _ => .undef

def oneB : Value → Bool
  | .agg _ | .tuple _ => false
  | _ => true

def absV : Value → AVal
  | .agg cs => bif cs.toList.all oneB then .agg (cs.toList.map absC) else .undef
  | .tuple _ => .undef
  | v => .c (absC v)

def St.ev (st : St) : Operand → AVal
  | .tmp t => st.t t
  | .const v => absV v
  | .global _ => .undef
  | .func f => .c (.fn f [])

/-- Data as cells. -/
def cellsOf (sh : Bool) : (t : Ty) → t.den → List CVal
  | .int k, n => [.int k n]
  | .bool, b => [.bool b]
  | .sl t, xs => [.fsl sh t xs]
  | .pair a b, p => cellsOf sh a p.1 ++ cellsOf sh b p.2

/-- Data with another cell at a place. -/
def setInt (k : IntKind) : Nat → CVal → Option Int
  | 0, .int j n => bif kindEq j k then some n else none
  | _, _ => none
def setBool : Nat → CVal → Option Bool
  | 0, .bool b => some b
  | _, _ => none
def setSl (t : Ty) : Nat → CVal → Option (List t.den)
  | 0, .fsl true s xs => castL s t xs
  | 0, .nsl => some []
  | _, _ => none
def setAt : (t : Ty) → t.den → Nat → CVal → Option t.den
  | .int k, _, off, v => setInt k off v
  | .bool, _, off, v => setBool off v
  | .sl t, _, off, v => setSl t off v
  | .pair a b, p, off, v => bif Nat.blt off a.size then (match setAt a p.1 off v with | some x => some (x, p.2) | none => none)
      else (match setAt b p.2 (off - a.size) v with | some y => some (p.1, y) | none => none)

def setMany (t : Ty) : t.den → Nat → List CVal → Option t.den
  | x, _, [] => some x
  | x, off, v :: vs => match setAt t x off v with
    | some y => setMany t y (off + 1) vs
    | none => none

def fromCells (t : Ty) (vs : List CVal) : Option t.den := bif Nat.beq vs.length t.size then setMany t t.dflt 0 vs else none

def slc {α : Type} (xs : List α) (lo n : Nat) : List α := (xs.drop lo).take n
/-- What a slice of an object reads. -/
def rng {α : Type} (xs : List α) : Option (Nat × Nat) → List α
  | none => xs
  | some (lo, n) => slc xs lo n

/-! ### Types by their numbers -/
def pairs : List (Option Ty) → Option Ty
  | [] => none
  | [t] => t
  | a :: l => match a, pairs l with
    | some x, some y => some (.pair x y)
    | _, _ => none

def tyOf (P : Program) : Nat → TypeId → Option Ty
  | 0, _ => none
  | d + 1, t => match P.underlying t with
    | some (.int k) => some (.int k)
    | some .bool => some .bool
    | some (.slice e) => (tyOf P d e).map .sl
    | some (.struct fs) => pairs (fs.toList.map fun f => tyOf P d f.type)
    | some (.array n e) => pairs (List.replicate n (tyOf P d e))
    | _ => none

/-- Nothing, of a type. -/
def zeroVals : Ty → List Value
  | .int k => [.int k 0]
  | .bool => [.bool false]
  | .sl _ => [.slice none 0 0]
  | .pair a b => zeroVals a ++ zeroVals b

def valEq : Value → Value → Bool
  | .int j a, .int k b => kindEq j k && decide (a = b)
  | .bool a, .bool b => bif a then b else !b
  | .slice none 0 0, .slice none 0 0 => true
  | _, _ => false
def valsEq : List Value → List Value → Bool
  | [], [] => true
  | a :: l, b :: m => valEq a b && valsEq l m
  | _, _ => false

/-- The type of an element, its size and its zero held against the program's own word. -/
def elemTy (P : Program) (e : TypeId) : Option Ty := match tyOf P 8 e, P.info? e with
  | some t, some i => match i.zero with
    | some z => bif Nat.beq i.size t.size && valsEq z.cells.toList (zeroVals t) then some t else none
    | none => none
  | _, _ => none

/-- Is a value of this type a row of cells? -/
def aggT (P : Program) (t : TypeId) : Option Bool := match P.underlying t with
  | some (.struct _) | some (.array _ _) => some true
  | some _ => some false
  | none => none


def zeroCells (P : Program) (t : TypeId) : Option (List CVal) := match P.info? t with
  | some i => match i.zero with
    | some v => bif Nat.beq v.cells.size i.size && v.cells.toList.all oneB then some (v.cells.toList.map absC) else none
    | none => none
  | none => none

/-- A part of cells, as a value. -/
def partO (agg : Option Bool) (vs : List CVal) : Option AVal := match agg with
  | some true => some (.agg vs)
  | some false => match vs with
    | [v] => some (.c v)
    | _ => none
  | none => none

def Sres.ofO : Option AVal → Sres
  | some v => .one v
  | none => .stuck

def cutCells (cells : List CVal) (off n : Nat) : Option (List CVal) :=
  bif Nat.ble (off + n) cells.length then some ((cells.drop off).take n) else none

def putCells (cells : List CVal) (off : Nat) : List CVal → Option (List CVal)
  | [] => some cells
  | v :: vs => bif Nat.blt off cells.length then putCells (cells.set off v) (off + 1) vs else none

def valCells : AVal → Option (List CVal)
  | .c v => some [v]
  | .agg vs => some vs
  | _ => none

/-! ### Whole numbers -/
def bits2 (f : (n : Nat) → BitVec n → BitVec n → BitVec n) (k : IntKind) (x y : Int) : Int :=
  k.wrap (f k.bits (BitVec.ofInt k.bits x) (BitVec.ofInt k.bits y)).toNat

def binInt (op : BinOp) (k : IntKind) (x y : Int) : Sres := match op with
  | .add => .one (.c (.int k (k.wrap (x + y))))
  | .sub => .one (.c (.int k (k.wrap (x - y))))
  | .mul => .one (.c (.int k (k.wrap (x * y))))
  | .quo => .when (!decide (y = 0)) (.c (.int k (k.wrap (x.tdiv y))))
  | .rem => .when (!decide (y = 0)) (.c (.int k (x.tmod y)))
  | .and => .one (.c (.int k (bits2 (fun _ a b => a &&& b) k x y)))
  | .or => .one (.c (.int k (bits2 (fun _ a b => a ||| b) k x y)))
  | .xor => .one (.c (.int k (bits2 (fun _ a b => a ^^^ b) k x y)))
  | .andNot => .one (.c (.int k (bits2 (fun _ a b => a &&& ~~~b) k x y)))
  | .eql => .one (.c (.bool (decide (x = y))))
  | .neq => .one (.c (.bool (!decide (x = y))))
  | .lss => .one (.c (.bool (decide (x < y))))
  | .leq => .one (.c (.bool (decide (x ≤ y))))
  | .gtr => .one (.c (.bool (decide (x > y))))
  | .geq => .one (.c (.bool (decide (x ≥ y))))
  | _ => .stuck

def binShift (op : BinOp) (k : IntKind) (x y : Int) : Sres := match op with
  | .shl => .when (!decide (y < 0)) (.c (.int k (k.wrap (x * 2 ^ (min y.toNat k.bits)))))
  | .shr => .when (!decide (y < 0)) (.c (.int k (x.fdiv (2 ^ (min y.toNat k.bits)))))
  | _ => .stuck

def eqBool (a b : Bool) : Bool := bif a then b else !b

/-- Are two rows of cells (whole numbers and bools alone) the same? -/
def eqCells : List CVal → List CVal → Option Bool
  | [], [] => some true
  | [.int j a], [.int k b] => bif kindEq j k then some (decide (a = b)) else none
  | .int j a :: l, .int k b :: m => bif kindEq j k then (match eqCells l m with | some r => some (decide (a = b) && r) | none => none) else none
  | [.bool a], [.bool b] => some (eqBool a b)
  | .bool a :: l, .bool b :: m => match eqCells l m with | some r => some (eqBool a b && r) | none => none
  | _, _ => none

/-- The kinds of a struct's cells, each a whole number (or a bool) of its own. -/
def fieldKinds (P : Program) : Nat → List Field → Option (List (Option IntKind))
  | _, [] => some []
  | i, f :: l => bif Nat.beq f.offset i && !(f.name == "_") then (match P.underlying f.type, fieldKinds P (i + 1) l with
    | some (.int k), some r => some (some k :: r)
    | some .bool, some r => some (none :: r)
    | _, _ => none) else none
def flatKinds (P : Program) (t : TypeId) : Option (List (Option IntKind)) := match P.underlying t with
  | some (.struct fs) => fieldKinds P 0 fs.toList
  | _ => none
def cellsAre : List (Option IntKind) → List CVal → Bool
  | [], [] => true
  | some k :: l, .int j _ :: cs => kindEq j k && cellsAre l cs
  | none :: l, .bool _ :: cs => cellsAre l cs
  | _, _ => false
def eqAgg (P : Program) (t : TypeId) (a b : List CVal) : Option Bool := match flatKinds P t with
  | some ks => bif cellsAre ks a && cellsAre ks b then eqCells a b else none
  | none => none

/-- Is it the nil that the other operand is, of that type? -/
def isNil (d : TypeDesc) (y : Operand) (x : CVal) : Option Bool := match d, y, x with
  | .slice _, .const (.slice none 0 0), .nsl => some true
  | .slice _, .const (.slice none 0 0), .nfl _ _ _ => some false
  | .pointer _, .const (.pointer none), .nilp => some true
  | .pointer _, .const (.pointer none), .ptr _ _ | .pointer _, .const (.pointer none), .eptr _ _ _ | .pointer _, .const (.pointer none), .fptr _ _ _ _ => some false
  | .func _ _ _, .const .nilFunc, .nilf => some true
  | .func _ _ _, .const .nilFunc, .fn _ _ => some false
  | .map _ _, .const (.map none), .nilm => some true
  | .map _ _, .const (.map none), .map _ => some false
  | _, _, _ => none

def nilAns : BinOp → Bool → Bool
  | .eql, b => b
  | _, b => !b

def cmpOp : BinOp → Bool
  | .eql | .neq => true
  | _ => false

def nilConst : Operand → Bool
  | .const (.slice none 0 0) | .const (.pointer none) | .const .nilFunc | .const (.map none) => true
  | _ => false

def isBoolT (P : Program) (t : TypeId) : Bool := match P.underlying t with
  | some .bool => true
  | _ => false

def binS (P : Program) (eqT : TypeId → Bool) (op : BinOp) (xType : TypeId) (ox oy : Operand) (x y : AVal) : Sres := match op, x, y with
  | .shl, .c (.int k a), .c (.int _ b) | .shr, .c (.int k a), .c (.int _ b) => binShift op k a b
  | _, .c (.int k a), .c (.int j b) => bif kindEq k j then binInt op k a b else .stuck
  | .eql, .c (.bool a), .c (.bool b) => bif isBoolT P xType then .one (.c (.bool (eqBool a b))) else .stuck
  | .neq, .c (.bool a), .c (.bool b) => bif isBoolT P xType then .one (.c (.bool (!eqBool a b))) else .stuck
  | .eql, .agg a, .agg b => bif eqT xType then (match eqAgg P xType a b with | some r => .one (.c (.bool r)) | none => .stuck) else .stuck
  | .neq, .agg a, .agg b => bif eqT xType then (match eqAgg P xType a b with | some r => .one (.c (.bool (!r))) | none => .stuck) else .stuck
  | _, _, _ => .stuck

def unS (op : UnOp) (x : AVal) : Sres := match op, x with
  | .not, .c (.bool b) => .one (.c (.bool (!b)))
  | .neg, .c (.int k n) => .one (.c (.int k (k.wrap (0 - n))))
  | _, _ => .stuck

/-! ### Operations on memory -/
/-- What a slice reads, and of what type. -/
def readSl (h : Hp) : CVal → Option ((t : Ty) × List t.den)
  | .fsl _ t xs => some ⟨t, xs⟩
  | .osl id r => match h id with
    | some (.arr _ t xs) => some ⟨t, rng xs r⟩
    | some (.mat _ xs) => match r with
      | none => some ⟨.sl (.int .i64), xs⟩
      | some _ => none
    | _ => none
  | .mrow id i ver => match h id with
    | some (.mat v xs) => bif Nat.beq v ver then some ⟨.int .i64, xs.getD i []⟩ else none
    | _ => none
  | _ => none

/-- The length of a slice. -/
def lenSl (h : Hp) (v : CVal) : Option Nat := match v with
  | .nsl => some 0
  | .bsl _ _ n => some n
  | v => match readSl h v with
    | some ⟨_, xs⟩ => some xs.length
    | none => none

/-- Cells as they may be kept: what is the call's own is written no more. -/
def frzC (h : Hp) : CVal → Option (CVal × Upd)
  | .osl id r => match h id with
    | some (.arr _ t xs) => some (.fsl true t (rng xs r), [(id, .arr false t xs)])
    | some (.mat _ xs) => match r with
      | none => some (.fsl true (.sl (.int .i64)) xs, [(id, .arr false (.sl (.int .i64)) xs)])
      | some _ => none
    | _ => none
  | .mrow _ _ _ => none
  | v => some (v, [])

def frzL (h : Hp) : List CVal → Option (List CVal × Upd)
  | [] => some ([], [])
  | v :: vs => match frzC h v, frzL h vs with
    | some (v, u), some (vs, us) => some (v :: vs, u ++ us)
    | _, _ => none

def boundOk (i : Int) (n : Nat) : Bool := decide (0 ≤ i) && decide (i < (n : Int))

/-- One place of so many, by a number. -/
def arrAlts (i : Int) (mk : Nat → CVal) : Nat → Nat → List (Bool × AVal × Upd)
  | _, 0 => []
  | j, n + 1 => (decide (i = (j : Int)), .c (mk j), []) :: arrAlts i mk (j + 1) n

def cutS (P : Program) (t : TypeId) (cells : List CVal) (off : Nat) : Sres := .ofO ((cutCells cells off (P.cellsOf t)).bind (partO (aggT P t)))

def loadS (P : Program) (h : Hp) (t : TypeId) (a : AVal) : Sres :=
  match a with
  | .c (.ptr id off) => match h id with
    | some (.box _ cells) => cutS P t cells off
    | some (.robox cells) => cutS P t cells off
    | _ => .stuck
  | .c (.fptr sh ty x off) => cutS P t (cellsOf sh ty x) off
  | .c (.eptr id i off) => match h id with
    | some (.arr _ ty xs) => cutS P t (cellsOf true ty (xs.getD i ty.dflt)) off
    | _ => .stuck
  | .c (.mptr id i) => match h id with
    | some (.mat ver _) => match aggT P t with | some false => .one (.c (.mrow id i ver)) | _ => .stuck
    | _ => .stuck
  | .c (.meptr id i j ver) => match h id with
    | some (.mat v xs) => bif Nat.beq v ver then (match aggT P t with | some false => .one (.c (.int .i64 ((xs.getD i []).getD j 0))) | _ => .stuck) else .stuck
    | _ => .stuck
  | _ => .stuck

def storeS (P : Program) (h : Hp) (t : TypeId) (a v : AVal) : Sres :=
  match valCells v with
  | none => .stuck
  | some vs => bif Nat.beq vs.length (P.cellsOf t) && Nat.blt 0 vs.length then (match a with
    | .c (.ptr id off) => match h id with
      | some (.box true cells) => match putCells cells off vs with
        | some cells => .alts [(true, .undef, [(id, .box true cells)])]
        | none => .stuck
      | _ => .stuck
    | .c (.eptr id i off) => match h id, frzL h vs with
      | some (.arr true ty xs), some (vs, u) => match setMany ty (xs.getD i ty.dflt) off vs with
        | some x => bif u.any (fun p => Nat.beq p.1 id) then .stuck else .alts [(true, .undef, u ++ [(id, .arr true ty (xs.set i x))])]
        | none => .stuck
      | _, _ => .stuck
    | .c (.mptr id i) => match h id, v with
      | some (.mat ver xs), .c (.osl jd none) => match h jd with
        | some (.arr true (.int .i64) ys) => .alts [(true, .undef, [(jd, .gone), (id, .mat (ver + 1) (xs.set i ys))])]
        | _ => .stuck
      | some (.pmat ver xs n), .c (.osl jd none) => match h jd with
        | some (.arr true (.int .i64) ys) => .alts [(Nat.beq i xs.length, .undef, [(jd, .gone), (id, .pmat (ver + 1) (xs ++ [ys]) n)])]
        | _ => .stuck
      | _, _ => .stuck
    | .c (.meptr id i j ver) => match h id, v with
      | some (.mat v xs), .c (.int .i64 n) => bif Nat.beq v ver then .alts [(true, .undef, [(id, .mat v (xs.set i ((xs.getD i []).set j n)))])] else .stuck
      | _, _ => .stuck
    | _ => .stuck) else .stuck

def fieldAddrS (P : Program) (s : TypeId) (a : AVal) (f : Nat) : Sres := match P.underlying s with
  | some (.struct fs) => match fs[f]? with
    | some fd => bif Nat.beq (P.cellsOf fd.type) 0 then .stuck else (match a with
      | .c (.ptr id off) => .one (.c (.ptr id (off + fd.offset)))
      | .c (.eptr id i off) => .one (.c (.eptr id i (off + fd.offset)))
      | .c (.fptr sh t x off) => .one (.c (.fptr sh t x (off + fd.offset)))
      | _ => .stuck)
    | none => .stuck
  | _ => .stuck

def indexAddrS (P : Program) (h : Hp) (t : TypeId) (x i : AVal) : Sres := match P.underlying t, x, i with
  | some (.slice e), .c v, .c (.int _ i) => match v with
    | .fsl sh ty xs => bif Nat.beq (P.cellsOf e) ty.size then .when (boundOk i xs.length) (.c (.fptr sh ty (xs.getD i.toNat ty.dflt) 0)) else .stuck
    | .osl id r => match h id with
      | some (.arr _ ty xs) => bif Nat.beq (P.cellsOf e) ty.size then (match r with
        | none => .when (boundOk i xs.length) (.c (.eptr id i.toNat 0))
        | some (lo, n) => .when (boundOk i n) (.c (.eptr id (lo + i.toNat) 0))) else .stuck
      | some (.mat _ xs) => bif Nat.beq (P.cellsOf e) 1 then (match r with
        | none => .when (boundOk i xs.length) (.c (.mptr id i.toNat))
        | some _ => .stuck) else .stuck
      | some (.pmat _ _ n) => bif Nat.beq (P.cellsOf e) 1 then (match r with
        | none => .when (boundOk i n) (.c (.mptr id i.toNat))
        | some _ => .stuck) else .stuck
      | _ => .stuck
    | .mrow id j ver => bif Nat.beq (P.cellsOf e) 1 then (match h id with
      | some (.mat v xs) => bif Nat.beq v ver then .when (boundOk i (xs.getD j []).length) (.c (.meptr id j i.toNat ver)) else .stuck
      | _ => .stuck) else .stuck
    | _ => .stuck
  | some (.array n e), .c (.ptr id off), .c (.int _ i) => bif Nat.beq (P.cellsOf e) 0 then .stuck else .alts (arrAlts i (fun j => .ptr id (off + j * P.cellsOf e)) 0 n)
  | _, _, _ => .stuck

def indexS (P : Program) (t : TypeId) (x i : AVal) : Sres := match P.underlying t, x, i with
  | some (.array n e), .agg cs, .c (.int _ i) => bif Nat.beq (P.cellsOf e) 1 && (match aggT P e with | some false => true | _ => false) && Nat.beq cs.length n
      then .alts (arrAlts i (fun j => cs.getD j .undef) 0 n) else .stuck
  | _, _, _ => .stuck

def fieldS (P : Program) (s : TypeId) (x : AVal) (f : Nat) : Sres := match P.underlying s, x with
  | some (.struct fs), .agg cs => match fs[f]? with
    | some fd => match cutCells cs fd.offset (P.cellsOf fd.type) with
      | some vs => .ofO (partO (aggT P fd.type) vs)
      | none => .stuck
    | none => .stuck
  | _, _ => .stuck

/-- Cells with parts laid over them. -/
def fillC (place : Nat → Option (Nat × Nat)) (cells : List CVal) : List (Nat × AVal) → Option (List CVal)
  | [] => some cells
  | (i, v) :: rest => match place i, valCells v with
    | some (off, size), some vs => bif Nat.beq vs.length size && Nat.ble (off + size) cells.length then (match putCells cells off vs with
      | some cells => fillC place cells rest
      | none => none) else none
    | _, _ => none

def buildS (P : Program) (t : TypeId) (parts : List (Nat × AVal)) : Sres := match zeroCells P t with
  | none => .stuck
  | some zero => match P.underlying t with
    | some (.struct fs) => bif fs.toList.all (fun f => (P.info? f.type).isSome) then (match fillC (fun i => (fs[i]?).map fun f => (f.offset, P.cellsOf f.type)) zero parts with
      | some cells => .one (.agg cells)
      | none => .stuck) else .stuck
    | some (.array _ e) => bif (P.info? e).isSome then (match fillC (fun i => some (i * P.cellsOf e, P.cellsOf e)) zero parts with
      | some cells => .one (.agg cells)
      | none => .stuck) else .stuck
    | _ => .stuck

/-- Rows that are moved into a row of rows. -/
def takeRow (h : Hp) : AVal → Option (List Int × Upd)
  | .c (.osl jd none) => match h jd with
    | some (.arr true (.int .i64) ys) => some (ys, [(jd, .gone)])
    | _ => none
  | .c .nsl => some ([], [])
  | _ => none

def fillR (h : Hp) (rows : List (List Int)) : List (Nat × AVal) → Option (List (List Int) × Upd)
  | [] => some (rows, [])
  | (i, v) :: rest => match takeRow h v with
    | some (r, u) => match fillR h (rows.set i r) rest with
      | some (rows, us) => some (rows, u ++ us)
      | none => none
    | none => none

def fillE (h : Hp) (t : Ty) (xs : List t.den) : List (Nat × AVal) → Option (List t.den × Upd)
  | [] => some (xs, [])
  | (i, v) :: rest => match valCells v with
    | some vs => match frzL h vs with
      | some (vs, u) => match fromCells t vs with
        | some x => match fillE h t (xs.set i x) rest with
          | some (xs, us) => some (xs, u ++ us)
          | none => none
        | none => none
      | none => none
    | none => none

def noDup : List Nat → Bool
  | [] => true
  | a :: l => !(l.any (Nat.beq a)) && noDup l

def buildSliceS (P : Program) (mat : Bool) (nm : Nat) (h : Hp) (t : TypeId) (n : Nat) (parts : List (Nat × AVal)) : Sres :=
  match P.underlying t, h nm with
  | some (.slice e), none => bif Nat.ble (n * P.cellsOf e) 16777216 then
      (bif mat then (match elemTy P e, fillR h (List.replicate n []) parts with
        | some (.sl (.int .i64)), some (rows, u) => bif noDup (u.map (·.1)) && parts.all (fun p => Nat.blt p.1 n) then .alts [(true, .c (.osl nm none), u ++ [(nm, .mat 0 rows)])] else .stuck
        | _, _ => .stuck)
      else (match elemTy P e with
        | some ty => match fillE h ty (List.replicate n ty.dflt) parts with
          | some (xs, u) => bif parts.all (fun p => Nat.blt p.1 n) then .alts [(true, .c (.osl nm none), u ++ [(nm, .arr true ty xs)])] else .stuck
          | none => .stuck
        | none => .stuck)) else .stuck
  | _, _ => .stuck

def makeSliceS (P : Program) (mat : Bool) (nm : Nat) (h : Hp) (t : TypeId) (l c : AVal) : Sres :=
  match P.underlying t, h nm, l, c with
  | some (.slice e), none, .c (.int .i64 l), .c (.int .i64 c) =>
      let ok := decide (0 ≤ l) && decide (l ≤ c) && decide (c * (P.bytesOf e : Int) ≤ 70368744177664) && decide (c ≤ 70368744177664)
      bif mat then (match elemTy P e with
        | some (.sl (.int .i64)) => .alts [(ok, .c (.osl nm none), [(nm, .mat 0 (List.replicate l.toNat []))])]
        | _ => .stuck)
      else (match elemTy P e with
        | some ty => .alts [(ok, .c (.osl nm none), [(nm, .arr true ty (List.replicate l.toNat ty.dflt))])]
        | none => .stuck)
  | _, _, _, _ => .stuck

/-- Maps from numbers to bools. -/
def boolMap (P : Program) (t : TypeId) : Bool := match P.underlying t with
  | some (.map k e) => (match P.underlying k, (P.info? e).bind (·.zero) with
    | some (.int .i64), some (.bool false) => true
    | _, _ => false)
  | _ => false

def makeMapS (P : Program) (nm : Nat) (h : Hp) (t : TypeId) : Sres :=
  match h nm with
  | none => bif boolMap P t then .alts [(true, .c (.map nm), [(nm, .imap [])])] else .stuck
  | some _ => .stuck

def lookupS (P : Program) (h : Hp) (t : TypeId) (x i : AVal) : Sres :=
  match x, i with
  | .c (.map id), .c (.int .i64 n) => (match h id with
    | some (.imap kvs) => bif boolMap P t then .one (.c (.bool ((kvs.lookup n).getD false))) else .stuck
    | _ => .stuck)
  | _, _ => .stuck

def mapUpdateS (P : Program) (h : Hp) (t : TypeId) (x i v : AVal) : Sres :=
  match x, i, v with
  | .c (.map id), .c (.int .i64 n), .c (.bool b) => (match h id with
    | some (.imap kvs) => bif boolMap P t then .alts [(true, .undef, [(id, .imap ((n, b) :: kvs))])] else .stuck
    | _ => .stuck)
  | _, _, _ => .stuck

/-- The bounds of a cut: low, high. -/
def cutB (len : Nat) (lo hi : Option AVal) : Option (Bool × Nat × Nat) :=
  match lo, hi with
  | none, none => some (true, 0, len)
  | some (.c (.int _ l)), none => some (decide (0 ≤ l) && decide (l ≤ (len : Int)), l.toNat, len)
  | none, some (.c (.int _ u)) => some (decide (0 ≤ u) && decide (u ≤ (len : Int)), 0, u.toNat)
  | some (.c (.int _ l)), some (.c (.int _ u)) => some (decide (0 ≤ l) && decide (l ≤ u) && decide (u ≤ (len : Int)), l.toNat, u.toNat)
  | _, _ => none

/-- Cells that are whole numbers of int64. -/
def intsOf : List CVal → Option (List Int)
  | [] => some []
  | .int .i64 n :: l => match intsOf l with | some r => some (n :: r) | none => none
  | _ => none

/-- How far a row may be cut: to where it goes, if that is told. -/
def cutLen (len : Nat) : Option (Nat × Nat) → Option AVal → Nat
  | none, _ => len
  | some p, none => p.2
  | some p, some _ => len - p.1

def sliceS (P : Program) (h : Hp) (t : TypeId) (x : AVal) (lo hi mx : Option AVal) : Sres :=
  match P.underlying t, mx, x with
  | some (.slice e), none, .c (.fsl sh ty xs) => bif Nat.beq (P.cellsOf e) ty.size then (match cutB xs.length lo hi with
    | some (ok, l, u) => .when ok (.c (.fsl sh ty (match lo, hi with
      | none, none => xs
      | some _, none => xs.drop l
      | none, some _ => xs.take u
      | some _, some _ => slc xs l (u - l))))
    | none => .stuck) else .stuck
  | some (.slice e), none, .c (.osl id r) => match h id with
    | some (.arr _ ty xs) => bif Nat.beq (P.cellsOf e) ty.size then (match cutB (cutLen xs.length r hi) lo hi with
      | some (ok, l, u) => .when ok (.c (.osl id (some ((match r with | none => 0 | some p => p.1) + l, u - l))))
      | none => .stuck) else .stuck
    | _ => .stuck
  | some (.slice e), some (.c (.int _ m)), .c (.osl id none) => match h id with
    | some (.arr _ ty xs) => bif Nat.beq (P.cellsOf e) ty.size then (match lo, hi, cutB xs.length lo hi with
      | some _, some _, some (ok, _, u) => .when (ok && decide ((u : Int) ≤ m) && decide (m ≤ (xs.length : Int))) (.c .undef)
      | _, _, _ => .stuck) else .stuck
    | _ => .stuck
  | some (.array n e), none, .c (.ptr id off) => bif Nat.beq (P.cellsOf e) 1 then (match h id with
    | some (.box own cells) => match lo, hi with
      | none, none => bif Nat.ble (off + n) cells.length then .one (.c (.bsl id off n)) else .stuck
      | _, _ => match cutCells cells off n with
        | some vs => match intsOf vs, cutB n lo hi with
          | some ns, some (ok, l, u) => .alts [(ok, .c (.fsl true (.int .i64) (slc ns l (u - l))), [(id, .box false cells)])]
          | _, _ => .stuck
        | none => .stuck
    | _ => .stuck) else .stuck
  | _, _, _ => .stuck

/-- What is appended, as data of a type. -/
def tailOf (h : Hp) (t : Ty) : CVal → Option (List t.den × Upd)
  | .nsl => some ([], [])
  | .fsl sh s xs => bif sh || s.flat then (castL s t xs).map (·, []) else none
  | .nfl sh s xs => bif sh || s.flat then (castL s t xs).map (·, []) else none
  | .osl id r => match h id with
    | some (.arr _ s xs) => (castL s t (rng xs r)).map (·, [])
    | _ => none
  | _ => none

def appendS (P : Program) (mat : Bool) (nm : Nat) (h : Hp) (t : TypeId) (b x : AVal) : Sres :=
  match P.underlying t, h nm, b, x with
  | some (.slice e), none, .c b, .c x => match elemTy P e with
    | none => .stuck
    | some ty =>
      let room (n : Nat) : Bool := Nat.ble (n * P.bytesOf e) 70368744177664 && Nat.ble n 70368744177664
      bif mat then (match ty, b, x with
        | .sl (.int .i64), .osl id none, .osl jd none => match h id, h jd with
          | some (.mat _ xs), some (.mat _ ys) => bif Nat.beq id jd then .stuck else
              .alts [(room (xs.length + ys.length), .c (.osl nm none), [(id, .gone), (jd, .gone), (nm, .mat 0 (xs ++ ys))])]
          | _, _ => .stuck
        | _, _, _ => .stuck)
      else (match b with
        | .nsl => match tailOf h ty x with
          | some (ys, u) => .alts [(room ys.length, .c (.osl nm none), u ++ [(nm, .arr true ty ys)])]
          | none => .stuck
        | .osl id r => match h id with
          | some (.arr true s xs0) => match castL s ty (rng xs0 r), tailOf h ty x with
            | some xs, some (ys, u) => (match r with
              | some (0, _) | none => (bif (match x with | .osl jd _ => Nat.beq id jd | _ => false) then (match r, x, castL s ty xs0 with
                  | some (0, i), .osl _ (some (j, m)), some zs => .alts [(Nat.ble i j, .c (.osl nm (some (0, i + m))), [(id, .gone), (nm, .arr true ty (zs.take i ++ slc zs j m ++ zs.drop (i + m)))])]
                  | _, _, _ => .stuck) else
                  .alts [(room (xs.length + ys.length), .c (.osl nm none), u ++ [(id, .gone), (nm, .arr true ty (xs ++ ys))])])
              | _ => .stuck)
            | _, _ => .stuck
          | _ => .stuck
        | _ => .stuck)
  | _, _, _, _ => .stuck

/-- The first cells of a box's slice, written over by whole numbers. -/
def overInts : List Int → List CVal → List CVal
  | n :: ns, _ :: cs => .int .i64 n :: overInts ns cs
  | _, cs => cs

/-- Cells of a box over which a row is copied: the i-th is turned if the row is so long. -/
def copyInts (xs : List Int) : Nat → List CVal → List CVal
  | _, [] => []
  | i, .int .i64 n :: cs => .int .i64 (bif Nat.blt i xs.length then xs.getD i 0 else n) :: copyInts xs (i + 1) cs
  | i, c :: cs => c :: copyInts xs (i + 1) cs

def copyS (h : Hp) (d s : AVal) : Sres := match d, s with
  | .c (.bsl id off n), .c s => match h id, (match s with | .nsl => some ⟨.int .i64, []⟩ | s => readSl h s : Option ((t : Ty) × List t.den)) with
    | some (.box true cells), some ⟨.int .i64, ys⟩ => match cutCells cells off n with
      | some vs => match intsOf vs with
        | some _ => .alts [(true, .c (.int .i64 ((min ys.length n : Nat) : Int)), [(id, .box true (cells.take off ++ copyInts ys 0 vs ++ cells.drop (off + n)))])]
        | none => .stuck
      | none => .stuck
    | _, _ => .stuck
  | _, _ => .stuck

/-- A part of a row is cleared. -/
def clearS (P : Program) (h : Hp) (t : TypeId) (id lo n : Nat) : Sres := match P.underlying t, h id with
  | some (.slice e), some (.arr true s xs) => match elemTy P e with
    | some ty => bif tyEq ty s then .alts [(true, .undef, [(id, .arr true s (xs.take lo ++ List.replicate n s.dflt ++ xs.drop (lo + n)))])] else .stuck
    | none => .stuck
  | _, _ => .stuck

def maxS (lt : Bool) : List AVal → Sres
  | [.c (.int k x), .c (.int _ y)] => .one (.c (.int k (bif lt then (bif decide (y < x) then y else x) else (bif decide (y > x) then y else x))))
  | [.c (.int k x), .c (.int _ y), .c (.int _ z)] =>
    let m (a b : Int) : Int := bif lt then (bif decide (b < a) then b else a) else (bif decide (b > a) then b else a)
    .one (.c (.int k (m (m x y) z)))
  | _ => .stuck

/-! ### Calls -/
/-- What is known of functions: by the rounds that a loop may take, a name for what is new, the function, the arguments, the objects. -/
abbrev Sums := Nat → Nat → Nat → List AVal → Hp → Sres

/-! ### What is carried on: slots and objects by their shapes -/
inductive CS where
  | int (k : IntKind) | bool | dat (sh : Bool) (t : Ty) | lit (v : CVal)
inductive VS where
  | c (x : CS) | agg (l : List CS)
inductive OS where
  | box (own : Bool) (l : List CS) | robox (l : List CS) | arr (own : Bool) (t : Ty) | mat | pmat | imap

abbrev SL : List CS → Type
  | [] => Unit
  | .int _ :: l => Int × SL l
  | .bool :: l => Bool × SL l
  | .dat _ t :: l => List t.den × SL l
  | .lit _ :: l => SL l
def VS.cells : VS → List CS
  | .c x => [x]
  | .agg l => l
abbrev SV : List (Nat × VS) → Type
  | [] => Unit
  | s :: l => SL s.2.cells × SV l
abbrev OS.den : OS → Type
  | .box _ l => SL l
  | .robox l => SL l
  | .arr _ t => List t.den
  | .mat => List (List Int)
  | .pmat => List (List Int) × Nat
  | .imap => List (Int × Bool)
abbrev OL : List OS → Type
  | [] => Unit
  | o :: l => o.den × OL l

structure Spec where
  slots : List (Nat × VS)
  objs : List OS
  /-- a slot (and the place in its box) whose nil slice is a row that grows, of which type, of rows? -/
  grow : List (Nat × Option Nat × Ty × Bool)
abbrev Spec.den (S : Spec) : Type := SV S.slots × OL S.objs

def natsEq : List Nat → List Nat → Bool
  | [], [] => true
  | a :: l, b :: m => Nat.beq a b && natsEq l m
  | _, _ => false

def litEq : CVal → CVal → Bool
  | .undef, _ => true
  | .nsl, .nsl | .nilp, .nilp | .nilf, .nilf | .nilm, .nilm => true
  | .osl a none, .osl b none => Nat.beq a b
  | .bsl a i n, .bsl b j m => Nat.beq a b && Nat.beq i j && Nat.beq n m
  | .ptr a i, .ptr b j => Nat.beq a b && Nat.beq i j
  | .fn f c, .fn g d => Nat.beq f g && natsEq c d
  | .map a, .map b => Nat.beq a b
  | _, _ => false

def readC : (l : List CS) → List CVal → Option (SL l)
  | [], [] => some ()
  | .int k :: l, .int j n :: vs => bif kindEq j k then (match readC l vs with | some d => some (n, d) | none => none) else none
  | .bool :: l, .bool b :: vs => match readC l vs with | some d => some (b, d) | none => none
  | .dat sh t :: l, .fsl sh' s xs :: vs => bif sh' || !sh then (match castL s t xs, readC l vs with
    | some xs, some d => some (xs, d)
    | _, _ => none) else none
  | .dat _ _ :: l, .nsl :: vs => match readC l vs with | some d => some ([], d) | none => none
  | .lit c :: l, v :: vs => bif litEq c v then readC l vs else none
  | _, _ => none

def readV (v : VS) (a : AVal) : Option (SL v.cells) := match v, a with
  | .c x, .c y => readC [x] [y]
  | .agg l, .agg vs => readC l vs
  | _, _ => none

def readO (o : OS) (x : Obj) : Option o.den := match o, x with
  | .box own l, .box own' cells => bif own == own' then readC l cells else none
  | .robox l, .robox cells => readC l cells
  | .arr own t, .arr own' s xs => bif own == own' then castL s t xs else none
  | .mat, .mat _ xs => some xs
  | .pmat, .pmat _ xs n => some (xs, n)
  | .imap, .imap kvs => some kvs
  | _, _ => none

def absS : (l : List CS) → SL l → List CVal
  | [], _ => []
  | .int k :: l, d => .int k d.1 :: absS l d.2
  | .bool :: l, d => .bool d.1 :: absS l d.2
  | .dat sh t :: l, d => .fsl sh t d.1 :: absS l d.2
  | .lit c :: l, d => c :: absS l d

def absV' (v : VS) (d : SL v.cells) : AVal := match v, d with
  | .c x, d => match absS [x] d with | c :: _ => .c c | [] => .undef
  | .agg l, d => .agg (absS l d)

def absO (o : OS) (d : o.den) : Obj := match o, d with
  | .box own l, d => .box own (absS l d)
  | .robox l, d => .robox (absS l d)
  | .arr own t, xs => .arr own t xs
  | .mat, xs => .mat 0 xs
  | .pmat, d => .pmat 0 d.1 d.2
  | .imap, kvs => .imap kvs

def absSlots : (l : List (Nat × VS)) → SV l → List (Nat × AVal)
  | [], _ => []
  | s :: l, d => (s.1, absV' s.2 d.1) :: absSlots l d.2
def absObjs : (l : List OS) → OL l → List Obj
  | [], _ => []
  | o :: l, d => absO o d.1 :: absObjs l d.2

/-- The state that data of a shape stands for. -/
def stOf (base : Nat) (S : Spec) (d : S.den) : St :=
  { t := fun n => match (absSlots S.slots d.1).lookup n with | some v => v | none => .undef,
    h := fun n => bif Nat.ble base n then (absObjs S.objs d.2)[n - base]? else none }

/-! ### A function's body -/
inductive Ex where
  | normal | ret | exit (id : Nat)

def exEq : Ex → Ex → Bool
  | .normal, .normal | .ret, .ret => true
  | .exit a, .exit b => Nat.beq a b
  | _, _ => false

abbrev OutD : List (Ex × Spec) → Type
  | [] => Empty
  | [p] => p.2.den
  | p :: q :: l => p.2.den ⊕ OutD (q :: l)

/-- What is known of a loop: the state at its head, those behind it, what the head's data comes to. -/
structure LoopSum where
  inS : Spec
  outs : List (Ex × Spec)
  X : Type
  sum : Nat → inS.den → Option X
  /-- What follows, by what it comes to (elimD, in a form of one's own). -/
  elim : Nat → X → (R : Type) → (Ex → St → Option R) → Option R

structure Notes where
  mats : List Nat
  loops : List (Nat × LoopSum)

structure Env where
  P : Program
  eqT : TypeId → Bool
  sums : Sums

/-- The first of a hundred names for what an operation makes. -/
def ownName (pre : Nat) : Option Nat → Nat
  | some d => pre + 100 * (d + 1)
  | none => pre

def capOf : AVal → Option Nat
  | .c (.ptr id 0) => some id
  | _ => none

def builtinS (P : Program) (mat : Bool) (nm : Nat) (h : Hp) (b : Builtin) (ts : Array TypeId) (l : List AVal) : Sres := match b with
  | .len => match l with
    | [.c v] => match (ts[0]?).bind P.underlying with
      | some (.slice _) => match lenSl h v with
        | some n => .one (.c (.int .i64 (n : Int)))
        | none => .stuck
      | _ => .stuck
    | _ => .stuck
  | .append => match l with
    | [b, x] => match ts.toList with
      | [t, u] => bif Nat.beq t u then appendS P mat nm h t b x else .stuck
      | _ => .stuck
    | _ => .stuck
  | .copy => match l with
    | [d, s] => match (ts[0]?).bind P.underlying with
      | some (.slice e) => bif Nat.beq (P.cellsOf e) 1 then copyS h d s else .stuck
      | _ => .stuck
    | _ => .stuck
  | .clear => match l with
    | [.c (.osl id (some (lo, n)))] => match ts[0]? with
      | some t => clearS P h t id lo n
      | none => .stuck
    | _ => .stuck
  | .max => maxS false l
  | .min => maxS true l
  | _ => .stuck

def opS (E : Env) (A : Notes) (k pre : Nat) (o : Oper) (ev : Operand → AVal) (h : Hp) : Sres :=
  let nm := ownName pre o.dst
  let mat := match o.dst with | some d => A.mats.any (Nat.beq d) | none => false
  match o.op with
  | .move x | .assign x => .one (ev x)
  | .pick c a b => match ev c with
    | .c (.bool c) => match ev a, ev b with
      | .c (.bool a), .c (.bool b) => .one (.c (.bool (bif c then a else b)))
      | va, vb => .alts [(c, va, []), (true, vb, [])]
    | _ => .stuck
  | .alloc t => match h nm, zeroCells E.P t with
    | none, some zs => .alts [(true, .c (.ptr nm 0), [(nm, .box true zs)])]
    | _, _ => .stuck
  | .box t x => match h nm, valCells (ev x) with
    | none, some vs => .alts [(true, .c (.ptr nm 0), [(nm, .box true vs)])]
    | _, _ => .stuck
  | .build t parts => buildS E.P t (parts.toList.map fun p => (p.1, ev p.2))
  | .buildSlice t n parts => buildSliceS E.P mat nm h t n (parts.toList.map fun p => (p.1, ev p.2))
  | .load t a => loadS E.P h t (ev a)
  | .store t a v => storeS E.P h t (ev a) (ev v)
  | .nilCheck x => match ev x with
    | .c (.ptr a b) => .one (.c (.ptr a b))
    | .c (.eptr a b c) => .one (.c (.eptr a b c))
    | .c (.fptr s t x off) => .one (.c (.fptr s t x off))
    | .c (.fn f c) => .one (.c (.fn f c))
    | _ => .stuck
  | .binOp op t x y _ =>
    bif nilConst y && cmpOp op then (match E.P.underlying t, ev x with
      | some d, .c v => match isNil d y v with
        | some b => .one (.c (.bool (nilAns op b)))
        | none => .stuck
      | _, _ => .stuck)
    else binS E.P E.eqT op t x y (ev x) (ev y)
  | .unOp op _ x => unS op (ev x)
  | .convert s d x => match E.P.underlying s, E.P.underlying d, ev x with
    | some (.int _), some (.int k), .c (.int _ n) => .one (.c (.int k (k.wrap n)))
    | _, _, _ => .stuck
  | .makeFunc (.func f) first captured => bif Nat.beq first.size 0 then (match captured.toList.mapM (fun x => capOf (ev x)) with
      | some ids => .one (.c (.fn f ids))
      | none => .stuck) else .stuck
  | .makeSlice t l c => makeSliceS E.P mat nm h t (ev l) (ev c)
  | .makeMap t none => makeMapS E.P nm h t
  | .lookup t x i false => lookupS E.P h t (ev x) (ev i)
  | .mapUpdate t x i y => mapUpdateS E.P h t (ev x) (ev i) (ev y)
  | .slice t x lo hi mx => sliceS E.P h t (ev x) (lo.map ev) (hi.map ev) (mx.map ev)
  | .fieldAddr t x f => fieldAddrS E.P t (ev x) f
  | .field t x f => fieldS E.P t (ev x) f
  | .indexAddr t x i => indexAddrS E.P h t (ev x) (ev i)
  | .index t x i => indexS E.P t (ev x) (ev i)
  | .extract t i => match ev t with
    | .tup xs => match xs[i]? with
      | some (g, vs) => .ofO (partO (some g) vs)
      | none => .stuck
    | _ => .stuck
  | .call c => match c.callee with
    | .builtin b => builtinS E.P mat nm h b c.argTypes (c.args.toList.map ev)
    | .value f => match ev f with
      | .c (.fn f cap) => E.sums k nm f (c.args.toList.map ev ++ cap.map fun id => .c (.ptr id 0)) h
      | _ => .stuck
    | _ => .stuck
  | _ => .stuck

/-! ### A region -/
structure Done where
  i : Nat
  nm : Nat
  upd : List Nat
  refs : Option (List Nat)

def idsC : CVal → List Nat
  | .osl id _ | .bsl id _ _ | .ptr id _ | .eptr id _ _ | .mrow id _ _ | .mptr id _ | .meptr id _ _ _ | .map id => [id]
  | .fn _ cap => cap
  | _ => []
def idsV : AVal → List Nat
  | .c v => idsC v
  | .agg vs => vs.flatMap idsC
  | .tup xs => xs.flatMap fun x => x.2.flatMap idsC
  | _ => []

/-- The objects that an operation looks at: those that its operands name; all, for a call that is handed a box. -/
def boxy : AVal → Bool
  | .c (.ptr _ _) | .c (.map _) | .c (.eptr _ _ _) | .c (.mptr _ _) | .c (.meptr _ _ _ _) | .c (.bsl _ _ _) => true
  | .c (.fn _ cap) => !cap.isEmpty
  | _ => false

def isCall : Op → Bool
  | .call { callee := .value _, .. } => true
  | _ => false

def refsOf (ev : Operand → AVal) (o : Oper) : Option (List Nat) :=
  let vals := o.op.operands.toList.map ev
  bif isCall o.op && vals.any boxy then none else some (vals.flatMap idsV)

def meets (a : List Nat) : Option (List Nat) → Bool
  | none => !a.isEmpty
  | some b => a.any fun x => b.any (Nat.beq x)

/-- May two operations come in either order? -/
def inOwn (nm a : Nat) : Bool := Nat.ble nm a && Nat.blt a (nm + 100)
def clash (x y : Done) : Bool := meets x.upd y.refs || meets y.upd x.refs || x.upd.any (inOwn y.nm) || y.upd.any (inOwn x.nm) || x.upd.any fun a => y.upd.any (Nat.beq a)

/-- The operations that stand ahead of each by the edges, each a sum of powers of two (Region.before). -/
def isBefore (b : Array Nat) (i j : Nat) : Bool := (b.getD j 0).testBit i

/-- Do the temporaries of two operations not touch each other? (Oper.apart, both ways) -/
def apart2 (ops : Array Oper) (i j : Nat) : Bool := match ops[i]?, ops[j]? with
  | some x, some y => x.apart ops y
  | _, _ => false

/-- Do all edges that bind lead back? -/
def edgesOk (ops : Array Oper) : Bool := ops.toList.zipIdx.all fun p => p.1.after.toList.all fun e => !Region.binds .any e || Nat.blt e.on p.2

def dstOk (na nt : Nat) : Option Nat → Bool
  | some d => Nat.ble na d && Nat.blt d nt
  | none => true

def newIds (u : Upd) : List Nat := u.map (·.1)

section
variable (E : Env) (A : Notes) (k pre na nt : Nat) {R : Type}

/-- One operation, wanted. -/
def runOp (o : Oper) (st : St) (K : AVal → Upd → St → Option R) : Option R :=
  bif dstOk na nt o.dst then
    (opS E A k pre o st.ev st.h).elim fun v u => K v u { t := tput st.t o.dst v, h := happly st.h u }
  else none

def slotOf (ops : Array Oper) (j : Nat) : Option Nat := (ops[j]?).bind (·.dst)

/-- The test of an operation's guard: the state is the wiser for it. -/
def guardOp (ops : Array Oper) (o : Oper) (st : St) (yes no : St → Option R) : Option R := match o.guard with
  | none => yes st
  | some (j, want) => match slotOf ops j with
    | none => none
    | some s => match st.t s with
      | .c (.bool b) => bif b then (let st := { st with t := tset st.t s (.c (.bool true)) }; bif want then yes st else no st)
          else (let st := { st with t := tset st.t s (.c (.bool false)) }; bif want then no st else yes st)
      | .skp => no st
      | _ => none

/-- In the order of the text. -/
def evOps (ops : Array Oper) : List (Nat × Oper) → St → (St → Option R) → Option R
  | [], st, K => K st
  | (_, o) :: rest, st, K => guardOp ops o st
      (fun st => runOp E A k pre na nt o st fun _ _ st => evOps ops rest st K)
      (fun st => bif dstOk na nt o.dst then evOps ops rest { st with t := tput st.t o.dst .skp } K else none)

/-- In the order of the text, held against every other. -/
def evOpsD (ops : Array Oper) (b : Array Nat) : List (Nat × Oper) → List Done → St → (St → Option R) → Option R
  | [], _, st, K => K st
  | (i, o) :: rest, done, st, K =>
    bif done.all fun d => isBefore b d.i i || apart2 ops d.i i then guardOp ops o st
      (fun st => let r := refsOf st.ev o; runOp E A k pre na nt o st fun _ u st =>
        let x : Done := ⟨i, ownName pre o.dst, newIds u, r⟩
        bif done.all fun d => isBefore b d.i i || !clash d x then evOpsD ops b rest (x :: done) st K else none)
      (fun st => bif dstOk na nt o.dst then evOpsD ops b rest (⟨i, ownName pre o.dst, [], some []⟩ :: done) { st with t := tput st.t o.dst .skp } K else none)
    else none

/-! ### Loops: what is carried on, under names of its own -/
def idsObj : Option Obj → List Nat
  | some (.box _ cells) => cells.flatMap idsC
  | some (.robox cells) => cells.flatMap idsC
  | _ => []

def collect (h : Hp) : Nat → List Nat → List Nat → List Nat
  | 0, _, seen => seen
  | _, [], seen => seen
  | n + 1, id :: todo, seen => bif seen.any (Nat.beq id) then collect h n todo seen else collect h n (idsObj (h id) ++ todo) (seen ++ [id])

def indexOf (id : Nat) : List Nat → Nat → Option Nat
  | [], _ => none
  | a :: l, i => bif Nat.beq a id then some i else indexOf id l (i + 1)

def renC (h : Hp) (ρ : Nat → Option Nat) : CVal → CVal
  | .osl id r => match ρ id with | some i => .osl i r | none => .undef
  | .bsl id a b => match ρ id with | some i => .bsl i a b | none => .undef
  | .ptr id a => match ρ id with | some i => .ptr i a | none => .undef
  | .eptr id a b => match ρ id with | some i => .eptr i a b | none => .undef
  | .mrow id a ver => match ρ id, h id with
    | some i, some (.mat v _) => bif Nat.beq v ver then .mrow i a 0 else .undef
    | _, _ => .undef
  | .mptr id a => match ρ id with | some i => .mptr i a | none => .undef
  | .meptr id a b ver => match ρ id, h id with
    | some i, some (.mat v _) => bif Nat.beq v ver then .meptr i a b 0 else .undef
    | _, _ => .undef
  | .map id => match ρ id with | some i => .map i | none => .undef
  | .fn f cap => match cap.mapM ρ with | some c => .fn f c | none => .undef
  | v => v
def renV (h : Hp) (ρ : Nat → Option Nat) : AVal → AVal
  | .c v => .c (renC h ρ v)
  | .agg vs => .agg (vs.map (renC h ρ))
  | .tup xs => .tup (xs.map fun x => (x.1, x.2.map (renC h ρ)))
  | v => v
def renO (h : Hp) (ρ : Nat → Option Nat) : Obj → Obj
  | .box own cells => .box own (cells.map (renC h ρ))
  | .robox cells => .robox (cells.map (renC h ρ))
  | .mat _ xs => .mat 0 xs
  | .pmat _ xs n => .pmat 0 xs n
  | o => o

def loopBase : Nat := 1000000

def growOne (st : St) (nm : Nat) (g : Nat × Option Nat × Ty × Bool) : St := match g.2.1 with
  | none => match st.t g.1 with
    | .c .nsl => { t := tset st.t g.1 (.c (.osl nm none)), h := hset st.h nm (bif g.2.2.2 then .mat 0 [] else .arr true g.2.2.1 []) }
    | _ => st
  | some j => match st.t g.1 with
    | .c (.ptr id 0) => match st.h id with
      | some (.box true cells) => match cells[j]? with
        | some .nsl => { st with h := hset (hset st.h nm (bif g.2.2.2 then .mat 0 [] else .arr true g.2.2.1 [])) id (.box true (cells.set j (.osl nm none))) }
        | _ => st
      | _ => st
    | _ => st

def growAll (st : St) : Nat → List (Nat × Option Nat × Ty × Bool) → Option St
  | _, [] => some st
  | nm, g :: l => match st.h nm with
    | none => growAll (growOne st nm g) (nm + 1) l
    | some _ => none

/-- Objects, under names of their own. -/
def renHp (base : Nat) (h : Hp) (ids : List Nat) : Hp := fun n => bif Nat.ble base n then (match ids[n - base]? with
  | some id => (h id).map (renO h fun i => (indexOf i ids 0).map (base + ·))
  | none => none) else none

def readSlots (f : AVal → AVal) (t : Nat → AVal) : (l : List (Nat × VS)) → Option (SV l)
  | [] => some ()
  | s :: l => match readV s.2 (f (t s.1)), readSlots f t l with
    | some d, some ds => some (d, ds)
    | _, _ => none

def readObjs (f : Obj → Obj) (h : Hp) : (l : List OS) → List Nat → Option (OL l)
  | [], [] => some ()
  | o :: l, id :: ids => match (h id).bind fun x => readO o (f x), readObjs f h l ids with
    | some d, some ds => some (d, ds)
    | _, _ => none
  | _, _ => none

/-- A state's data, of a shape. -/
def canonSAt (g0 base n : Nat) (S : Spec) (st : St) : Option S.den := match growAll st g0 S.grow with
  | none => none
  | some st =>
    let ids := collect st.h n (S.slots.flatMap fun s => idsV (st.t s.1)) []
    match readSlots (renV st.h fun i => (indexOf i ids 0).map (base + ·)) st.t S.slots, readObjs (renO st.h fun i => (indexOf i ids 0).map (base + ·)) st.h S.objs ids with
    | some a, some b => some (a, b)
    | _, _ => none

def canonS (S : Spec) (st : St) : Option S.den := canonSAt (pre + 500000) (pre + loopBase) 400 S st

def mkOut : (l : List (Ex × Spec)) → Ex → St → Option (OutD l)
  | [], _, _ => none
  | [p], e, st => bif exEq p.1 e then canonS pre p.2 st else none
  | p :: q :: l, e, st => bif exEq p.1 e then (match canonS pre p.2 st with | some d => some (.inl d) | none => none)
      else (match mkOut (q :: l) e st with | some d => some (.inr d) | none => none)

def elimD (base : Nat) : (l : List (Ex × Spec)) → OutD l → (Ex → St → Option R) → Option R
  | [], _, _ => none
  | [p], d, K => K p.1 (stOf base p.2 d)
  | p :: q :: l, d, K => match d with
    | .inl d => K p.1 (stOf base p.2 d)
    | .inr d => elimD base (q :: l) d K

/-- What comes behind a round of a loop. -/
def roundK (inS : Spec) (outs : List (Ex × Spec)) {X : Type} (toX : OutD outs → X) (again : inS.den → Option X) : Ex → St → Option X
  | .normal, st => match canonS pre inS st with
    | some d => again d
    | none => none
  | e, st => match mkOut pre outs e st with
    | some o => some (toX o)
    | none => none

/-! ### Code -/
def firstRegion : Code → Option Nat
  | .region id _ _ => some id
  | .seq a b => match firstRegion a with | some i => some i | none => firstRegion b
  | .cond _ a b => match firstRegion a with | some i => some i | none => firstRegion b
  | .block _ b | .loop b | .scope b => firstRegion b
  | _ => none

def noteOf (b : Code) : Option LoopSum := match firstRegion b with
  | some i => A.loops.lookup i
  | none => none

def evC : Code → St → (Ex → St → Option R) → Option R
  | .skip, st, K => K .normal st
  | .region _ ops draw, st, K => bif draw
      then bif !edgesOk ops then none else evOpsD E A k pre na nt ops (Region.before ops) (ops.toList.zipIdx.map fun p => (p.2, p.1)) [] st (K .normal)
      else evOps E A k pre na nt ops (ops.toList.zipIdx.map fun p => (p.2, p.1)) st (K .normal)
  | .seq a b, st, K => evC a st fun e st => match e with
    | .normal => evC b st K
    | e => K e st
  | .cond c a b, st, K => match st.ev c with
    | .c (.bool t) => bif t then evC a st K else evC b st K
    | _ => none
  | .block id b, st, K => evC b st fun e st => match e with
    | .exit i => bif Nat.beq i id then K .normal st else K (.exit i) st
    | e => K e st
  | .loop b, st, K => match noteOf A b with
    | none => none
    | some L => match canonS pre L.inS st with
      | none => none
      | some d => (L.sum k d).bind fun x => L.elim (pre + loopBase) x R K
  | .exit id, st, K => K (.exit id) st
  | .ret, st, K => K .ret st
  | _, _, _ => none

def resOne (st : St) : ResultVar → Option AVal
  | .tmp t => some (st.t t)
  | .cell a t => match st.t a with
    | .c (.ptr id off) => match st.h id with
      | some (.box _ cells) => match cutCells cells off (E.P.cellsOf t) with
        | some vs => partO (aggT E.P t) vs
        | none => none
      | _ => none
    | _ => none

def compOf : AVal → Option (Bool × List CVal)
  | .c v => some (false, [v])
  | .agg vs => some (true, vs)
  | _ => none

def resultsA (fn : Func) (st : St) : Option AVal := match fn.results.toList with
  | [] => some (.tup [])
  | [r] => resOne E st r
  | rs => match rs.mapM (fun r => (resOne E st r).bind compOf) with
    | some xs => some (.tup xs)
    | none => none

/-- The slots of a call: its arguments, nothing else. -/
def argSlots (args : List AVal) : Nat → AVal := fun n => args.getD n .skp

/-- A whole function: what it hands back, and the objects behind it. -/
def evF (fn : Func) (args : List AVal) (h : Hp) (K : AVal → St → Option R) : Option R := match fn.body with
  | none => none
  | some code => bif Nat.ble args.length fn.ntmps then evC E A k pre na fn.ntmps code { t := argSlots args, h := h } fun e st => match e with
    | .exit _ => none
    | _ => match resultsA E fn st with
      | some v => K v st
      | none => none
    else none
end
end Go.Ab
