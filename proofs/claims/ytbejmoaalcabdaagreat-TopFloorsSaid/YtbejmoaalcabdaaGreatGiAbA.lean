/- part 0 -/
import Derived.Calls
import Derived.Orders
import Derived.KernelRfl
import Derived.Laws.Append
import Derived.Laws.AppendOwn
import Derived.Laws.MakeOwn
import Derived.Laws.IdiomCopy
import Derived.Laws.StructEq
import Derived.Laws.CopyRow
import Derived.ChangeKeysEq
set_option linter.unusedVariables false
namespace Go.Ab
inductive Ty where
 | int (k : IntKind) | bool | sl (t : Ty) | pair (a b : Ty)
abbrev Ty.den : Ty → Type
 | .int _ => Int | .bool => Bool | .sl t => List t.den | .pair a b => a.den × b.den
def Ty.size : Ty → Nat
 | .int _ => 1 | .bool => 1 | .sl _ => 1 | .pair a b => a.size + b.size
def Ty.flat : Ty → Bool
 | .int _ | .bool => true | .sl _ => false | .pair a b => a.flat && b.flat
def Ty.dflt : (t : Ty) → t.den
 | .int _ => (0 : Int) | .bool => false | .sl t => ([] : List t.den) | .pair a b => (a.dflt, b.dflt)
def zBm : IntKind → IntKind → Bool
 | .i8, .i8 | .i16, .i16 | .i32, .i32 | .i64, .i64 | .u8, .u8 | .u16, .u16 | .u32, .u32 | .u64, .u64 => true
 | _, _ => false
theorem zG3 {a b : IntKind} (h : zBm a b = true) : a = b := by cases a <;> cases b <;> first | rfl | cases h
def zD4 : Ty → Ty → Bool
 | .int j, .int k => zBm j k
 | .bool, .bool => true
 | .sl a, .sl b => zD4 a b
 | .pair a b, .pair c d => zD4 a c && zD4 b d
 | _, _ => false
theorem zMj : ∀ {a b : Ty}, zD4 a b = true → a = b
 | .int j, .int k, h => congrArg Ty.int (zG3 h)
 | .bool, .bool, _ => rfl
 | .sl a, .sl b, h => congrArg Ty.sl (zMj (a := a) (b := b) h)
 | .pair a b, .pair c d, h => by
  simp only [zD4, Bool.and_eq_true] at h
  rw [zMj h.1, zMj h.2]
 | .int _, .bool, h | .int _, .sl _, h | .int _, .pair _ _, h | .bool, .int _, h | .bool, .sl _, h | .bool, .pair _ _, h
 | .sl _, .int _, h | .sl _, .bool, h | .sl _, .pair _ _, h | .pair _ _, .int _, h | .pair _ _, .bool, h | .pair _ _, .sl _, h => by cases h
def zAe (a b : Ty) (xs : List a.den) : Option (List b.den) :=
 if h : zD4 a b = true then some (zMj h ▸ xs) else none
inductive zG where
 | undef
 | int (k : IntKind) (n : Int)
 | bool (b : Bool)
 | fsl (sh : Bool) (t : Ty) (xs : List t.den)
 | nfl (sh : Bool) (t : Ty) (xs : List t.den)
 | nsl
 | osl (id : Nat) (r : Option (Nat × Nat))
 | bsl (id off len : Nat)
 | ptr (id off : Nat)
 | eptr (id i off : Nat)
 | fptr (sh : Bool) (t : Ty) (x : t.den) (off : Nat)
 | mrow (id i ver : Nat)
 | mptr (id i : Nat)
 | meptr (id i j ver : Nat)
 | nilp | nilf | nilm
 | fn (f : Nat) (cap : List Nat)
 | map (id : Nat)
 | str (xs : List Int)
inductive zD where
 | undef
 | skp
 | c (v : zG)
 | agg (vs : List zG)
 | tup (xs : List (Bool × List zG))
inductive Obj where
 | box (own : Bool) (cells : List zG)
 | robox (cells : List zG)
 | arr (own : Bool) (t : Ty) (xs : List t.den)
 | mat (ver : Nat) (xs : List (List Int))
 | pmat (ver : Nat) (xs : List (List Int)) (n : Nat)
 | imap (kvs : List (Int × Bool))
 | gone
abbrev Hp := Nat → Option Obj
abbrev zX := List (Nat × Obj)
def yC (h : Hp) (id : Nat) (o : Obj) : Hp := fun n => bif Nat.beq n id then some o else h n
def qE (h : Hp) : zX → Hp
 | [] => h
 | (id, o) :: u => qE (yC h id o) u
structure St where
 t : Nat → zD
 h : Hp
def wL (t : Nat → zD) (d : Nat) (v : zD) : Nat → zD := fun n => bif Nat.beq n d then v else t n
def zAw (t : Nat → zD) (d : Option Nat) (v : zD) : Nat → zD := match d with
 | some d => wL t d v
 | none => t
inductive yA where
 | alts (l : List (Bool × zD × zX))
 | call (X : Type) (x : Option X) (f : X → zD × zX)
 | call2 (X Y : Type) (x : Option (X ⊕ Y)) (f : X → zD × zX) (g : Y → zD × zX)
def yA.stuck : yA := .alts []
def yA.one (v : zD) : yA := .alts [(true, v, [])]
def yA.when (c : Bool) (v : zD) : yA := .alts [(c, v, [])]
def qMr {R : Type} (K : zD → zX → Option R) : List (Bool × zD × zX) → Option R
 | [] => none
 | (c, v, u) :: l => bif c then K v u else qMr K l
def yA.elim {R : Type} (s : yA) (K : zD → zX → Option R) : Option R := match s with
 | .alts l => qMr K l
 | .call _ x f => x.bind fun r => K (f r).1 (f r).2
 | .call2 _ _ x f g => x.bind fun r => match r with
  | .inl a => K (f a).1 (f a).2
  | .inr b => K (g b).1 (g b).2
def zIm : Value → zG
 | .int k n => .int k n
 | .bool b => .bool b
 | .slice none 0 0 => .nsl
 | .pointer none => .nilp
 | .nilFunc => .nilf
 | .map none => .nilm
 | _ => .undef
def zHl : Value → Bool
 | .agg _ | .tuple _ => false
 | _ => true
def qB0 : Value → zD
 | .agg cs => bif cs.toList.all zHl then .agg (cs.toList.map zIm) else .undef
 | .tuple _ => .undef
 | v => .c (zIm v)
def St.ev (st : St) : Operand → zD
 | .tmp t => st.t t
 | .const v => qB0 v
 | .global _ => .undef
 | .func f => .c (.fn f [])
def cellsOf (sh : Bool) : (t : Ty) → t.den → List zG
 | .int k, n => [.int k n]
 | .bool, b => [.bool b]
 | .sl t, xs => [.fsl sh t xs]
 | .pair a b, p => cellsOf sh a p.1 ++ cellsOf sh b p.2
def qC0 (k : IntKind) : Nat → zG → Option Int
 | 0, .int j n => bif zBm j k then some n else none
 | _, _ => none
def qI0 : Nat → zG → Option Bool
 | 0, .bool b => some b
 | _, _ => none
def qKs (t : Ty) : Nat → zG → Option (List t.den)
 | 0, .fsl true s xs => zAe s t xs
 | 0, .nsl => some []
 | _, _ => none
def zFa : (t : Ty) → t.den → Nat → zG → Option t.den
 | .int k, _, off, v => qC0 k off v
 | .bool, _, off, v => qI0 off v
 | .sl t, _, off, v => qKs t off v
 | .pair a b, p, off, v => bif Nat.blt off a.size then (match zFa a p.1 off v with | some x => some (x, p.2) | none => none)
   else (match zFa b p.2 (off - a.size) v with | some y => some (p.1, y) | none => none)
def zEx (t : Ty) : t.den → Nat → List zG → Option t.den
 | x, _, [] => some x
 | x, off, v :: vs => match zFa t x off v with
  | some y => zEx t y (off + 1) vs
  | none => none
def zP1 (t : Ty) (vs : List zG) : Option t.den := bif Nat.beq vs.length t.size then zEx t t.dflt 0 vs else none
def qY {α : Type} (xs : List α) (lo n : Nat) : List α := (xs.drop lo).take n
def rng {α : Type} (xs : List α) : Option (Nat × Nat) → List α
 | none => xs
 | some (lo, n) => qY xs lo n
def zAi : List (Option Ty) → Option Ty
 | [] => none
 | [t] => t
 | a :: l => match a, zAi l with
  | some x, some y => some (.pair x y)
  | _, _ => none
def zVm (P : Program) : Nat → TypeId → Option Ty
 | 0, _ => none
 | d + 1, t => match P.underlying t with
  | some (.int k) => some (.int k)
  | some .bool => some .bool
  | some (.slice e) => (zVm P d e).map .sl
  | some (.struct fs) => zAi (fs.toList.map fun f => zVm P d f.type)
  | some (.array n e) => zAi (List.replicate n (zVm P d e))
  | _ => none
def jX : Ty → List Value
 | .int k => [.int k 0]
 | .bool => [.bool false]
 | .sl _ => [.slice none 0 0]
 | .pair a b => jX a ++ jX b
def qBf : Value → Value → Bool
 | .int j a, .int k b => zBm j k && decide (a = b)
 | .bool a, .bool b => bif a then b else !b
 | .slice none 0 0, .slice none 0 0 => true
 | _, _ => false
def zR3 : List Value → List Value → Bool
 | [], [] => true
 | a :: l, b :: m => qBf a b && zR3 l m
 | _, _ => false
def zAz (P : Program) (e : TypeId) : Option Ty := match zVm P 8 e, P.info? e with
 | some t, some i => match i.zero with
  | some z => bif Nat.beq i.size t.size && zR3 z.cells.toList (jX t) then some t else none
  | none => none
 | _, _ => none
def zAn (P : Program) (t : TypeId) : Option Bool := match P.underlying t with
 | some (.struct _) | some (.array _ _) => some true
 | some _ => some false
 | none => none
def zeroCells (P : Program) (t : TypeId) : Option (List zG) := match P.info? t with
 | some i => match i.zero with
  | some v => bif Nat.beq v.cells.size i.size && v.cells.toList.all zHl then some (v.cells.toList.map zIm) else none
  | none => none
 | none => none
def zEo (agg : Option Bool) (vs : List zG) : Option zD := match agg with
 | some true => some (.agg vs)
 | some false => match vs with
  | [v] => some (.c v)
  | _ => none
 | none => none
def yA.ofO : Option zD → yA
 | some v => .one v
 | none => .stuck
def zB3 (cells : List zG) (off n : Nat) : Option (List zG) :=
 bif Nat.ble (off + n) cells.length then some ((cells.drop off).take n) else none
def zIj (cells : List zG) (off : Nat) : List zG → Option (List zG)
 | [] => some cells
 | v :: vs => bif Nat.blt off cells.length then zIj (cells.set off v) (off + 1) vs else none
def zCu : zD → Option (List zG)
 | .c v => some [v]
 | .agg vs => some vs
 | _ => none
def zIk (f : (n : Nat) → BitVec n → BitVec n → BitVec n) (k : IntKind) (x y : Int) : Int :=
 k.wrap (f k.bits (BitVec.ofInt k.bits x) (BitVec.ofInt k.bits y)).toNat
def yG9 (op : BinOp) (k : IntKind) (x y : Int) : yA := match op with
 | .add => .one (.c (.int k (k.wrap (x + y))))
 | .sub => .one (.c (.int k (k.wrap (x - y))))
 | .mul => .one (.c (.int k (k.wrap (x * y))))
 | .quo => .when (!decide (y = 0)) (.c (.int k (k.wrap (x.tdiv y))))
 | .rem => .when (!decide (y = 0)) (.c (.int k (x.tmod y)))
 | .and => .one (.c (.int k (zIk (fun _ a b => a &&& b) k x y)))
 | .or => .one (.c (.int k (zIk (fun _ a b => a ||| b) k x y)))
 | .xor => .one (.c (.int k (zIk (fun _ a b => a ^^^ b) k x y)))
 | .andNot => .one (.c (.int k (zIk (fun _ a b => a &&& ~~~b) k x y)))
 | .eql => .one (.c (.bool (decide (x = y))))
 | .neq => .one (.c (.bool (!decide (x = y))))
 | .lss => .one (.c (.bool (decide (x < y))))
 | .leq => .one (.c (.bool (decide (x ≤ y))))
 | .gtr => .one (.c (.bool (decide (x > y))))
 | .geq => .one (.c (.bool (decide (x ≥ y))))
 | _ => .stuck
def yM1 (op : BinOp) (k : IntKind) (x y : Int) : yA := match op with
 | .shl => .when (!decide (y < 0)) (.c (.int k (k.wrap (x * 2 ^ (min y.toNat k.bits)))))
 | .shr => .when (!decide (y < 0)) (.c (.int k (x.fdiv (2 ^ (min y.toNat k.bits)))))
 | _ => .stuck
def zG5 (a b : Bool) : Bool := bif a then b else !b
def qJ3 : List zG → List zG → Option Bool
 | [], [] => some true
 | [.int j a], [.int k b] => bif zBm j k then some (decide (a = b)) else none
 | .int j a :: l, .int k b :: m => bif zBm j k then (match qJ3 l m with | some r => some (decide (a = b) && r) | none => none) else none
 | [.bool a], [.bool b] => some (zG5 a b)
 | .bool a :: l, .bool b :: m => match qJ3 l m with | some r => some (zG5 a b && r) | none => none
 | _, _ => none
def qV5 (P : Program) (rec : TypeId → Option (List (Option IntKind))) : Nat → List Field → Option (List (Option IntKind))
 | _, [] => some []
 | i, f :: l => bif Nat.beq f.offset i && !(f.name == "_") then (match rec f.type, qV5 P rec (i + P.cellsOf f.type) l with
  | some a, some r => bif Nat.beq a.length (P.cellsOf f.type) && Nat.blt 0 a.length then some (a ++ r) else none
  | _, _ => none) else none
def yJ3 {α : Type} : Nat → List α → List α
 | 0, _ => []
 | n + 1, l => l ++ yJ3 n l
def qNf (P : Program) : Nat → TypeId → Option (List (Option IntKind))
 | 0, _ => none
 | d + 1, t => match P.underlying t with
  | some (.int k) => some [some k]
  | some .bool => some [none]
  | some (.struct fs) => qV5 P (qNf P d) 0 fs.toList
  | some (.array n e) => match qNf P d e with
   | some a => bif Nat.beq a.length (P.cellsOf e) && Nat.blt 0 a.length then some (yJ3 n a) else none
   | none => none
  | _ => none
def vD9 (P : Program) (t : TypeId) : Option (List (Option IntKind)) := match P.underlying t with
 | some (.struct _) => qNf P 8 t
 | _ => none
def zYx : List (Option IntKind) → List zG → Bool
 | [], [] => true
 | some k :: l, .int j _ :: cs => zBm j k && zYx l cs
 | none :: l, .bool _ :: cs => zYx l cs
 | _, _ => false
def qFl (P : Program) (t : TypeId) (a b : List zG) : Option Bool := match vD9 P t with
 | some ks => bif zYx ks a && zYx ks b then qJ3 a b else none
 | none => none
def qAe (d : TypeDesc) (y : Operand) (x : zG) : Option Bool := match d, y, x with
 | .slice _, .const (.slice none 0 0), .nsl => some true
 | .slice _, .const (.slice none 0 0), .nfl _ _ _ => some false
 | .pointer _, .const (.pointer none), .nilp => some true
 | .pointer _, .const (.pointer none), .ptr _ _ | .pointer _, .const (.pointer none), .eptr _ _ _ | .pointer _, .const (.pointer none), .fptr _ _ _ _ => some false
 | .func _ _ _, .const .nilFunc, .nilf => some true
 | .func _ _ _, .const .nilFunc, .fn _ _ => some false
 | .map _ _, .const (.map none), .nilm => some true
 | .map _ _, .const (.map none), .map _ => some false
 | _, _, _ => none
def zQk : BinOp → Bool → Bool
 | .eql, b => b
 | _, b => !b
def qRr : BinOp → Bool
 | .eql | .neq => true
 | _ => false
def yIh : Operand → Bool
 | .const (.slice none 0 0) | .const (.pointer none) | .const .nilFunc | .const (.map none) => true
 | _ => false
def zB2 (xs : List Int) : List UInt8 := xs.map fun n => UInt8.ofNat n.toNat
def zPk (xs ys : List Int) : Bool := zB2 xs == zB2 ys
def zYh (P : Program) (t : TypeId) : Bool := match P.underlying t with
 | some .bool => true
 | _ => false
def qF6 (P : Program) (eqT : TypeId → Bool) (op : BinOp) (xType : TypeId) (ox oy : Operand) (x y : zD) : yA := match op, x, y with
 | .shl, .c (.int k a), .c (.int _ b) | .shr, .c (.int k a), .c (.int _ b) => yM1 op k a b
 | _, .c (.int k a), .c (.int j b) => bif zBm k j then yG9 op k a b else .stuck
 | .eql, .c (.bool a), .c (.bool b) => bif zYh P xType then .one (.c (.bool (zG5 a b))) else .stuck
 | .neq, .c (.bool a), .c (.bool b) => bif zYh P xType then .one (.c (.bool (!zG5 a b))) else .stuck
 | .eql, .c (.str a), .c (.str b) => .one (.c (.bool (zPk a b)))
 | .neq, .c (.str a), .c (.str b) => .one (.c (.bool (!zPk a b)))
 | .eql, .agg a, .agg b => bif eqT xType then (match qFl P xType a b with | some r => .one (.c (.bool r)) | none => .stuck) else .stuck
 | .neq, .agg a, .agg b => bif eqT xType then (match qFl P xType a b with | some r => .one (.c (.bool (!r))) | none => .stuck) else .stuck
 | _, _, _ => .stuck
def unS (op : UnOp) (x : zD) : yA := match op, x with
 | .not, .c (.bool b) => .one (.c (.bool (!b)))
 | .neg, .c (.int k n) => .one (.c (.int k (k.wrap (0 - n))))
 | _, _ => .stuck
def zA5 (h : Hp) : zG → Option ((t : Ty) × List t.den)
 | .fsl _ t xs => some ⟨t, xs⟩
 | .osl id r => match h id with
  | some (.arr _ t xs) => some ⟨t, rng xs r⟩
  | some (.mat _ xs) => match r with
   | none => some ⟨.sl (.int .i64), xs⟩
   | some _ => none
  | _ => none
 | .mrow id i ver => match h id with
  | some (.mat v xs) => bif Nat.beq v ver then some ⟨.int .i64, xs.getD i []⟩ else none
  | _ => none
 | _ => none
def zMb (h : Hp) : zG → Option (List Int)
 | .nsl => some []
 | c => match zA5 h c with
  | some ⟨.int .u8, xs⟩ => some xs
  | _ => none
def zKz (h : Hp) (v : zG) : Option Nat := match v with
 | .nsl => some 0
 | .bsl _ _ n => some n
 | v => match zA5 h v with
  | some ⟨_, xs⟩ => some xs.length
  | none => none
def zC1 (h : Hp) : zG → Option (zG × zX)
 | .osl id r => match h id with
  | some (.arr _ t xs) => some (.fsl true t (rng xs r), [(id, .arr false t xs)])
  | some (.mat _ xs) => match r with
   | none => some (.fsl true (.sl (.int .i64)) xs, [(id, .arr false (.sl (.int .i64)) xs)])
   | some _ => none
  | _ => none
 | .mrow _ _ _ => none
 | v => some (v, [])
def zCf (h : Hp) : List zG → Option (List zG × zX)
 | [] => some ([], [])
 | v :: vs => match zC1 h v, zCf h vs with
  | some (v, u), some (vs, us) => some (v :: vs, u ++ us)
  | _, _ => none
def zE (i : Int) (n : Nat) : Bool := decide (0 ≤ i) && decide (i < (n : Int))
def zNh (i : Int) (mk : Nat → zG) : Nat → Nat → List (Bool × zD × zX)
 | _, 0 => []
 | j, n + 1 => (decide (i = (j : Int)), .c (mk j), []) :: zNh i mk (j + 1) n
def zQ8 (P : Program) (t : TypeId) (cells : List zG) (off : Nat) : yA := .ofO ((zB3 cells off (P.cellsOf t)).bind (zEo (zAn P t)))
def zLn (P : Program) (h : Hp) (t : TypeId) (a : zD) : yA :=
 match a with
 | .c (.ptr id off) => match h id with
  | some (.box _ cells) => zQ8 P t cells off
  | some (.robox cells) => zQ8 P t cells off
  | _ => .stuck
 | .c (.fptr sh ty x off) => zQ8 P t (cellsOf sh ty x) off
 | .c (.eptr id i off) => match h id with
  | some (.arr _ ty xs) => zQ8 P t (cellsOf true ty (xs.getD i ty.dflt)) off
  | _ => .stuck
 | .c (.mptr id i) => match h id with
  | some (.mat ver _) => match zAn P t with | some false => .one (.c (.mrow id i ver)) | _ => .stuck
  | _ => .stuck
 | .c (.meptr id i j ver) => match h id with
  | some (.mat v xs) => bif Nat.beq v ver then (match zAn P t with | some false => .one (.c (.int .i64 ((xs.getD i []).getD j 0))) | _ => .stuck) else .stuck
  | _ => .stuck
 | _ => .stuck
def zNl (P : Program) (h : Hp) (t : TypeId) (a v : zD) : yA :=
 match zCu v with
 | none => .stuck
 | some vs => bif Nat.beq vs.length (P.cellsOf t) && Nat.blt 0 vs.length then (match a with
  | .c (.ptr id off) => match h id with
   | some (.box true cells) => match zIj cells off vs with
    | some cells => .alts [(true, .undef, [(id, .box true cells)])]
    | none => .stuck
   | _ => .stuck
  | .c (.eptr id i off) => match h id, zCf h vs with
   | some (.arr true ty xs), some (vs, u) => match zEx ty (xs.getD i ty.dflt) off vs with
    | some x => bif u.any (fun p => Nat.beq p.1 id) then .stuck else .alts [(true, .undef, u ++ [(id, .arr true ty (xs.set i x))])]
    | none => .stuck
   | _, _ => .stuck
  | .c (.mptr id i) => match h id, v with
   | some (.mat ver xs), .c (.osl jd none) => match h jd with
    | some (.arr true (.int .i64) ys) => .alts [(true, .undef, [(jd, .gone), (id, .mat (ver + 1) (xs.set i ys))])]
    | _ => .stuck
   | some (.pmat ver xs n), .c (.osl jd none) => match h jd with
    | some (.arr true (.int .i64) ys) => .alts [(Nat.beq i xs.length, .undef, [(jd, .gone), (id, .pmat (ver + 1) (xs ++ [ys]) n)])]
    | _ => .stuck
   | _, _ => .stuck
  | .c (.meptr id i j ver) => match h id, v with
   | some (.mat v xs), .c (.int .i64 n) => bif Nat.beq v ver then .alts [(true, .undef, [(id, .mat v (xs.set i ((xs.getD i []).set j n)))])] else .stuck
   | _, _ => .stuck
  | _ => .stuck) else .stuck
def qIj (P : Program) (s : TypeId) (a : zD) (f : Nat) : yA := match P.underlying s with
 | some (.struct fs) => match fs[f]? with
  | some fd => bif Nat.beq (P.cellsOf fd.type) 0 then .stuck else (match a with
   | .c (.ptr id off) => .one (.c (.ptr id (off + fd.offset)))
   | .c (.eptr id i off) => .one (.c (.eptr id i (off + fd.offset)))
   | .c (.fptr sh t x off) => .one (.c (.fptr sh t x (off + fd.offset)))
   | _ => .stuck)
  | none => .stuck
 | _ => .stuck
def zNi (P : Program) (h : Hp) (t : TypeId) (x i : zD) : yA := match P.underlying t, x, i with
 | some (.slice e), .c v, .c (.int _ i) => match v with
  | .fsl sh ty xs => bif Nat.beq (P.cellsOf e) ty.size then .when (zE i xs.length) (.c (.fptr sh ty (xs.getD i.toNat ty.dflt) 0)) else .stuck
  | .osl id r => match h id with
   | some (.arr _ ty xs) => bif Nat.beq (P.cellsOf e) ty.size then (match r with
    | none => .when (zE i xs.length) (.c (.eptr id i.toNat 0))
    | some (lo, n) => .when (zE i n) (.c (.eptr id (lo + i.toNat) 0))) else .stuck
   | some (.mat _ xs) => bif Nat.beq (P.cellsOf e) 1 then (match r with
    | none => .when (zE i xs.length) (.c (.mptr id i.toNat))
    | some _ => .stuck) else .stuck
   | some (.pmat _ _ n) => bif Nat.beq (P.cellsOf e) 1 then (match r with
    | none => .when (zE i n) (.c (.mptr id i.toNat))
    | some _ => .stuck) else .stuck
   | _ => .stuck
  | .mrow id j ver => bif Nat.beq (P.cellsOf e) 1 then (match h id with
   | some (.mat v xs) => bif Nat.beq v ver then .when (zE i (xs.getD j []).length) (.c (.meptr id j i.toNat ver)) else .stuck
   | _ => .stuck) else .stuck
  | _ => .stuck
 | some (.array n e), .c (.ptr id off), .c (.int _ i) => bif Nat.beq (P.cellsOf e) 0 then .stuck else .alts (zNh i (fun j => .ptr id (off + j * P.cellsOf e)) 0 n)
 | some (.array n e), .c (.eptr id q off), .c (.int _ i) => bif Nat.beq (P.cellsOf e) 0 then .stuck else .alts (zNh i (fun j => .eptr id q (off + j * P.cellsOf e)) 0 n)
 | some (.array n e), .c (.fptr sh t x off), .c (.int _ i) => bif Nat.beq (P.cellsOf e) 0 then .stuck else .alts (zNh i (fun j => .fptr sh t x (off + j * P.cellsOf e)) 0 n)
 | _, _, _ => .stuck
def qA7 (P : Program) (t : TypeId) (x i : zD) : yA := match P.underlying t, x, i with
 | some (.array n e), .agg cs, .c (.int _ i) => bif Nat.beq (P.cellsOf e) 1 && (match zAn P e with | some false => true | _ => false) && Nat.beq cs.length n
   then .alts (zNh i (fun j => cs.getD j .undef) 0 n) else .stuck
 | _, _, _ => .stuck
def qMp (P : Program) (s : TypeId) (x : zD) (f : Nat) : yA := match P.underlying s, x with
 | some (.struct fs), .agg cs => match fs[f]? with
  | some fd => match zB3 cs fd.offset (P.cellsOf fd.type) with
   | some vs => .ofO (zEo (zAn P fd.type) vs)
   | none => .stuck
  | none => .stuck
 | _, _ => .stuck
def zQy (place : Nat → Option (Nat × Nat)) (cells : List zG) : List (Nat × zD) → Option (List zG)
 | [] => some cells
 | (i, v) :: rest => match place i, zCu v with
  | some (off, size), some vs => bif Nat.beq vs.length size && Nat.ble (off + size) cells.length then (match zIj cells off vs with
   | some cells => zQy place cells rest
   | none => none) else none
  | _, _ => none
def qC5 (P : Program) (t : TypeId) (parts : List (Nat × zD)) : yA := match zeroCells P t with
 | none => .stuck
 | some zero => match P.underlying t with
  | some (.struct fs) => bif fs.toList.all (fun f => (P.info? f.type).isSome) then (match zQy (fun i => (fs[i]?).map fun f => (f.offset, P.cellsOf f.type)) zero parts with
   | some cells => .one (.agg cells)
   | none => .stuck) else .stuck
  | some (.array _ e) => bif (P.info? e).isSome then (match zQy (fun i => some (i * P.cellsOf e, P.cellsOf e)) zero parts with
   | some cells => .one (.agg cells)
   | none => .stuck) else .stuck
  | _ => .stuck
def zIe (h : Hp) : zD → Option (List Int × zX)
 | .c (.osl jd none) => match h jd with
  | some (.arr true (.int .i64) ys) => some (ys, [(jd, .gone)])
  | _ => none
 | .c .nsl => some ([], [])
 | _ => none
def zIf (h : Hp) (rows : List (List Int)) : List (Nat × zD) → Option (List (List Int) × zX)
 | [] => some (rows, [])
 | (i, v) :: rest => match zIe h v with
  | some (r, u) => match zIf h (rows.set i r) rest with
   | some (rows, us) => some (rows, u ++ us)
   | none => none
  | none => none
def zCy (h : Hp) (t : Ty) (xs : List t.den) : List (Nat × zD) → Option (List t.den × zX)
 | [] => some (xs, [])
 | (i, v) :: rest => match zCu v with
  | some vs => match zCf h vs with
   | some (vs, u) => match zP1 t vs with
    | some x => match zCy h t (xs.set i x) rest with
     | some (xs, us) => some (xs, u ++ us)
     | none => none
    | none => none
   | none => none
  | none => none
def zFi : List Nat → Bool
 | [] => true
 | a :: l => !(l.any (Nat.beq a)) && zFi l
def zNm (P : Program) (mat : Bool) (nm : Nat) (h : Hp) (t : TypeId) (n : Nat) (parts : List (Nat × zD)) : yA :=
 match P.underlying t, h nm with
 | some (.slice e), none => bif Nat.ble (n * P.cellsOf e) 16777216 then
   (bif mat then (match zAz P e, zIf h (List.replicate n []) parts with
    | some (.sl (.int .i64)), some (rows, u) => bif zFi (u.map (·.1)) && parts.all (fun p => Nat.blt p.1 n) then .alts [(true, .c (.osl nm none), u ++ [(nm, .mat 0 rows)])] else .stuck
    | _, _ => .stuck)
   else (match zAz P e with
    | some ty => match zCy h ty (List.replicate n ty.dflt) parts with
     | some (xs, u) => bif parts.all (fun p => Nat.blt p.1 n) then .alts [(true, .c (.osl nm none), u ++ [(nm, .arr true ty xs)])] else .stuck
     | none => .stuck
    | none => .stuck)) else .stuck
 | _, _ => .stuck
def zM8 (P : Program) (mat : Bool) (nm : Nat) (h : Hp) (t : TypeId) (l c : zD) : yA :=
 match P.underlying t, h nm, l, c with
 | some (.slice e), none, .c (.int .i64 l), .c (.int .i64 c) =>
   let ok := decide (0 ≤ l) && decide (l ≤ c) && decide (c * (P.bytesOf e : Int) ≤ 140737488355328) && decide (c ≤ 140737488355328)
   bif mat then (match zAz P e with
    | some (.sl (.int .i64)) => .alts [(ok, .c (.osl nm none), [(nm, .mat 0 (List.replicate l.toNat []))])]
    | _ => .stuck)
   else (match zAz P e with
    | some ty => .alts [(ok, .c (.osl nm none), [(nm, .arr true ty (List.replicate l.toNat ty.dflt))])]
    | none => .stuck)
 | _, _, _, _ => .stuck
def zRj (P : Program) (t : TypeId) : Bool := match P.underlying t with
 | some (.map k e) => (match P.underlying k, (P.info? e).bind (·.zero) with
  | some (.int .i64), some (.bool false) => true
  | _, _ => false)
 | _ => false
def zJa (P : Program) (nm : Nat) (h : Hp) (t : TypeId) : yA :=
 match h nm with
 | none => bif zRj P t then .alts [(true, .c (.map nm), [(nm, .imap [])])] else .stuck
 | some _ => .stuck
def zNc (P : Program) (h : Hp) (t : TypeId) (x i : zD) : yA :=
 match x, i with
 | .c (.map id), .c (.int .i64 n) => (match h id with
  | some (.imap kvs) => bif zRj P t then .one (.c (.bool ((kvs.lookup n).getD false))) else .stuck
  | _ => .stuck)
 | _, _ => .stuck
def zJ7 (P : Program) (h : Hp) (t : TypeId) (x i v : zD) : yA :=
 match x, i, v with
 | .c (.map id), .c (.int .i64 n), .c (.bool b) => (match h id with
  | some (.imap kvs) => bif zRj P t then .alts [(true, .undef, [(id, .imap ((n, b) :: kvs))])] else .stuck
  | _ => .stuck)
 | _, _, _ => .stuck
def zFz (len : Nat) (lo hi : Option zD) : Option (Bool × Nat × Nat) :=
 match lo, hi with
 | none, none => some (true, 0, len)
 | some (.c (.int _ l)), none => some (decide (0 ≤ l) && decide (l ≤ (len : Int)), l.toNat, len)
 | none, some (.c (.int _ u)) => some (decide (0 ≤ u) && decide (u ≤ (len : Int)), 0, u.toNat)
 | some (.c (.int _ l)), some (.c (.int _ u)) => some (decide (0 ≤ l) && decide (l ≤ u) && decide (u ≤ (len : Int)), l.toNat, u.toNat)
 | _, _ => none
def zHm : List zG → Option (List Int)
 | [] => some []
 | .int .i64 n :: l => match zHm l with | some r => some (n :: r) | none => none
 | _ => none
def qDu (len : Nat) : Option (Nat × Nat) → Option zD → Nat
 | none, _ => len
 | some p, none => p.2
 | some p, some _ => len - p.1
def zMx (P : Program) (h : Hp) (t : TypeId) (x : zD) (lo hi mx : Option zD) : yA :=
 match P.underlying t, mx, x with
 | some (.slice e), none, .c (.fsl sh ty xs) => bif Nat.beq (P.cellsOf e) ty.size then (match zFz xs.length lo hi with
  | some (ok, l, u) => .when ok (.c (.fsl sh ty (match lo, hi with
   | none, none => xs
   | some _, none => xs.drop l
   | none, some _ => xs.take u
   | some _, some _ => qY xs l (u - l))))
  | none => .stuck) else .stuck
 | some (.slice e), none, .c (.osl id r) => match h id with
  | some (.arr _ ty xs) => bif Nat.beq (P.cellsOf e) ty.size then (match zFz (qDu xs.length r hi) lo hi with
   | some (ok, l, u) => .when ok (.c (.osl id (some ((match r with | none => 0 | some p => p.1) + l, u - l))))
   | none => .stuck) else .stuck
  | _ => .stuck
 | some (.slice e), some (.c (.int _ m)), .c (.osl id none) => match h id with
  | some (.arr _ ty xs) => bif Nat.beq (P.cellsOf e) ty.size then (match lo, hi, zFz xs.length lo hi with
   | some _, some _, some (ok, _, u) => .when (ok && decide ((u : Int) ≤ m) && decide (m ≤ (xs.length : Int))) (.c .undef)
   | _, _, _ => .stuck) else .stuck
  | _ => .stuck
 | some (.array n e), none, .c (.ptr id off) => bif Nat.beq (P.cellsOf e) 1 then (match h id with
  | some (.box own cells) => match lo, hi with
   | none, none => bif Nat.ble (off + n) cells.length then .one (.c (.bsl id off n)) else .stuck
   | _, _ => match zB3 cells off n with
    | some vs => match zHm vs, zFz n lo hi with
     | some ns, some (ok, l, u) => .alts [(ok, .c (.fsl true (.int .i64) (qY ns l (u - l))), bif own then [(id, .box false cells)] else [])]
     | _, _ => .stuck
    | none => .stuck
  | _ => .stuck) else .stuck
 | _, _, _ => .stuck
def zFg (h : Hp) (t : Ty) : zG → Option (List t.den × zX)
 | .nsl => some ([], [])
 | .fsl sh s xs => bif sh || s.flat then (zAe s t xs).map (·, []) else none
 | .nfl sh s xs => bif sh || s.flat then (zAe s t xs).map (·, []) else none
 | .osl id r => match h id with
  | some (.arr _ s xs) => (zAe s t (rng xs r)).map (·, [])
  | _ => none
 | _ => none
def zK4 (P : Program) (mat : Bool) (nm : Nat) (h : Hp) (t : TypeId) (b x : zD) : yA :=
 match P.underlying t, h nm, b, x with
 | some (.slice e), none, .c b, .c x => match zAz P e with
  | none => .stuck
  | some ty =>
   let room (n : Nat) : Bool := Nat.ble (n * P.bytesOf e) 140737488355328 && Nat.ble n 140737488355328
   bif mat then (match ty, b, x with
    | .sl (.int .i64), .osl id none, .osl jd none => match h id, h jd with
     | some (.mat _ xs), some (.mat _ ys) => bif Nat.beq id jd then .stuck else
       .alts [(room (xs.length + ys.length), .c (.osl nm none), [(id, .gone), (jd, .gone), (nm, .mat 0 (xs ++ ys))])]
     | _, _ => .stuck
    | _, _, _ => .stuck)
   else (match b with
    | .nsl => match zFg h ty x with
     | some (ys, u) => .alts [(room ys.length, .c (.osl nm none), u ++ [(nm, .arr true ty ys)])]
     | none => .stuck
    | .osl id r => match h id with
     | some (.arr true s xs0) => match zAe s ty (rng xs0 r), zFg h ty x with
      | some xs, some (ys, u) => (match r with
       | some (0, _) | none => (bif (match x with | .osl jd _ => Nat.beq id jd | _ => false) then (match r, x, zAe s ty xs0 with
         | some (0, i), .osl _ (some (j, m)), some zs => .alts [(Nat.ble i j, .c (.osl nm (some (0, i + m))), [(id, .gone), (nm, .arr true ty (zs.take i ++ qY zs j m ++ zs.drop (i + m)))])]
         | _, _, _ => .stuck) else
         .alts [(room (xs.length + ys.length), .c (.osl nm none), u ++ [(id, .gone), (nm, .arr true ty (xs ++ ys))])])
       | _ => .stuck)
      | _, _ => .stuck
     | _ => .stuck
    | _ => .stuck)
 | _, _, _, _ => .stuck
def zGu (xs : List Int) : Nat → List zG → List zG
 | _, [] => []
 | i, .int .i64 n :: cs => .int .i64 (bif Nat.blt i xs.length then xs.getD i 0 else n) :: zGu xs (i + 1) cs
 | i, c :: cs => c :: zGu xs (i + 1) cs
def zKq (h : Hp) (d s : zD) : yA := match d, s with
 | .c (.bsl id off n), .c s => match h id, (match s with | .nsl => some ⟨.int .i64, []⟩ | s => zA5 h s : Option ((t : Ty) × List t.den)) with
  | some (.box true cells), some ⟨.int .i64, ys⟩ => match zB3 cells off n with
   | some vs => match zHm vs with
    | some _ => .alts [(true, .c (.int .i64 ((min ys.length n : Nat) : Int)), [(id, .box true (cells.take off ++ zGu ys 0 vs ++ cells.drop (off + n)))])]
    | none => .stuck
   | none => .stuck
  | _, _ => .stuck
 | _, _ => .stuck
def zY8 (P : Program) (h : Hp) (t : TypeId) (id lo n : Nat) : yA := match P.underlying t, h id with
 | some (.slice e), some (.arr true s xs) => match zAz P e with
  | some ty => bif zD4 ty s then .alts [(true, .undef, [(id, .arr true s (xs.take lo ++ List.replicate n s.dflt ++ xs.drop (lo + n)))])] else .stuck
  | none => .stuck
 | _, _ => .stuck
def zXa (lt : Bool) : List zD → yA
 | [.c (.int k x), .c (.int _ y)] => .one (.c (.int k (bif lt then (bif decide (y < x) then y else x) else (bif decide (y > x) then y else x))))
 | [.c (.int k x), .c (.int _ y), .c (.int _ z)] =>
  let m (a b : Int) : Int := bif lt then (bif decide (b < a) then b else a) else (bif decide (b > a) then b else a)
  .one (.c (.int k (m (m x y) z)))
 | _ => .stuck
abbrev zSv := Nat → Nat → Nat → List zD → Hp → yA
inductive CS where
 | int (k : IntKind) | bool | dat (sh : Bool) (t : Ty) | lit (v : zG)
inductive VS where
 | c (x : CS) | agg (l : List CS)
inductive OS where
 | box (own : Bool) (l : List CS) | robox (l : List CS) | arr (own : Bool) (t : Ty) | mat | pmat | imap
abbrev SL : List CS → Type
 | [] => Unit
 | .int _ :: l => Int × SL l
 | .bool :: l => Bool × SL l
 | .dat _ t :: l => List t.den × SL l
 | .lit _ :: l => SL l
def VS.cells : VS → List CS
 | .c x => [x]
 | .agg l => l
abbrev SV : List (Nat × VS) → Type
 | [] => Unit
 | s :: l => SL s.2.cells × SV l
abbrev OS.den : OS → Type
 | .box _ l => SL l
 | .robox l => SL l
 | .arr _ t => List t.den
 | .mat => List (List Int)
 | .pmat => List (List Int) × Nat
 | .imap => List (Int × Bool)
abbrev OL : List OS → Type
 | [] => Unit
 | o :: l => o.den × OL l
structure zM where
 slots : List (Nat × VS)
 objs : List OS
 grow : List (Nat × Option Nat × Ty × Bool)
abbrev zM.den (S : zM) : Type := SV S.slots × OL S.objs
def zT2 : List Nat → List Nat → Bool
 | [], [] => true
 | a :: l, b :: m => Nat.beq a b && zT2 l m
 | _, _ => false
def qDh : zG → zG → Bool
 | .undef, _ => true
 | .nsl, .nsl | .nilp, .nilp | .nilf, .nilf | .nilm, .nilm => true
 | .osl a none, .osl b none => Nat.beq a b
 | .bsl a i n, .bsl b j m => Nat.beq a b && Nat.beq i j && Nat.beq n m
 | .ptr a i, .ptr b j => Nat.beq a b && Nat.beq i j
 | .fn f c, .fn g d => Nat.beq f g && zT2 c d
 | .map a, .map b => Nat.beq a b
 | _, _ => false
def zA3 : (l : List CS) → List zG → Option (SL l)
 | [], [] => some ()
 | .int k :: l, .int j n :: vs => bif zBm j k then (match zA3 l vs with | some d => some (n, d) | none => none) else none
 | .bool :: l, .bool b :: vs => match zA3 l vs with | some d => some (b, d) | none => none
 | .dat sh t :: l, .fsl sh' s xs :: vs => bif sh' || !sh then (match zAe s t xs, zA3 l vs with
  | some xs, some d => some (xs, d)
  | _, _ => none) else none
 | .dat _ _ :: l, .nsl :: vs => match zA3 l vs with | some d => some ([], d) | none => none
 | .lit c :: l, v :: vs => bif qDh c v then zA3 l vs else none
 | _, _ => none
def qOo (v : VS) (a : zD) : Option (SL v.cells) := match v, a with
 | .c x, .c y => zA3 [x] [y]
 | .agg l, .agg vs => zA3 l vs
 | _, _ => none
def zVi (o : OS) (x : Obj) : Option o.den := match o, x with
 | .box own l, .box own' cells => bif own == own' then zA3 l cells else none
 | .robox l, .robox cells => zA3 l cells
 | .arr own t, .arr own' s xs => bif own == own' then zAe s t xs else none
 | .mat, .mat _ xs => some xs
 | .pmat, .pmat _ xs n => some (xs, n)
 | .imap, .imap kvs => some kvs
 | _, _ => none
def zDq : (l : List CS) → SL l → List zG
 | [], _ => []
 | .int k :: l, d => .int k d.1 :: zDq l d.2
 | .bool :: l, d => .bool d.1 :: zDq l d.2
 | .dat sh t :: l, d => .fsl sh t d.1 :: zDq l d.2
 | .lit c :: l, d => c :: zDq l d
def qIo (v : VS) (d : SL v.cells) : zD := match v, d with
 | .c x, d => match zDq [x] d with | c :: _ => .c c | [] => .undef
 | .agg l, d => .agg (zDq l d)
def zWe (o : OS) (d : o.den) : Obj := match o, d with
 | .box own l, d => .box own (zDq l d)
 | .robox l, d => .robox (zDq l d)
 | .arr own t, xs => .arr own t xs
 | .mat, xs => .mat 0 xs
 | .pmat, d => .pmat 0 d.1 d.2
 | .imap, kvs => .imap kvs
def zJq : (l : List (Nat × VS)) → SV l → List (Nat × zD)
 | [], _ => []
 | s :: l, d => (s.1, qIo s.2 d.1) :: zJq l d.2
def zDz : (l : List OS) → OL l → List Obj
 | [], _ => []
 | o :: l, d => zWe o d.1 :: zDz l d.2
def zU (base : Nat) (S : zM) (d : S.den) : St :=
  { t := fun n => match (zJq S.slots d.1).lookup n with | some v => v | none => .undef,
    h := fun n => bif Nat.ble base n then (zDz S.objs d.2)[n - base]? else none }
inductive Ex where
 | normal | ret | exit (id : Nat)
def qAy : Ex → Ex → Bool
 | .normal, .normal | .ret, .ret => true
 | .exit a, .exit b => Nat.beq a b
 | _, _ => false
abbrev zCo : List (Ex × zM) → Type
 | [] => Empty
 | [p] => p.2.den
 | p :: q :: l => p.2.den ⊕ zCo (q :: l)
abbrev InD : List zM → Type
 | [] => Empty
 | [S] => S.den
 | S :: T :: l => S.den ⊕ InD (T :: l)
structure qG where
 ins : List zM
 outs : List (Ex × zM)
 X : Type
 sum : Nat → InD ins → Option X
 elim : Nat → X → (R : Type) → (Ex → St → Option R) → Option R
structure zZ where
 mats : List Nat
 loops : List (Nat × qG)
 unr : List (Nat × Nat)
 wise : Bool
structure qA where
 P : Program
 eqT : TypeId → Bool
 sums : zSv
def zD9 (pre : Nat) : Option Nat → Nat
 | some d => pre + 100 * (d + 1)
 | none => pre
def zGa : zD → Option Nat
 | .c (.ptr id 0) => some id
 | _ => none
def qKl (P : Program) (mat : Bool) (nm : Nat) (h : Hp) (b : Builtin) (ts : Array TypeId) (l : List zD) : yA := match b with
 | .len => match l with
  | [.c v] => match (ts[0]?).bind P.underlying with
   | some (.slice _) => match zKz h v with
    | some n => .one (.c (.int .i64 (n : Int)))
    | none => .stuck
   | _ => .stuck
  | _ => .stuck
 | .append => match l with
  | [b, x] => match ts.toList with
   | [t, u] => bif Nat.beq t u then zK4 P mat nm h t b x else .stuck
   | _ => .stuck
  | _ => .stuck
 | .copy => match l with
  | [d, s] => match (ts[0]?).bind P.underlying with
   | some (.slice e) => bif Nat.beq (P.cellsOf e) 1 then zKq h d s else .stuck
   | _ => .stuck
  | _ => .stuck
 | .clear => match l with
  | [.c (.osl id (some (lo, n)))] => match ts[0]? with
   | some t => zY8 P h t id lo n
   | none => .stuck
  | _ => .stuck
 | .max => zXa false l
 | .min => zXa true l
 | _ => .stuck
def opS (E : qA) (A : zZ) (k pre : Nat) (o : Oper) (ev : Operand → zD) (h : Hp) : yA :=
 let nm := zD9 pre o.dst
 let mat := match o.dst with | some d => A.mats.any (Nat.beq d) | none => false
 match o.op with
 | .move x | .assign x => .one (ev x)
 | .pick c a b => match ev c with
  | .c (.bool c) => match ev a, ev b with
   | .c (.bool a), .c (.bool b) => .one (.c (.bool (bif c then a else b)))
   | va, vb => .alts [(c, va, []), (true, vb, [])]
  | _ => .stuck
 | .alloc t => match h nm, zeroCells E.P t with
  | none, some zs => .alts [(true, .c (.ptr nm 0), [(nm, .box true zs)])]
  | _, _ => .stuck
 | .box t x => match h nm, zCu (ev x) with
  | none, some vs => .alts [(true, .c (.ptr nm 0), [(nm, .box (!mat) vs)])]
  | _, _ => .stuck
 | .build t parts => qC5 E.P t (parts.toList.map fun p => (p.1, ev p.2))
 | .buildSlice t n parts => zNm E.P mat nm h t n (parts.toList.map fun p => (p.1, ev p.2))
 | .load t a => zLn E.P h t (ev a)
 | .store t a v => zNl E.P h t (ev a) (ev v)
 | .nilCheck x => match ev x with
  | .c (.ptr a b) => .one (.c (.ptr a b))
  | .c (.eptr a b c) => .one (.c (.eptr a b c))
  | .c (.fptr s t x off) => .one (.c (.fptr s t x off))
  | .c (.fn f c) => .one (.c (.fn f c))
  | _ => .stuck
 | .binOp op t x y _ =>
  bif yIh y && qRr op then (match E.P.underlying t, ev x with
   | some d, .c v => match qAe d y v with
    | some b => .one (.c (.bool (zQk op b)))
    | none => .stuck
   | _, _ => .stuck)
  else qF6 E.P E.eqT op t x y (ev x) (ev y)
 | .unOp op _ x => unS op (ev x)
 | .convert s d x => match E.P.underlying s, E.P.underlying d, ev x with
  | some (.int _), some (.int k), .c (.int _ n) => .one (.c (.int k (k.wrap n)))
  | some (.slice e), some .string, .c c => match E.P.underlying e, zMb h c with
   | some (.int .u8), some xs => .one (.c (.str xs))
   | _, _ => .stuck
  | _, _, _ => .stuck
 | .makeFunc (.func f) first captured => bif Nat.beq first.size 0 then (match captured.toList.mapM (fun x => zGa (ev x)) with
   | some ids => .one (.c (.fn f ids))
   | none => .stuck) else .stuck
 | .makeSlice t l c => zM8 E.P mat nm h t (ev l) (ev c)
 | .makeMap t none => zJa E.P nm h t
 | .lookup t x i false => zNc E.P h t (ev x) (ev i)
 | .mapUpdate t x i y => zJ7 E.P h t (ev x) (ev i) (ev y)
 | .slice t x lo hi mx => zMx E.P h t (ev x) (lo.map ev) (hi.map ev) (mx.map ev)
 | .fieldAddr t x f => qIj E.P t (ev x) f
 | .field t x f => qMp E.P t (ev x) f
 | .indexAddr t x i => zNi E.P h t (ev x) (ev i)
 | .index t x i => qA7 E.P t (ev x) (ev i)
 | .extract t i => match ev t with
  | .tup xs => match xs[i]? with
   | some (g, vs) => .ofO (zEo (some g) vs)
   | none => .stuck
  | _ => .stuck
 | .call c => match c.callee with
  | .builtin b => qKl E.P mat nm h b c.argTypes (c.args.toList.map ev)
  | .value f => match ev f with
   | .c (.fn f cap) => E.sums k nm f (c.args.toList.map ev ++ cap.map fun id => .c (.ptr id 0)) h
   | _ => .stuck
  | _ => .stuck
 | _ => .stuck
structure zF1 where
 i : Nat
 nm : Nat
 upd : List Nat
 refs : Option (List Nat)
def yU : zG → List Nat
 | .osl id _ | .bsl id _ _ | .ptr id _ | .eptr id _ _ | .mrow id _ _ | .mptr id _ | .meptr id _ _ _ | .map id => [id]
 | .fn _ cap => cap
 | _ => []
def yK : zD → List Nat
 | .c v => yU v
 | .agg vs => vs.flatMap yU
 | .tup xs => xs.flatMap fun x => x.2.flatMap yU
 | _ => []
def yQ : zD → Bool
 | .c (.ptr _ _) | .c (.map _) | .c (.eptr _ _ _) | .c (.mptr _ _) | .c (.meptr _ _ _ _) | .c (.bsl _ _ _) => true
 | .c (.fn _ cap) => !cap.isEmpty
 | _ => false
def qDr : Op → Bool
 | .call { callee := .value _, .. } => true
 | _ => false
def qU3 : Op → Bool
 | .move _ | .assign _ | .nilCheck _ | .fieldAddr _ _ _ | .field _ _ _ | .extract _ _ => true
 | _ => false
def zD3 (ev : Operand → zD) (o : Oper) : Option (List Nat) := bif qU3 o.op then some [] else
 let vals := o.op.operands.toList.map ev
 bif qDr o.op && vals.any yQ then none else some (vals.flatMap yK)
def zTe (a : List Nat) : Option (List Nat) → Bool
 | none => !a.isEmpty
 | some b => a.any fun x => b.any (Nat.beq x)
def zCj (nm a : Nat) : Bool := Nat.ble nm a && Nat.blt a (nm + 100)
def zFo (x y : zF1) : Bool := zTe x.upd y.refs || zTe y.upd x.refs || x.upd.any (zCj y.nm) || y.upd.any (zCj x.nm) || x.upd.any fun a => y.upd.any (Nat.beq a)
def zB9 (b : Array Nat) (i j : Nat) : Bool := (b.getD j 0).testBit i
def zFb (ops : Array Oper) (i j : Nat) : Bool := match ops[i]?, ops[j]? with
 | some x, some y => x.apart ops y
 | _, _ => false
def zOt (ops : Array Oper) : Bool := ops.toList.zipIdx.all fun p => p.1.after.toList.all fun e => !Region.binds .any e || Nat.blt e.on p.2
def zE9 (na nt : Nat) : Option Nat → Bool
 | some d => Nat.ble na d && Nat.blt d nt
 | none => true
def wO (u : zX) : List Nat := u.map (·.1)
section
variable (E : qA) (A : zZ) (k pre na nt : Nat) {R : Type}
def zWn (o : Oper) (st : St) (K : zD → zX → St → Option R) : Option R :=
 bif zE9 na nt o.dst then
  (opS E A k pre o st.ev st.h).elim fun v u => K v u { t := zAw st.t o.dst v, h := qE st.h u }
 else none
def zW8 (ops : Array Oper) (j : Nat) : Option Nat := (ops[j]?).bind (·.dst)
def zTd (ops : Array Oper) (o : Oper) (st : St) (yes no : St → Option R) : Option R := match o.guard with
 | none => yes st
 | some (j, want) => match zW8 ops j with
  | none => none
  | some s => match st.t s with
   | .c (.bool b) => bif b then (let st := { st with t := wL st.t s (.c (.bool true)) }; bif want then yes st else no st)
     else (let st := { st with t := wL st.t s (.c (.bool false)) }; bif want then no st else yes st)
   | .skp => no st
   | _ => none
def zOs (ops : Array Oper) : List (Nat × Oper) → St → (St → Option R) → Option R
 | [], st, K => K st
 | (_, o) :: rest, st, K => zTd ops o st
   (fun st => zWn E A k pre na nt o st fun _ _ st => zOs ops rest st K)
   (fun st => bif zE9 na nt o.dst then zOs ops rest { st with t := zAw st.t o.dst .skp } K else none)
def zLq (ops : Array Oper) (b : Array Nat) : List (Nat × Oper) → List zF1 → St → (St → Option R) → Option R
 | [], _, st, K => K st
 | (i, o) :: rest, done, st, K =>
  bif done.all fun d => zB9 b d.i i || zFb ops d.i i then zTd ops o st
   (fun st => let r := zD3 st.ev o; zWn E A k pre na nt o st fun _ u st =>
    let x : zF1 := ⟨i, zD9 pre o.dst, wO u, r⟩
    bif done.all fun d => zB9 b d.i i || !zFo d x then zLq ops b rest (x :: done) st K else none)
   (fun st => bif zE9 na nt o.dst then zLq ops b rest (⟨i, zD9 pre o.dst, [], some []⟩ :: done) { st with t := zAw st.t o.dst .skp } K else none)
  else none
def yZ2 : Option Obj → List Nat
 | some (.box _ cells) => cells.flatMap yU
 | some (.robox cells) => cells.flatMap yU
 | _ => []
def zL5 (h : Hp) : Nat → List Nat → List Nat → List Nat
 | 0, _, seen => seen
 | _, [], seen => seen
 | n + 1, id :: todo, seen => bif seen.any (Nat.beq id) then zL5 h n todo seen else zL5 h n (yZ2 (h id) ++ todo) (seen ++ [id])
def wY (id : Nat) : List Nat → Nat → Option Nat
 | [], _ => none
 | a :: l, i => bif Nat.beq a id then some i else wY id l (i + 1)
def zGe (h : Hp) (ρ : Nat → Option Nat) : zG → zG
 | .osl id r => match ρ id with | some i => .osl i r | none => .undef
 | .bsl id a b => match ρ id with | some i => .bsl i a b | none => .undef
 | .ptr id a => match ρ id with | some i => .ptr i a | none => .undef
 | .eptr id a b => match ρ id with | some i => .eptr i a b | none => .undef
 | .mrow id a ver => match ρ id, h id with
  | some i, some (.mat v _) => bif Nat.beq v ver then .mrow i a 0 else .undef
  | _, _ => .undef
 | .mptr id a => match ρ id with | some i => .mptr i a | none => .undef
 | .meptr id a b ver => match ρ id, h id with
  | some i, some (.mat v _) => bif Nat.beq v ver then .meptr i a b 0 else .undef
  | _, _ => .undef
 | .map id => match ρ id with | some i => .map i | none => .undef
 | .fn f cap => match cap.mapM ρ with | some c => .fn f c | none => .undef
 | v => v
def yIs (h : Hp) (ρ : Nat → Option Nat) : zD → zD
 | .c v => .c (zGe h ρ v)
 | .agg vs => .agg (vs.map (zGe h ρ))
 | .tup xs => .tup (xs.map fun x => (x.1, x.2.map (zGe h ρ)))
 | v => v
def zG9 (h : Hp) (ρ : Nat → Option Nat) : Obj → Obj
 | .box own cells => .box own (cells.map (zGe h ρ))
 | .robox cells => .robox (cells.map (zGe h ρ))
 | .mat _ xs => .mat 0 xs
 | .pmat _ xs n => .pmat 0 xs n
 | o => o
def zAc : Nat := 1000000
def zZ3 (st : St) (s : Nat) : Option Nat → St
 | none => match st.t s with
  | .c c => match zC1 st.h c with
   | some (c', u) => { t := wL st.t s (.c c'), h := qE st.h u }
   | none => st
  | _ => st
 | some j => match st.t s with
  | .c (.ptr id 0) => match st.h id with
   | some (.box true cells) => match cells[j]? with
    | some c => match zC1 st.h c with
     | some (c', u) => { st with h := yC (qE st.h u) id (.box true (cells.set j c')) }
     | none => st
    | none => st
   | _ => st
  | .agg cells => match cells[j]? with
   | some c => match zC1 st.h c with
    | some (c', u) => { t := wL st.t s (.agg (cells.set j c')), h := qE st.h u }
    | none => st
   | none => st
  | _ => st
def yKj : Ty → Bool
 | .bool => true
 | _ => false
def qL8 (st : St) (nm : Nat) (g : Nat × Option Nat × Ty × Bool) : St := bif g.2.2.2 && yKj g.2.2.1 then zZ3 st g.1 g.2.1 else match g.2.1 with
 | none => match st.t g.1 with
  | .c .nsl => { t := wL st.t g.1 (.c (.osl nm none)), h := yC st.h nm (bif g.2.2.2 then .mat 0 [] else .arr true g.2.2.1 []) }
  | _ => st
 | some j => match st.t g.1 with
  | .c (.ptr id 0) => match st.h id with
   | some (.box true cells) => match cells[j]? with
    | some .nsl => { st with h := yC (yC st.h nm (bif g.2.2.2 then .mat 0 [] else .arr true g.2.2.1 [])) id (.box true (cells.set j (.osl nm none))) }
    | _ => st
   | _ => st
  | _ => st
def zSs (st : St) : Nat → List (Nat × Option Nat × Ty × Bool) → Option St
 | _, [] => some st
 | nm, g :: l => match st.h nm with
  | none => zSs (qL8 st nm g) (nm + 1) l
  | some _ => none
def zIh (base : Nat) (h : Hp) (ids : List Nat) : Hp := fun n => bif Nat.ble base n then (match ids[n - base]? with
 | some id => (h id).map (zG9 h fun i => (wY i ids 0).map (base + ·))
 | none => none) else none
def zTc (f : zD → zD) (t : Nat → zD) : (l : List (Nat × VS)) → Option (SV l)
 | [] => some ()
 | s :: l => match qOo s.2 (f (t s.1)), zTc f t l with
  | some d, some ds => some (d, ds)
  | _, _ => none
def zVu (f : Obj → Obj) (h : Hp) : (l : List OS) → List Nat → Option (OL l)
 | [], [] => some ()
 | o :: l, id :: ids => match (h id).bind fun x => zVi o (f x), zVu f h l ids with
  | some d, some ds => some (d, ds)
  | _, _ => none
 | _, _ => none
def qIu (g0 base n : Nat) (S : zM) (st : St) : Option S.den := match zSs st g0 S.grow with
 | none => none
 | some st =>
  let ids := zL5 st.h n (S.slots.flatMap fun s => yK (st.t s.1)) []
  match zTc (yIs st.h fun i => (wY i ids 0).map (base + ·)) st.t S.slots, zVu (zG9 st.h fun i => (wY i ids 0).map (base + ·)) st.h S.objs ids with
  | some a, some b => some (a, b)
  | _, _ => none
def zRl (S : zM) (st : St) : Option S.den := qIu (pre + 500000) (pre + zAc) 400 S st
def zMs : (l : List zM) → St → Option (InD l)
 | [], _ => none
 | [S], st => zRl pre S st
 | S :: T :: l, st => match zRl pre S st with
  | some d => some (.inl d)
  | none => match zMs (T :: l) st with
   | some d => some (.inr d)
   | none => none
def zVn (base : Nat) : (l : List zM) → InD l → (St → Option R) → Option R
 | [], _, _ => none
 | [S], d, K => K (zU base S d)
 | S :: T :: l, d, K => match d with
  | .inl d => K (zU base S d)
  | .inr d => zVn base (T :: l) d K
def zPx : (l : List (Ex × zM)) → Ex → St → Option (zCo l)
 | [], _, _ => none
 | [p], e, st => bif qAy p.1 e then zRl pre p.2 st else none
 | p :: q :: l, e, st => match (bif qAy p.1 e then zRl pre p.2 st else none) with
  | some d => some (.inl d)
  | none => match zPx (q :: l) e st with
   | some d => some (.inr d)
   | none => none
def zLh (base : Nat) : (l : List (Ex × zM)) → zCo l → (Ex → St → Option R) → Option R
 | [], _, _ => none
 | [p], d, K => K p.1 (zU base p.2 d)
 | p :: q :: l, d, K => match d with
  | .inl d => K p.1 (zU base p.2 d)
  | .inr d => zLh base (q :: l) d K
def yCa (ins : List zM) (outs : List (Ex × zM)) {X : Type} (toX : zCo outs → X) (again : InD ins → Option X) : Ex → St → Option X
 | .normal, st => match zMs pre ins st with
  | some d => again d
  | none => none
 | e, st => match zPx pre outs e st with
  | some o => some (toX o)
  | none => none
def zHn : Code → Option Nat
 | .region id _ _ => some id
 | .seq a b => match zHn a with | some i => some i | none => zHn b
 | .cond _ a b => match zHn a with | some i => some i | none => zHn b
 | .block _ b | .loop b | .scope b => zHn b
 | _ => none
def zG0 (b : Code) : Option qG := match zHn b with
 | some i => A.loops.lookup i
 | none => none
def yOx (b : Code) : Nat := match zHn b with
 | some i => (A.unr.lookup i).getD 0
 | none => 0
def qHi (b : St → (Ex → St → Option R) → Option R) : Nat → St → (Ex → St → Option R) → Option R
 | 0, _, _ => none
 | n + 1, st, K => b st fun e st => match e with
  | .normal => qHi b n st K
  | e => K e st
def zW9 (c : Operand) (b : Bool) (st : St) : St := match A.wise, c with
 | true, .tmp s => { st with t := wL st.t s (.c (.bool b)) }
 | _, _ => st
def evC : Code → St → (Ex → St → Option R) → Option R
 | .skip, st, K => K .normal st
 | .region _ ops draw, st, K => bif draw
   then bif !zOt ops then none else zLq E A k pre na nt ops (Region.before ops) (ops.toList.zipIdx.map fun p => (p.2, p.1)) [] st (K .normal)
   else zOs E A k pre na nt ops (ops.toList.zipIdx.map fun p => (p.2, p.1)) st (K .normal)
 | .seq a b, st, K => evC a st fun e st => match e with
  | .normal => evC b st K
  | e => K e st
 | .cond c a b, st, K => match st.ev c with
  | .c (.bool t) => bif t then evC a (zW9 A c true st) K else evC b (zW9 A c false st) K
  | _ => none
 | .block id b, st, K => evC b st fun e st => match e with
  | .exit i => bif Nat.beq i id then K .normal st else K (.exit i) st
  | e => K e st
 | .loop b, st, K => match zG0 A b with
  | none => qHi (evC b) (yOx A b) st K
  | some L => match zMs pre L.ins st with
   | none => none
   | some d => (L.sum k d).bind fun x => L.elim (pre + zAc) x R K
 | .exit id, st, K => K (.exit id) st
 | .ret, st, K => K .ret st
 | _, _, _ => none
def zHa (st : St) : ResultVar → Option zD
 | .tmp t => some (st.t t)
 | .cell a t => match st.t a with
  | .c (.ptr id off) => match st.h id with
   | some (.box _ cells) => match zB3 cells off (E.P.cellsOf t) with
    | some vs => zEo (zAn E.P t) vs
    | none => none
   | _ => none
  | _ => none
def zKo : zD → Option (Bool × List zG)
 | .c v => some (false, [v])
 | .agg vs => some (true, vs)
 | _ => none
def zSq (fn : Func) (st : St) : Option zD := match fn.results.toList with
 | [] => some (.tup [])
 | [r] => zHa E st r
 | rs => match rs.mapM (fun r => (zHa E st r).bind zKo) with
  | some xs => some (.tup xs)
  | none => none
def zY1 (args : List zD) : Nat → zD := fun n => args.getD n .skp
def evF (fn : Func) (args : List zD) (h : Hp) (K : zD → St → Option R) : Option R := match fn.body with
 | none => none
 | some code => bif Nat.ble args.length fn.ntmps then evC E A k pre na fn.ntmps code { t := zY1 args, h := h } fun e st => match e with
  | .exit _ => none
  | _ => match zSq E fn st with
   | some v => K v st
   | none => none
  else none
end
def _root_.Go.Value.one1 : Value → Bool
 | .agg _ | .tuple _ => false
 | _ => true
def qW (H : Array Go.Obj) (B o : Nat) : Option Value := match H[B]? with
 | some (.cells c _ _) => c[o]?
 | _ => none
def qR (H : Array Go.Obj) (B : Nat) : Nat := match H[B]? with
 | some (.cells c _ _) => c.size
 | _ => 0
theorem zFt (w : World) (B o : Nat) : w.cell? ⟨B, o, none⟩ = qW w.heap B o := by
 simp only [World.cell?, qW]
 cases w.heap[B]? with
 | none => rfl
 | some x => cases x <;> rfl
theorem qGs {H H' : Array Go.Obj} {B : Nat} (h : H'[B]? = H[B]?) (o : Nat) : qW H' B o = qW H B o := by unfold qW; rw [h]
theorem zK5 {H H' : Array Go.Obj} {B : Nat} (h : H'[B]? = H[B]?) : qR H' B = qR H B := by unfold qR; rw [h]
def zW (H : Array Go.Obj) (F : Nat → Prop) : (t : Ty) → t.den → (Nat → Option Value) → Prop
 | .int k, n, rd => rd 0 = some (.int k n)
 | .bool, b, rd => rd 0 = some (.bool b)
 | .sl t, xs, rd => ∃ A n c, rd 0 = some (.slice A n c) ∧ n = xs.length ∧ n ≤ c ∧
   ((xs = [] ∧ (A = none → c = 0)) ∨ ∃ B o, A = some ⟨B, o, none⟩ ∧ F B ∧ ∀ i (h : i < xs.length), zW H F t xs[i] (fun j => qW H B (o + i * t.size + j)))
 | .pair a b, p, rd => zW H F a p.1 rd ∧ zW H F b p.2 (fun j => rd (j + a.size))
theorem yL {H H' : Array Go.Obj} {F F' : Nat → Prop} (hF : ∀ b, F b → F' b) (hs : ∀ b, F b → H'[b]? = H[b]?) :
  ∀ (t : Ty) (x : t.den) (rd rd' : Nat → Option Value), (∀ j, j < t.size → rd' j = rd j) → zW H F t x rd → zW H' F' t x rd'
 | .int k, n, rd, rd', hr, h => by simp only [zW] at h ⊢; rw [hr 0 (by simp [Ty.size])]; exact h
 | .bool, n, rd, rd', hr, h => by simp only [zW] at h ⊢; rw [hr 0 (by simp [Ty.size])]; exact h
 | .sl t, xs, rd, rd', hr, h => by
  simp only [zW] at h ⊢
  obtain ⟨A, n, c, h1, h2, h3, h4⟩ := h
  refine ⟨A, n, c, by rw [hr 0 (by simp [Ty.size])]; exact h1, h2, h3, ?_⟩
  rcases h4 with h4 | ⟨B, o, e, hB, h4⟩
  ·exact .inl h4
  ·exact .inr ⟨B, o, e, hF B hB, fun i hi => yL hF hs t _ _ _ (fun j _ => qGs (hs B hB) _) (h4 i hi)⟩
 | .pair a b, p, rd, rd', hr, h => by
  simp only [zW] at h ⊢
  exact ⟨yL hF hs a _ _ _ (fun j hj => hr j (by simp only [Ty.size]; omega)) h.1,
   yL hF hs b _ _ _ (fun j hj => hr _ (by simp only [Ty.size]; omega)) h.2⟩
theorem Ty.size_pos : ∀ t : Ty, 0 < t.size
 | .int _ | .bool | .sl _ => by simp [Ty.size]
 | .pair a b => by have := Ty.size_pos a; simp only [Ty.size]; omega
structure zR where
 blk : Option Nat
 len : Nat
 sz : Nat
 ver : Nat
 rows : List (Option Nat × Nat)
def zR.fp (C : zR) : List Nat := C.blk.toList ++ C.rows.filterMap (·.1)
structure zR.le (C C' : zR) : Prop where
 blk : C'.blk = C.blk
 len : C'.len = C.len
 sz : C'.sz = C.sz
 ver : C.ver ≤ C'.ver
 rows : C'.ver = C.ver → C'.rows = C.rows
theorem zR.le_refl (C : zR) : C.le C := ⟨rfl, rfl, rfl, Nat.le_refl _, fun _ => rfl⟩
theorem zR.le_trans {A B C : zR} (h : A.le B) (k : B.le C) : A.le C :=
 ⟨k.blk.trans h.blk, k.len.trans h.len, k.sz.trans h.sz, Nat.le_trans h.ver k.ver, fun e => by
  have := h.ver; have := k.ver
  rw [k.rows (by omega), h.rows (by omega)]⟩
structure zA where
 κ : Nat → Option zR
 F : Nat → Prop
 G : Nat → Prop
 h : Hp
 H : Array Go.Obj
def zO {α β : Type} (R : α → β → Prop) : List α → List β → Prop
 | [], [] => True
 | a :: l, b :: m => R a b ∧ zO R l m
 | _, _ => False
theorem zO.mono {α β : Type} {R S : α → β → Prop} (h : ∀ a b, R a b → S a b) : ∀ {l : List α} {m : List β}, zO R l m → zO S l m
 | [], [], _ => trivial
 | _ :: _, _ :: _, hh => ⟨h _ _ hh.1, zO.mono h hh.2⟩
 | [], _ :: _, hh => hh.elim
 | _ :: _, [], hh => hh.elim
theorem zO.length {α β : Type} {R : α → β → Prop} : ∀ {l : List α} {m : List β}, zO R l m → l.length = m.length
 | [], [], _ => rfl
 | _ :: _, _ :: _, hh => by simp [zO.length hh.2]
 | [], _ :: _, hh => hh.elim
 | _ :: _, [], hh => hh.elim
theorem zO.get {α β : Type} {R : α → β → Prop} : ∀ {l : List α} {m : List β}, zO R l m → ∀ (i : Nat) (h : i < l.length) (h' : i < m.length), R l[i] m[i]
 | _ :: _, _ :: _, hh, 0, _, _ => hh.1
 | _ :: _, _ :: _, hh, i + 1, h, h' => zO.get hh.2 i (by simpa using h) (by simpa using h')
 | [], [], _, _, h, _ => by simp at h
 | [], _ :: _, hh, _, _, _ => hh.elim
 | _ :: _, [], hh, _, _, _ => hh.elim
theorem zO.of_get {α β : Type} {R : α → β → Prop} : ∀ {l : List α} {m : List β}, l.length = m.length → (∀ (i : Nat) (h : i < l.length) (h' : i < m.length), R l[i] m[i]) → zO R l m
 | [], [], _, _ => trivial
 | a :: l, b :: m, hl, h => ⟨h 0 (by simp) (by simp), zO.of_get (by simpa using hl) fun i h1 h2 => h (i + 1) (by simpa using h1) (by simpa using h2)⟩
 | [], _ :: _, hl, _ => by simp at hl
 | _ :: _, [], hl, _ => by simp at hl
theorem zO.append {α β : Type} {R : α → β → Prop} : ∀ {l l' : List α} {m m' : List β}, zO R l m → zO R l' m' → zO R (l ++ l') (m ++ m')
 | [], _, [], _, _, k => k
 | _ :: _, _, _ :: _, _, h, k => ⟨h.1, zO.append h.2 k⟩
 | [], _, _ :: _, _, hh, _ => hh.elim
 | _ :: _, _, [], _, hh, _ => hh.elim
theorem zO.drop {α β : Type} {R : α → β → Prop} : ∀ (n : Nat) {l : List α} {m : List β}, zO R l m → zO R (l.drop n) (m.drop n)
 | 0, _, _, h => h
 | n + 1, [], [], _ => trivial
 | n + 1, _ :: _, _ :: _, h => zO.drop n h.2
 | n + 1, [], _ :: _, hh => hh.elim
 | n + 1, _ :: _, [], hh => hh.elim
theorem zO.take {α β : Type} {R : α → β → Prop} : ∀ (n : Nat) {l : List α} {m : List β}, zO R l m → zO R (l.take n) (m.take n)
 | 0, _, _, _ => by simp [zO]
 | n + 1, [], [], _ => trivial
 | n + 1, _ :: _, _ :: _, h => ⟨h.1, zO.take n h.2⟩
 | n + 1, [], _ :: _, hh => hh.elim
 | n + 1, _ :: _, [], hh => hh.elim
theorem zO.set {α β : Type} {R : α → β → Prop} {a : α} {b : β} (hab : R a b) : ∀ (n : Nat) {l : List α} {m : List β}, zO R l m → zO R (l.set n a) (m.set n b)
 | _, [], [], _ => trivial
 | 0, _ :: _, _ :: _, h => ⟨hab, h.2⟩
 | n + 1, _ :: _, _ :: _, h => ⟨h.1, zO.set hab n h.2⟩
 | _, [], _ :: _, hh => hh.elim
 | _, _ :: _, [], hh => hh.elim
def vV (H : Array Go.Obj) (C : zR) (lo n : Nat) (v : Value) : Prop := ∃ A c, v = .slice A n c ∧ match C.blk with
 | none => A = none ∧ n = 0 ∧ c = 0
 | some B => n ≤ c ∧ ∃ a, A = some ⟨B, a, none⟩ ∧ (c = 0 ∨ a = lo * C.sz) ∧ (lo + c) * C.sz ≤ qR H B
def zB0 (H : Array Go.Obj) (rb : Option Nat) (n : Nat) (v : Value) : Prop := match rb with
 | none => v = .slice none 0 0 ∧ n = 0
 | some B => ∃ a c, v = .slice (some ⟨B, a, none⟩) n c ∧ n ≤ c ∧ (c = 0 ∨ a = 0) ∧ c ≤ qR H B
def qI4 (C : zR) (lo : Nat) (v : Value) : Prop := ∃ A n c, v = .slice A n c ∧ C.len ≤ lo + c
def zV (M : zA) : zG → Value → Prop
 | .undef, v => v.one1 = true
 | .int k n, v => v = .int k n
 | .bool b, v => v = .bool b
 | .fsl sh t xs, v => zW M.H (bif sh then M.G else M.F) (.sl t) xs (fun _ => some v)
 | .nsl, v => v = .slice none 0 0
 | .nfl sh t xs, v => (∃ a n c, v = .slice (some a) n c) ∧ zW M.H (bif sh then M.G else M.F) (.sl t) xs (fun _ => some v)
 | .osl id r, v => ∃ C, M.κ id = some C ∧ match r with
  | none => vV M.H C 0 C.len v
  | some (lo, n) => lo + n ≤ C.len ∧ vV M.H C lo n v ∧ qI4 C lo v
 | .bsl id off n, v => ∃ C B, M.κ id = some C ∧ C.blk = some B ∧ v = .slice (some ⟨B, off, none⟩) n n
 | .ptr id off, v => ∃ C B, M.κ id = some C ∧ C.blk = some B ∧ v = .pointer (some ⟨B, off, none⟩)
 | .eptr id i off, v => ∃ C B, M.κ id = some C ∧ C.blk = some B ∧ i < C.len ∧ v = .pointer (some ⟨B, i * C.sz + off, none⟩)
 | .fptr sh t x off, v => ∃ B o, v = .pointer (some ⟨B, o + off, none⟩) ∧ (bif sh then M.G else M.F) B ∧ zW M.H (bif sh then M.G else M.F) t x (fun j => qW M.H B (o + j))
 | .mrow id i ver, v => ∃ C, M.κ id = some C ∧ v.one1 = true ∧ ver ≤ C.ver ∧ (C.ver = ver → ∃ rb rl, C.rows[i]? = some (rb, rl) ∧ zB0 M.H rb rl v)
 | .mptr id i, v => ∃ C B, M.κ id = some C ∧ C.blk = some B ∧ i < C.len ∧ v = .pointer (some ⟨B, i, none⟩)
 | .meptr id i j ver, v => ∃ C, M.κ id = some C ∧ v.one1 = true ∧ ver ≤ C.ver ∧ (C.ver = ver → ∃ B rl, C.rows[i]? = some (some B, rl) ∧ j < rl ∧ v = .pointer (some ⟨B, j, none⟩))
 | .nilp, v => v = .pointer none
 | .nilf, v => v = .nilFunc
 | .nilm, v => v = .map none
 | .fn f cap, v => ∃ cv, v = .func (.func f) #[] cv ∧ zO (fun id u => ∃ C B, M.κ id = some C ∧ C.blk = some B ∧ u = .pointer (some ⟨B, 0, none⟩)) cap cv.toList
 | .map id, v => ∃ C B, M.κ id = some C ∧ C.blk = some B ∧ v = .map (some B)
 | .str xs, v => v = .string ⟨(zB2 xs).toArray⟩
theorem vV.one {H : Array Go.Obj} {C : zR} {lo n : Nat} {v : Value} (h : vV H C lo n v) : v.one1 = true := by
 obtain ⟨A, c, rfl, _⟩ := h; rfl
theorem zV.one {M : zA} {c : zG} {v : Value} (h : zV M c v) : v.one1 = true := by
 cases c with
 | undef => exact h
 | fsl sh t xs => obtain ⟨A, n, c, e, _⟩ := h; simp at e; rw [e]; rfl
 | nfl sh t xs => obtain ⟨⟨a, n, c, e⟩, _⟩ := h; rw [e]; rfl
 | osl id r =>
  obtain ⟨C, _, h⟩ := h
  cases r with
  | none => exact vV.one h
  | some p => exact vV.one h.2.1
 | bsl id off n => obtain ⟨C, B, _, _, rfl⟩ := h; rfl
 | ptr id off => obtain ⟨C, B, _, _, rfl⟩ := h; rfl
 | eptr id i off => obtain ⟨C, B, _, _, _, rfl⟩ := h; rfl
 | fptr sh t x off => obtain ⟨B, o, rfl, _⟩ := h; rfl
 | mrow id i ver => obtain ⟨C, _, h, _⟩ := h; exact h
 | mptr id i => obtain ⟨C, B, _, _, _, rfl⟩ := h; rfl
 | meptr id i j ver => obtain ⟨C, _, h, _⟩ := h; exact h
 | fn f cap => obtain ⟨cv, rfl, _⟩ := h; rfl
 | map id => obtain ⟨C, B, _, _, rfl⟩ := h; rfl
 | _ => rw [show v = _ from h]; rfl
def zE0 (M : zA) (x : Bool × List zG) (v : Value) : Prop := match x with
 | (false, [c]) => zV M c v
 | (true, cs) => ∃ vs, v = .agg vs ∧ zO (zV M) cs vs.toList
 | _ => False
def zT (M : zA) : zD → Value → Prop
 | .undef, _ => True
 | .skp, v => v = undef
 | .c x, v => zV M x v
 | .agg cs, v => ∃ vs, v = .agg vs ∧ zO (zV M) cs vs.toList
 | .tup xs, v => ∃ vs, v = .tuple vs ∧ zO (zE0 M) xs vs.toList
def Obj.owned : Obj → Bool
 | .box o _ => o
 | .arr o _ _ => o
 | .robox _ => false
 | .mat _ _ => true
 | .pmat _ _ _ => true
 | .imap _ => true
 | .gone => false
def wT (n : Int) : List MapEntry → Option Value
 | [] => none
 | e :: es => match e.key with
  | .int .i64 m => if n = m then some e.val else wT n es
  | _ => wT n es
def yM (M : zA) (o : Obj) (C : zR) : Prop := match o with
 | .box own cells => ∃ B vals e, C.blk = some B ∧ C.rows = [] ∧ M.H[B]? = some (.cells vals e (0, 0)) ∧ zO (zV M) cells vals.toList ∧ (own = false → M.G B)
 | .robox cells => ∃ B vals e, C.blk = some B ∧ C.rows = [] ∧ M.H[B]? = some (.cells vals e (0, 0)) ∧ zO (zV M) cells vals.toList ∧ M.F B
 | .arr own t xs => C.len = xs.length ∧ C.sz = t.size ∧ (own = true → C.rows = []) ∧ (match C.blk with
  | none => xs = []
  | some B => ∃ vals e, M.H[B]? = some (.cells vals e (0, 0)) ∧ (own = false → M.G B) ∧ xs.length * t.size ≤ vals.size ∧
    ∀ i (h : i < xs.length), zW M.H M.G t xs[i] (fun j => vals[i * t.size + j]?))
 | .mat ver xs => C.ver = ver ∧ C.len = xs.length ∧ C.sz = 1 ∧ C.rows.length = xs.length ∧ C.fp.Nodup ∧ (match C.blk with
  | none => xs = []
  | some B => ∃ vals e, M.H[B]? = some (.cells vals e (0, 0)) ∧ xs.length ≤ vals.size ∧
    ∀ i (h : i < xs.length), ∃ rb v, C.rows[i]? = some (rb, xs[i].length) ∧ vals[i]? = some v ∧ zB0 M.H rb xs[i].length v ∧
     (∀ R, rb = some R → ∃ rv er, M.H[R]? = some (.cells rv er (0, 0)) ∧ ∀ j (h' : j < xs[i].length), rv[j]? = some (.int .i64 xs[i][j])))
 | .pmat ver xs n => C.ver = ver ∧ C.len = n ∧ C.sz = 1 ∧ C.rows.length = xs.length ∧ C.fp.Nodup ∧ xs.length ≤ n ∧ (match C.blk with
  | none => n = 0
  | some B => ∃ vals e, M.H[B]? = some (.cells vals e (0, 0)) ∧ n ≤ vals.size ∧
    ∀ i (h : i < xs.length), ∃ rb v, C.rows[i]? = some (rb, xs[i].length) ∧ vals[i]? = some v ∧ zB0 M.H rb xs[i].length v ∧
     (∀ R, rb = some R → ∃ rv er, M.H[R]? = some (.cells rv er (0, 0)) ∧ ∀ j (h' : j < xs[i].length), rv[j]? = some (.int .i64 xs[i][j])))
 | .imap kvs => ∃ B es ck, C.blk = some B ∧ C.rows = [] ∧ M.H[B]? = some (.map es ck) ∧ (∀ e ∈ es.toList, ∃ n b, e.key = .int .i64 n ∧ e.val = .bool b) ∧
   ∀ n, wT n es.toList = (kvs.lookup n).map .bool
 | .gone => True
def qN (M : zA) (b : Nat) : Prop := ∃ id o C, M.h id = some o ∧ o.owned = true ∧ M.κ id = some C ∧ b ∈ C.fp
structure Ok (M : zA) : Prop where
 obj : ∀ id o, M.h id = some o → ∃ C, M.κ id = some C ∧ yM M o C
 non : ∀ id, M.h id = none → M.κ id = none
 disj : ∀ i j oi oj Ci Cj b, i ≠ j → M.h i = some oi → M.h j = some oj → oi.owned = true → oj.owned = true → M.κ i = some Ci → M.κ j = some Cj → b ∈ Ci.fp → b ∈ Cj.fp → False
 own : ∀ b, qN M b → ¬ M.F b ∧ b < M.H.size
 GF : ∀ b, M.G b → M.F b
 Flt : ∀ b, M.F b → b < M.H.size
structure yG (M M' : zA) : Prop where
 κ : ∀ id C, M.κ id = some C → ∃ C', M'.κ id = some C' ∧ C.le C'
 F : ∀ b, M.F b → M'.F b
 G : ∀ b, M.G b → M'.G b
 same : ∀ b, M.F b → M'.H[b]? = M.H[b]?
 sameG : ∀ b, M.G b → M'.H[b]? = M.H[b]?
 bsz : ∀ b, b < M.H.size → qR M'.H b = qR M.H b
theorem yYi {H : Array Go.Obj} {b : Nat} (h : ¬ b < H.size) : qR H b = 0 := by
 unfold qR; rw [Array.getElem?_eq_none (by omega)]
theorem qPe {M M' : zA} (x : yG M M') (b : Nat) : qR M.H b ≤ qR M'.H b := by
 by_cases h : b < M.H.size
 ·rw [x.bsz b h]; exact Nat.le_refl _
 ·rw [yYi h]; omega
theorem vV.ext {M M' : zA} (x : yG M M') {C C' : zR} (le : C.le C') {lo n : Nat} {v : Value} (h : vV M.H C lo n v) : vV M'.H C' lo n v := by
 obtain ⟨A, c, rfl, h⟩ := h
 refine ⟨A, c, rfl, ?_⟩
 rw [le.blk]
 cases hb : C.blk with
 | none => rw [hb] at h; exact h
 | some B =>
  rw [hb] at h
  obtain ⟨h0, a, h1, h2, h3⟩ := h
  exact ⟨h0, a, h1, by rw [le.sz]; exact h2, by rw [le.sz]; exact Nat.le_trans h3 (qPe x B)⟩
theorem zB0.ext {M M' : zA} (x : yG M M') {rb : Option Nat} {n : Nat} {v : Value} (h : zB0 M.H rb n v) : zB0 M'.H rb n v := by
 cases rb with
 | none => exact h
 | some B =>
  obtain ⟨a, c, h1, h2, h3, h4⟩ := h
  exact ⟨a, c, h1, h2, h3, Nat.le_trans h4 (qPe x B)⟩
theorem zV.ext {M M' : zA} (x : yG M M') {c : zG} {v : Value} (h : zV M c v) : zV M' c v := by
 cases c with
 | fsl sh t xs =>
  cases sh with
  | true => exact yL x.G x.sameG _ _ _ _ (fun _ _ => rfl) h
  | false => exact yL x.F x.same _ _ _ _ (fun _ _ => rfl) h
 | nfl sh t xs =>
  cases sh with
  | true => exact ⟨h.1, yL x.G x.sameG _ _ _ _ (fun _ _ => rfl) h.2⟩
  | false => exact ⟨h.1, yL x.F x.same _ _ _ _ (fun _ _ => rfl) h.2⟩
 | osl id r =>
  obtain ⟨C, hC, h⟩ := h
  obtain ⟨C', hC', le⟩ := x.κ id C hC
  refine ⟨C', hC', ?_⟩
  cases r with
  | none => rw [le.len]; exact vV.ext x le h
  | some p => exact ⟨by rw [le.len]; exact h.1, vV.ext x le h.2.1, by unfold qI4; rw [le.len]; exact h.2.2⟩
 | bsl id off n =>
  obtain ⟨C, B, hC, hB, h⟩ := h
  obtain ⟨C', hC', le⟩ := x.κ id C hC
  exact ⟨C', B, hC', le.blk.trans hB, h⟩
 | ptr id off =>
  obtain ⟨C, B, hC, hB, h⟩ := h
  obtain ⟨C', hC', le⟩ := x.κ id C hC
  exact ⟨C', B, hC', le.blk.trans hB, h⟩
 | eptr id i off =>
  obtain ⟨C, B, hC, hB, hi, h⟩ := h
  obtain ⟨C', hC', le⟩ := x.κ id C hC
  exact ⟨C', B, hC', le.blk.trans hB, by rw [le.len]; exact hi, by rw [le.sz]; exact h⟩
 | fptr sh t y off =>
  obtain ⟨B, o, h1, h2, h3⟩ := h
  cases sh with
  | true => exact ⟨B, o, h1, x.G B h2, yL x.G x.sameG _ _ _ _ (fun j _ => qGs (x.sameG B h2) _) h3⟩
  | false => exact ⟨B, o, h1, x.F B h2, yL x.F x.same _ _ _ _ (fun j _ => qGs (x.same B h2) _) h3⟩
 | mrow id i ver =>
  obtain ⟨C, hC, h1, hle, h⟩ := h
  obtain ⟨C', hC', le⟩ := x.κ id C hC
  have := le.ver
  refine ⟨C', hC', h1, by omega, fun e => ?_⟩
  obtain ⟨rb, rl, h2, h3⟩ := h (by omega)
  exact ⟨rb, rl, by rw [le.rows (by omega)]; exact h2, zB0.ext x h3⟩
 | mptr id i =>
  obtain ⟨C, B, hC, hB, hi, h⟩ := h
  obtain ⟨C', hC', le⟩ := x.κ id C hC
  exact ⟨C', B, hC', le.blk.trans hB, by rw [le.len]; exact hi, h⟩
 | meptr id i j ver =>
  obtain ⟨C, hC, h1, hle, h⟩ := h
  obtain ⟨C', hC', le⟩ := x.κ id C hC
  have := le.ver
  refine ⟨C', hC', h1, by omega, fun e => ?_⟩
  obtain ⟨B, rl, h2, h3⟩ := h (by omega)
  exact ⟨B, rl, by rw [le.rows (by omega)]; exact h2, h3⟩
 | fn f cap =>
  obtain ⟨cv, h1, h2⟩ := h
  refine ⟨cv, h1, h2.mono fun id u ⟨C, B, hC, hB, hu⟩ => ?_⟩
  obtain ⟨C', hC', le⟩ := x.κ id C hC
  exact ⟨C', B, hC', le.blk.trans hB, hu⟩
 | map id =>
  obtain ⟨C, B, hC, hB, h⟩ := h
  obtain ⟨C', hC', le⟩ := x.κ id C hC
  exact ⟨C', B, hC', le.blk.trans hB, h⟩
 | _ => exact h
theorem zE0.ext {M M' : zA} (x : yG M M') {p : Bool × List zG} {v : Value} (h : zE0 M p v) : zE0 M' p v := by
 obtain ⟨b, cs⟩ := p
 cases b with
 | true =>
  obtain ⟨vs, h1, h2⟩ := h
  exact ⟨vs, h1, h2.mono fun _ _ hc => hc.ext x⟩
 | false =>
  cases cs with
  | nil => exact h
  | cons c cs => cases cs with
   | nil => exact zV.ext (c := c) x h
   | cons _ _ => exact h
theorem zT.ext {M M' : zA} (x : yG M M') {a : zD} {v : Value} (h : zT M a v) : zT M' a v := by
 cases a with
 | undef => trivial
 | skp => exact h
 | c c => exact zV.ext (c := c) x h
 | agg cs =>
  obtain ⟨vs, h1, h2⟩ := h
  exact ⟨vs, h1, h2.mono fun _ _ hc => hc.ext x⟩
 | tup xs =>
  obtain ⟨vs, h1, h2⟩ := h
  exact ⟨vs, h1, h2.mono fun _ _ hc => hc.ext x⟩
theorem yM.ext {M M' : zA} (x : yG M M') {o : Obj} {C : zR} (hb : o.owned = true → ∀ b ∈ C.fp, M'.H[b]? = M.H[b]?) (h : yM M o C) : yM M' o C := by
 cases o with
 | box own cells =>
  obtain ⟨B, vals, e, h1, h2, h3, h4, h5⟩ := h
  have hs : M'.H[B]? = M.H[B]? := by
   cases own with
   | true => exact hb rfl B (by simp [zR.fp, h1])
   | false => exact x.sameG B (h5 rfl)
  exact ⟨B, vals, e, h1, h2, by rw [hs]; exact h3, h4.mono fun _ _ hc => hc.ext x, fun h => x.G B (h5 h)⟩
 | robox cells =>
  obtain ⟨B, vals, e, h1, h2, h3, h4, h5⟩ := h
  exact ⟨B, vals, e, h1, h2, by rw [x.same B h5]; exact h3, h4.mono fun _ _ hc => hc.ext x, x.F B h5⟩
 | arr own t xs =>
  obtain ⟨h1, h2, h3, h4⟩ := h
  refine ⟨h1, h2, h3, ?_⟩
  cases hB : C.blk with
  | none => rw [hB] at h4; exact h4
  | some B =>
   rw [hB] at h4
   obtain ⟨vals, e, h5, h6, h7, h8⟩ := h4
   have hs : M'.H[B]? = M.H[B]? := by
    cases own with
    | true => exact hb rfl B (by simp [zR.fp, hB])
    | false => exact x.sameG B (h6 rfl)
   exact ⟨vals, e, by rw [hs]; exact h5, fun h => x.G B (h6 h), h7, fun i hi => yL x.G x.sameG _ _ _ _ (fun _ _ => rfl) (h8 i hi)⟩
 | mat ver xs =>
  obtain ⟨h1, h2, h3, h4, h5, h6⟩ := h
  refine ⟨h1, h2, h3, h4, h5, ?_⟩
  cases hB : C.blk with
  | none => rw [hB] at h6; exact h6
  | some B =>
   rw [hB] at h6
   obtain ⟨vals, e, h7, h8, h9⟩ := h6
   refine ⟨vals, e, by rw [hb rfl B (by simp [zR.fp, hB])]; exact h7, h8, fun i hi => ?_⟩
   obtain ⟨rb, v, k1, k2, k3, k4⟩ := h9 i hi
   refine ⟨rb, v, k1, k2, k3.ext x, fun R hR => ?_⟩
   obtain ⟨rv, er, k5, k6⟩ := k4 R hR
   refine ⟨rv, er, ?_, k6⟩
   rw [hb rfl R ?_]
   ·exact k5
   ·have : (rb, xs[i].length) ∈ C.rows := List.mem_of_getElem? k1
    simp only [zR.fp, List.mem_append, List.mem_filterMap]
    exact .inr ⟨_, this, hR⟩
 | pmat ver xs n =>
  obtain ⟨h1, h2, h3, h4, h5, h0, h6⟩ := h
  refine ⟨h1, h2, h3, h4, h5, h0, ?_⟩
  cases hB : C.blk with
  | none => rw [hB] at h6; exact h6
  | some B =>
   rw [hB] at h6
   obtain ⟨vals, e, h7, h8, h9⟩ := h6
   refine ⟨vals, e, by rw [hb rfl B (by simp [zR.fp, hB])]; exact h7, h8, fun i hi => ?_⟩
   obtain ⟨rb, v, k1, k2, k3, k4⟩ := h9 i hi
   refine ⟨rb, v, k1, k2, k3.ext x, fun R hR => ?_⟩
   obtain ⟨rv, er, k5, k6⟩ := k4 R hR
   refine ⟨rv, er, ?_, k6⟩
   rw [hb rfl R ?_]
   ·exact k5
   ·have : (rb, xs[i].length) ∈ C.rows := List.mem_of_getElem? k1
    simp only [zR.fp, List.mem_append, List.mem_filterMap]
    exact .inr ⟨_, this, hR⟩
 | imap kvs =>
  obtain ⟨B, es, ck, h1, h2, h3, h4, h5⟩ := h
  exact ⟨B, es, ck, h1, h2, by rw [hb rfl B (by simp [zR.fp, h1])]; exact h3, h4, h5⟩
 | gone => trivial
structure yO (M M' : zA) : Prop where
 ext : yG M M'
 size : M.H.size ≤ M'.H.size
 frame : ∀ b, b < M.H.size → ¬ qN M b → M'.H[b]? = M.H[b]?
 own : ∀ b, qN M' b → b < M.H.size → qN M b
 Gb : ∀ b, M'.G b → b < M.H.size → M.G b ∨ qN M b
 Fb : ∀ b, M'.F b → b < M.H.size → M.F b ∨ qN M b
theorem yG.refl (M : zA) : yG M M := ⟨fun _ C h => ⟨C, h, C.le_refl⟩, fun _ h => h, fun _ h => h, fun _ _ => rfl, fun _ _ => rfl, fun _ _ => rfl⟩
theorem yO.refl (M : zA) : yO M M := ⟨yG.refl M, Nat.le_refl _, fun _ _ _ => rfl, fun _ h _ => h, fun _ h _ => .inl h, fun _ h _ => .inl h⟩
theorem yG.trans {M M' M'' : zA} (hs : M.H.size ≤ M'.H.size) (x : yG M M') (y : yG M' M'') : yG M M'' where
 κ id C h := by
  obtain ⟨C', h', le⟩ := x.κ id C h
  obtain ⟨C'', h'', le'⟩ := y.κ id C' h'
  exact ⟨C'', h'', zR.le_trans le le'⟩
 F b h := y.F b (x.F b h)
 G b h := y.G b (x.G b h)
 same b h := (y.same b (x.F b h)).trans (x.same b h)
 sameG b h := (y.sameG b (x.G b h)).trans (x.sameG b h)
 bsz b h := (y.bsz b (by omega)).trans (x.bsz b h)
theorem yO.trans {M M' M'' : zA} (x : yO M M') (y : yO M' M'') : yO M M'' where
 ext := x.ext.trans x.size y.ext
 size := Nat.le_trans x.size y.size
 frame b h hn := by
  have := x.size
  rw [y.frame b (by omega) fun ho => hn (x.own b ho h), x.frame b h hn]
 own b ho h := x.own b (y.own b ho (by have := x.size; omega)) h
 Gb b hg h := by
  rcases y.Gb b hg (by have := x.size; omega) with k | k
  ·exact x.Gb b k h
  ·exact .inr (x.own b k h)
 Fb b hg h := by
  rcases y.Fb b hg (by have := x.size; omega) with k | k
  ·exact x.Fb b k h
  ·exact .inr (x.own b k h)
theorem Ok.build {M M' : zA} (ok : Ok M) (x : yG M M') (T : Nat → Prop)
  (hh : ∀ id, ¬ T id → M'.h id = M.h id) (hκ : ∀ id, ¬ T id → M'.κ id = M.κ id)
  (keep : ∀ id o C, ¬ T id → M.h id = some o → o.owned = true → M.κ id = some C → ∀ b ∈ C.fp, M'.H[b]? = M.H[b]?)
  (keepF : ∀ id o C, ¬ T id → M.h id = some o → o.owned = true → M.κ id = some C → ∀ b ∈ C.fp, ¬ M'.F b)
  (size : M.H.size ≤ M'.H.size)
  (obj : ∀ id o, T id → M'.h id = some o → ∃ C, M'.κ id = some C ∧ yM M' o C)
  (non : ∀ id, T id → M'.h id = none → M'.κ id = none)
  (disj : ∀ id o C b, T id → M'.h id = some o → o.owned = true → M'.κ id = some C → b ∈ C.fp →
   (∀ j oj Cj, j ≠ id → M'.h j = some oj → oj.owned = true → M'.κ j = some Cj → b ∉ Cj.fp) ∧ ¬ M'.F b ∧ b < M'.H.size)
  (GF : ∀ b, M'.G b → M'.F b) (Flt : ∀ b, M'.F b → b < M'.H.size) : Ok M' where
 obj id o h := by
  by_cases hT : T id
  ·exact obj id o hT h
  ·rw [hh id hT] at h
   obtain ⟨C, hC, hO⟩ := ok.obj id o h
   exact ⟨C, by rw [hκ id hT]; exact hC, hO.ext x fun ho => keep id o C hT h ho hC⟩
 non id h := by
  by_cases hT : T id
  ·exact non id hT h
  ·rw [hκ id hT]; exact ok.non id (by rw [← hh id hT]; exact h)
 disj i j oi oj Ci Cj b hij hi hj hoi hoj hCi hCj hbi hbj := by
  by_cases hTi : T i
  ·exact (disj i oi Ci b hTi hi hoi hCi hbi).1 j oj Cj (Ne.symm hij) hj hoj hCj hbj
  ·by_cases hTj : T j
   ·exact (disj j oj Cj b hTj hj hoj hCj hbj).1 i oi Ci hij hi hoi hCi hbi
   ·rw [hh i hTi] at hi; rw [hh j hTj] at hj; rw [hκ i hTi] at hCi; rw [hκ j hTj] at hCj
    exact ok.disj i j oi oj Ci Cj b hij hi hj hoi hoj hCi hCj hbi hbj
 own b hb := by
  obtain ⟨id, o, C, h, ho, hC, hb⟩ := hb
  by_cases hT : T id
  ·exact (disj id o C b hT h ho hC hb).2
  ·rw [hh id hT] at h; rw [hκ id hT] at hC
   have := ok.own b ⟨id, o, C, h, ho, hC, hb⟩
   exact ⟨keepF id o C hT h ho hC b hb, by omega⟩
 GF := GF
 Flt := Flt
def κset (κ : Nat → Option zR) (id : Nat) (C : zR) : Nat → Option zR := fun n => if n = id then some C else κ n
theorem κset_same (κ : Nat → Option zR) (id : Nat) (C : zR) : κset κ id C id = some C := by simp [κset]
theorem κset_ne (κ : Nat → Option zR) {id n : Nat} (C : zR) (h : n ≠ id) : κset κ id C n = κ n := by simp [κset, h]
theorem yB (h : Hp) (id : Nat) (o : Obj) : yC h id o id = some o := by simp [yC]
theorem yE (h : Hp) {id n : Nat} (o : Obj) (hn : n ≠ id) : yC h id o n = h n := by
 have : Nat.beq n id = false := by
  cases hb : Nat.beq n id with
  | true => exact absurd (Nat.eq_of_beq_eq_true hb) hn
  | false => rfl
 simp only [yC, this, cond_false]
theorem zCa {H : Array Go.Obj} {o : Go.Obj} {b : Nat} (h : b < H.size) : (H.push o)[b]? = H[b]? := by
 rw [Array.getElem?_push, if_neg (by omega)]
theorem zIt {H : Array Go.Obj} {o : Go.Obj} : (H.push o)[H.size]? = some o := by rw [Array.getElem?_push, if_pos rfl]
def zA.new (M : zA) (id : Nat) (o : Obj) (C : zR) (ob : Go.Obj) : zA := { M with κ := κset M.κ id C, h := yC M.h id o, H := M.H.push ob }
theorem zA.new_ext {M : zA} (ok : Ok M) {id : Nat} (hid : M.h id = none) (o : Obj) (C : zR) (ob : Go.Obj) : yG M (M.new id o C ob) where
 κ n D h := by
  have : n ≠ id := fun e => by rw [e, ok.non id hid] at h; cases h
  exact ⟨D, by simp only [zA.new]; rw [κset_ne _ _ this]; exact h, D.le_refl⟩
 F _ h := h
 G _ h := h
 same b h := zCa (ok.Flt b h)
 sameG b h := zCa (ok.Flt b (ok.GF b h))
 bsz b h := zK5 (zCa h)
theorem zA.new_ok {M : zA} (ok : Ok M) {id : Nat} (hid : M.h id = none) (o : Obj) (C : zR) (ob : Go.Obj) (hC : ∀ b ∈ C.fp, b = M.H.size)
  (hO : yM (M.new id o C ob) o C) : Ok (M.new id o C ob) ∧ yO M (M.new id o C ob) := by
 have x := zA.new_ext ok hid o C ob
 have hsz : (M.new id o C ob).H.size = M.H.size + 1 := by simp [zA.new]
 have hOwn : ∀ b, qN (M.new id o C ob) b → b = M.H.size ∨ qN M b := by
  rintro b ⟨n, q, D, h1, h2, h3, h4⟩
  by_cases e : n = id
  ·subst e
   simp only [zA.new, yB, κset_same, Option.some.injEq] at h1 h3
   subst h3
   exact .inl (hC b h4)
  ·simp only [zA.new] at h1 h3
   rw [yE _ _ e] at h1; rw [κset_ne _ _ e] at h3
   exact .inr ⟨n, q, D, h1, h2, h3, h4⟩
 refine ⟨ok.build x (· = id) (fun n hn => yE _ _ hn) (fun n hn => κset_ne _ _ hn) ?_ ?_ (by omega) ?_ ?_ ?_ ok.GF ?_, x, by omega, ?_, ?_, ?_, ?_⟩
 ·intro n q D hn h1 h2 h3 b hb
  exact zCa (ok.own b ⟨n, q, D, h1, h2, h3, hb⟩).2
 ·intro n q D hn h1 h2 h3 b hb
  exact (ok.own b ⟨n, q, D, h1, h2, h3, hb⟩).1
 ·rintro n q rfl h1
  simp only [zA.new, yB, Option.some.injEq] at h1
  subst h1
  exact ⟨C, κset_same _ _ _, hO⟩
 ·rintro n rfl h1
  simp only [zA.new, yB] at h1
  cases h1
 ·rintro n q D b rfl h1 h2 h3 hb
  simp only [zA.new, κset_same, Option.some.injEq] at h3
  subst h3
  have eb := hC b hb
  refine ⟨fun j oj Cj hj k1 k2 k3 k4 => ?_, fun hF => ?_, by omega⟩
  ·simp only [zA.new] at k1 k3
   rw [yE _ _ hj] at k1; rw [κset_ne _ _ hj] at k3
   have := (ok.own b ⟨j, oj, Cj, k1, k2, k3, k4⟩).2
   omega
  ·have := ok.Flt b hF
   omega
 ·intro b hb
  have := ok.Flt b hb
  omega
 ·intro b hb _
  exact zCa hb
 ·intro b hb hlt
  rcases hOwn b hb with e | e
  ·omega
  ·exact e
 ·exact fun b h _ => .inl h
 ·exact fun b h _ => .inl h
def zA.write (M : zA) (id : Nat) (o : Obj) (C : zR) (H : Array Go.Obj) : zA := { M with κ := κset M.κ id C, h := yC M.h id o, H := H }
theorem zA.write_ext {M : zA} (ok : Ok M) {id : Nat} {o : Obj} {C C' : zR} {H' : Array Go.Obj} (hid : M.h id = some o) (hown : o.owned = true) (hC : M.κ id = some C)
    (hle : C.le C') (hH : ∀ b, b ∉ C.fp → H'[b]? = M.H[b]?) (hbs : ∀ b, b < M.H.size → qR H' b = qR M.H b) (o' : Obj) : yG M (M.write id o' C' H') :=
  have hnF : ∀ b, M.F b → b ∉ C.fp := fun b hF hb => (ok.own b ⟨id, o, C, hid, hown, hC, hb⟩).1 hF
  { κ := fun n D h => by
      by_cases e : n = id
      · subst e
        rw [hC] at h
        cases h
        exact ⟨C', κset_same _ _ _, hle⟩
      · exact ⟨D, by simp only [zA.write]; rw [κset_ne _ _ e]; exact h, D.le_refl⟩
    F := fun _ h => h
    G := fun _ h => h
    same := fun b h => hH b (hnF b h)
    sameG := fun b h => hH b (hnF b (ok.GF b h))
    bsz := hbs }
theorem zA.write_ok {M : zA} (ok : Ok M) {id : Nat} {o o' : Obj} {C C' : zR} {H' : Array Go.Obj} (hid : M.h id = some o) (hown : o.owned = true) (hC : M.κ id = some C)
  (hle : C.le C') (hfp : ∀ b ∈ C'.fp, b ∈ C.fp) (hsz : H'.size = M.H.size) (hH : ∀ b, b ∉ C.fp → H'[b]? = M.H[b]?) (hbs : ∀ b, b < M.H.size → qR H' b = qR M.H b)
  (hO : yM (M.write id o' C' H') o' C') : Ok (M.write id o' C' H') ∧ yO M (M.write id o' C' H') := by
 have x := zA.write_ext ok hid hown hC hle hH hbs o'
 have hOwn : ∀ b, qN (M.write id o' C' H') b → qN M b := by
  rintro b ⟨n, q, D, h1, h2, h3, h4⟩
  by_cases e : n = id
  ·subst e
   simp only [zA.write, yB, κset_same, Option.some.injEq] at h1 h3
   subst h3
   exact ⟨n, o, C, hid, hown, hC, hfp b h4⟩
  ·simp only [zA.write] at h1 h3
   rw [yE _ _ e] at h1; rw [κset_ne _ _ e] at h3
   exact ⟨n, q, D, h1, h2, h3, h4⟩
 refine ⟨ok.build x (· = id) (fun n hn => yE _ _ hn) (fun n hn => κset_ne _ _ hn) ?_ ?_ (by simp only [zA.write]; omega) ?_ ?_ ?_ ok.GF ?_, x, by simp only [zA.write]; omega, ?_, ?_, ?_, ?_⟩
 ·intro n q D hn h1 h2 h3 b hb
  exact hH b fun hc => ok.disj n id q o D C b hn h1 hid h2 hown h3 hC hb hc
 ·intro n q D hn h1 h2 h3 b hb
  exact (ok.own b ⟨n, q, D, h1, h2, h3, hb⟩).1
 ·rintro n q rfl h1
  simp only [zA.write, yB, Option.some.injEq] at h1
  subst h1
  exact ⟨C', κset_same _ _ _, hO⟩
 ·rintro n rfl h1
  simp only [zA.write, yB] at h1
  cases h1
 ·rintro n q D b rfl h1 h2 h3 hb
  simp only [zA.write, κset_same, Option.some.injEq] at h3
  subst h3
  have hb' := hfp b hb
  have := ok.own b ⟨n, o, C, hid, hown, hC, hb'⟩
  refine ⟨fun j oj Cj hj k1 k2 k3 k4 => ?_, this.1, by simp only [zA.write]; omega⟩
  simp only [zA.write] at k1 k3
  rw [yE _ _ hj] at k1; rw [κset_ne _ _ hj] at k3
  exact ok.disj j n oj o Cj C b hj k1 hid k2 hown k3 hC k4 hb'
 ·intro b hb
  have := ok.Flt b hb
  simp only [zA.write]; omega
 ·intro b hb hn
  exact hH b fun hc => hn ⟨id, o, C, hid, hown, hC, hc⟩
 ·exact fun b hb _ => hOwn b hb
 ·exact fun b h _ => .inl h
 ·exact fun b h _ => .inl h
def zA.freeze (M : zA) (id : Nat) (o : Obj) (C : zR) : zA := { M with h := yC M.h id o, F := fun b => M.F b ∨ b ∈ C.fp, G := fun b => M.G b ∨ b ∈ C.fp }
theorem zA.freeze_ok {M : zA} (ok : Ok M) {id : Nat} {o o' : Obj} {C : zR} (hid : M.h id = some o) (hown : o.owned = true) (hC : M.κ id = some C)
  (ho' : o'.owned = false) (hO : yM (M.freeze id o' C) o' C) : Ok (M.freeze id o' C) ∧ yO M (M.freeze id o' C) := by
 have x : yG M (M.freeze id o' C) := ⟨fun _ C h => ⟨C, h, C.le_refl⟩, fun _ h => .inl h, fun _ h => .inl h, fun _ _ => rfl, fun _ _ => rfl, fun _ _ => rfl⟩
 have hown' : ∀ b ∈ C.fp, qN M b := fun b hb => ⟨id, o, C, hid, hown, hC, hb⟩
 have hOwn : ∀ b, qN (M.freeze id o' C) b → qN M b := by
  rintro b ⟨n, q, D, h1, h2, h3, h4⟩
  by_cases e : n = id
  ·subst e
   simp only [zA.freeze, yB, Option.some.injEq] at h1
   subst h1
   rw [ho'] at h2
   cases h2
  ·simp only [zA.freeze] at h1
   rw [yE _ _ e] at h1
   exact ⟨n, q, D, h1, h2, h3, h4⟩
 refine ⟨ok.build x (· = id) (fun n hn => yE _ _ hn) (fun n _ => rfl) (fun _ _ _ _ _ _ _ _ _ => rfl) ?_ (Nat.le_refl _) ?_ ?_ ?_ ?_ ?_, x, Nat.le_refl _, fun _ _ _ => rfl, fun b hb _ => hOwn b hb, ?_, ?_⟩
 ·rintro n q D hn h1 h2 h3 b hb (hF | hF)
  ·exact (ok.own b ⟨n, q, D, h1, h2, h3, hb⟩).1 hF
  ·exact ok.disj n id q o D C b hn h1 hid h2 hown h3 hC hb hF
 ·rintro n q rfl h1
  simp only [zA.freeze, yB, Option.some.injEq] at h1
  subst h1
  exact ⟨C, hC, hO⟩
 ·rintro n rfl h1
  simp only [zA.freeze, yB] at h1
  cases h1
 ·rintro n q D b rfl h1 h2 h3 hb
  simp only [zA.freeze, yB, Option.some.injEq] at h1
  subst h1
  rw [ho'] at h2
  cases h2
 ·rintro b (h | h)
  ·exact .inl (ok.GF b h)
  ·exact .inr h
 ·rintro b (h | h)
  ·exact ok.Flt b h
  ·exact (ok.own b (hown' b h)).2
 ·rintro b (h | h) _
  ·exact .inl h
  ·exact .inr (hown' b h)
 ·rintro b (h | h) _
  ·exact .inl h
  ·exact .inr (hown' b h)
end Go.Ab
set_option linter.unusedSimpArgs false
namespace Go.Ab
def zX1 : List (Bool × zD × zX) → zD → zX → Prop
 | [], _, _ => False
 | (c, a, b) :: l, v, u => (c = true ∧ v = a ∧ u = b) ∨ (c = false ∧ zX1 l v u)
def yD (s : yA) (v : zD) (u : zX) : Prop := match s with
 | .alts l => zX1 l v u
 | .call _ x f => ∃ r, x = some r ∧ v = (f r).1 ∧ u = (f r).2
 | .call2 _ _ x f g => (∃ r, x = some (.inl r) ∧ v = (f r).1 ∧ u = (f r).2) ∨ (∃ r, x = some (.inr r) ∧ v = (g r).1 ∧ u = (g r).2)
theorem yJt {R : Type} {K : zD → zX → Option R} {out : R} : ∀ {l : List (Bool × zD × zX)}, qMr K l = some out → ∃ v u, zX1 l v u ∧ K v u = some out
 | [], h => by cases h
 | (c, a, b) :: l, h => by
  cases c with
  | true => exact ⟨a, b, .inl ⟨rfl, rfl, rfl⟩, h⟩
  | false =>
   obtain ⟨v, u, h1, h2⟩ := yJt (l := l) h
   exact ⟨v, u, .inr ⟨rfl, h1⟩, h2⟩
theorem yA.elim_some {R : Type} {s : yA} {K : zD → zX → Option R} {out : R} (h : s.elim K = some out) : ∃ v u, yD s v u ∧ K v u = some out := by
 cases s with
 | alts l => exact yJt h
 | call X x f =>
  simp only [yA.elim, Option.bind_eq_some_iff] at h
  obtain ⟨r, h1, h2⟩ := h
  exact ⟨_, _, ⟨r, h1, rfl, rfl⟩, h2⟩
 | call2 X Y x f g =>
  simp only [yA.elim, Option.bind_eq_some_iff] at h
  obtain ⟨r, h1, h2⟩ := h
  cases r with
  | inl r => exact ⟨_, _, .inl ⟨r, h1, rfl, rfl⟩, h2⟩
  | inr r => exact ⟨_, _, .inr ⟨r, h1, rfl, rfl⟩, h2⟩
theorem vL {v a : zD} {u : zX} (h : yD (.one a) v u) : v = a ∧ u = [] := by
 rcases h with ⟨_, h1, h2⟩ | ⟨h, _⟩
 ·exact ⟨h1, h2⟩
 ·cases h
theorem zCk {c : Bool} {v a : zD} {u : zX} (h : yD (.when c a) v u) : c = true ∧ v = a ∧ u = [] := by
 rcases h with h | ⟨_, h⟩
 ·exact h
 ·exact h.elim
theorem jZ {c : Bool} {v a : zD} {u b : zX} (h : yD (.alts [(c, a, b)]) v u) : c = true ∧ v = a ∧ u = b := by
 rcases h with h | ⟨_, h⟩
 ·exact h
 ·exact h.elim
theorem qE1 {x : Option zD} {v : zD} {u : zX} (h : yD (.ofO x) v u) : x = some v ∧ u = [] := by
 cases x with
 | none => exact h.elim
 | some a =>
  obtain ⟨rfl, rfl⟩ := vL h
  exact ⟨rfl, rfl⟩
section
variable {P : Program} (w : World)
theorem yOa {t : TypeId} {d : TypeDesc} (h : P.underlying t = some d) : ∃ i, P.info? t = some i := by
 unfold Program.underlying at h
 cases hi : P.info? t with
 | none => rw [hi] at h; cases h
 | some i => exact ⟨i, rfl⟩
theorem qNm {t : TypeId} {i : TypeInfo} (h : P.info? t = some i) : P.cellsOf t = i.size := by simp [Program.cellsOf, h]
theorem vB9 {t : TypeId} {i : TypeInfo} (h : P.info? t = some i) : P.bytesOf t = i.bytes := by simp [Program.bytesOf, h]
theorem zDr {t : TypeId} (h : 0 < P.cellsOf t) : ∃ i, P.info? t = some i := by
 cases hi : P.info? t with
 | none => simp [Program.cellsOf, hi] at h
 | some i => exact ⟨i, rfl⟩
theorem qA0 {t : TypeId} {i : TypeInfo} (h : P.info? t = some i) : (typeInfo t).run P w = .ok i w := by simp [typeInfo, h]
theorem zAu {t : TypeId} {i : TypeInfo} (h : P.info? t = some i) : (sizeOf t).run P w = .ok (P.cellsOf t) w := by
 rw [qNm h]; simp [sizeOf, typeInfo, h]
theorem zM2 {t : TypeId} {b : Bool} (h : zAn P t = some b) : (∃ d, P.underlying t = some d) ∧ (isAgg t).run P w = .ok b w := by
 unfold zAn at h
 cases hd : P.underlying t with
 | none => rw [hd] at h; cases h
 | some d =>
  rw [hd] at h
  refine ⟨⟨d, rfl⟩, ?_⟩
  cases d <;> simp at h <;> subst h <;> simp [isAgg, run_underlying hd]
theorem qRw {t : TypeId} {cs : List zG} (h : zeroCells P t = some cs) : ∃ i v, P.info? t = some i ∧ i.zero = some v ∧ v.cells.size = i.size ∧ v.cells.toList.all zHl = true ∧ cs = v.cells.toList.map zIm := by
 unfold zeroCells at h
 split at h
 ·rename_i i hi
  split at h
  ·rename_i v hv
   cases hb : (Nat.beq v.cells.size i.size && v.cells.toList.all zHl) with
   | false => rw [hb] at h; cases h
   | true =>
    rw [hb] at h
    simp only [cond_true, Option.some.injEq] at h
    simp only [Bool.and_eq_true] at hb
    exact ⟨i, v, hi, hv, Nat.eq_of_beq_eq_true hb.1, hb.2, h.symm⟩
  ·cases h
 ·cases h
end
theorem yR8 {v : Value} (h : zHl v = true) : v.one1 = true := by cases v <;> first | rfl | cases h
theorem zHu {v : Value} (h : v.one1 = true) : v.oneCell' = true := by cases v <;> first | rfl | cases h
theorem yOh (M : zA) {v : Value} (h : v.one1 = true) : zV M (zIm v) v := by
 unfold zIm
 split <;> first | rfl | exact h
theorem zUt (M : zA) : ∀ {l : List Value}, l.all zHl = true → zO (zV M) (l.map zIm) l
 | [], _ => trivial
 | v :: l, h => by
  simp only [List.all_cons, Bool.and_eq_true] at h
  exact ⟨yOh M (yR8 h.1), zUt M h.2⟩
theorem yYe (M : zA) (v : Value) : zT M (qB0 v) v := by
 unfold qB0
 split
 ·rename_i cs
  cases hb : cs.toList.all zHl with
  | false => trivial
  | true => exact ⟨cs, rfl, zUt M hb⟩
 ·trivial
 ·rename_i h1 h2
  exact yOh M (by cases v <;> first | rfl | exact absurd rfl (h1 _) | exact absurd rfl (h2 _))
def qI (P : Program) (s : Sem Value) (M : zA) (w : World) (v : zD) (u : zX) : Prop :=
 ∃ rv w' M', s.run P w = .ok rv w' ∧ w'.os = w.os ∧ w'.tape = w.tape ∧ w'.output = w.output ∧ M'.H = w'.heap ∧ M'.h = qE M.h u ∧ Ok M' ∧ yO M M' ∧ zT M' v rv
theorem qI.pure {P : Program} {s : Sem Value} {M : zA} {w : World} {v : zD} {rv : Value} (ok : Ok M) (hM : M.H = w.heap) (h : s.run P w = .ok rv w) (hv : zT M v rv) : qI P s M w v [] :=
 ⟨rv, w, M, h, rfl, rfl, rfl, hM, rfl, ok, yO.refl M, hv⟩
theorem zMi (sh : Bool) : ∀ (t : Ty) (x : t.den), (cellsOf sh t x).length = t.size
 | .int _, _ | .bool, _ | .sl _, _ => rfl
 | .pair a b, p => by simp only [cellsOf, List.length_append, zMi sh a, zMi sh b, Ty.size]
theorem zSi (M : zA) (sh : Bool) : ∀ (t : Ty) (x : t.den) (rd : Nat → Option Value), zW M.H (bif sh then M.G else M.F) t x rd →
  ∀ j (h : j < (cellsOf sh t x).length), ∃ v, rd j = some v ∧ zV M (cellsOf sh t x)[j] v
 | .int k, n, rd, h, j, hj => by
  simp only [cellsOf, List.length_singleton] at hj
  obtain rfl : j = 0 := by omega
  exact ⟨_, h, rfl⟩
 | .bool, n, rd, h, j, hj => by
  simp only [cellsOf, List.length_singleton] at hj
  obtain rfl : j = 0 := by omega
  exact ⟨_, h, rfl⟩
 | .sl t, xs, rd, h, j, hj => by
  simp only [cellsOf, List.length_singleton] at hj
  obtain rfl : j = 0 := by omega
  simp only [zW] at h
  obtain ⟨A, n, c, h1, h2⟩ := h
  refine ⟨_, h1, ?_⟩
  show zW _ _ _ _ _
  simp only [zW]
  exact ⟨A, n, c, rfl, h2⟩
 | .pair a b, p, rd, h, j, hj => by
  simp only [zW] at h
  simp only [cellsOf, List.length_append, zMi] at hj
  by_cases hlt : j < (cellsOf sh a p.1).length
  ·obtain ⟨v, h1, h2⟩ := zSi M sh a p.1 rd h.1 j hlt
   refine ⟨v, h1, ?_⟩
   simp only [cellsOf, List.getElem_append_left hlt]
   exact h2
  ·have hlt' := hlt
   rw [zMi] at hlt'
   obtain ⟨v, h1, h2⟩ := zSi M sh b p.2 _ h.2 (j - a.size) (by rw [zMi]; omega)
   refine ⟨v, by rw [show j = j - a.size + a.size by omega]; exact h1, ?_⟩
   have hge : (cellsOf sh a p.1).length ≤ j := by omega
   simp only [cellsOf, List.getElem_append_right hge]
   simp only [zMi]
   exact h2
theorem zO0 {cells vs : List zG} {off n : Nat} (h : zB3 cells off n = some vs) : off + n ≤ cells.length ∧ vs = (cells.drop off).take n ∧ vs.length = n := by
 unfold zB3 at h
 cases hb : Nat.ble (off + n) cells.length with
 | false => rw [hb] at h; cases h
 | true =>
  rw [hb] at h
  simp only [cond_true, Option.some.injEq] at h
  have := Nat.le_of_ble_eq_true hb
  exact ⟨this, h.symm, by rw [← h, List.length_take, List.length_drop]; omega⟩
theorem qA8 {agg : Option Bool} {vs : List zG} {v : zD} (h : zEo agg vs = some v) : (agg = some true ∧ v = .agg vs) ∨ (agg = some false ∧ ∃ c, vs = [c] ∧ v = .c c) := by
 unfold zEo at h
 split at h
 ·exact .inl ⟨rfl, (Option.some.inj h).symm⟩
 ·split at h
  ·exact .inr ⟨rfl, _, rfl, (Option.some.inj h).symm⟩
  ·cases h
 ·cases h
theorem qYh {P : Program} {M : zA} {w : World} (ok : Ok M) (hM : M.H = w.heap) {t : TypeId} {B o : Nat} {cells vs : List zG} {off : Nat} {v : zD}
  (hrd : ∀ j (h : j < cells.length), ∃ u, qW M.H B (o + j) = some u ∧ zV M cells[j] u)
  (hcut : zB3 cells off (P.cellsOf t) = some vs) (hp : zEo (zAn P t) vs = some v) :
  ∃ rv, (loadVar t ⟨B, o + off, none⟩).run P w = .ok rv w ∧ zT M v rv := by
 obtain ⟨h1, h2, h3⟩ := zO0 hcut
 have hget : ∀ j, j < vs.length → ∃ u, w.cell? ⟨B, o + off + j, none⟩ = some u ∧ ∃ c, vs[j]? = some c ∧ zV M c u := by
  intro j hj
  obtain ⟨u, k1, k2⟩ := hrd (off + j) (by omega)
  refine ⟨u, by rw [zFt, ← hM, Nat.add_assoc]; exact k1, cells[off + j], ?_, k2⟩
  subst h2
  rw [List.getElem?_take, if_pos (by omega), List.getElem?_drop, List.getElem?_eq_getElem]
 rcases qA8 hp with ⟨hagg, rfl⟩ | ⟨hagg, c, rfl, rfl⟩
 ·obtain ⟨⟨d, hd⟩, hr⟩ := zM2 (P := P) w hagg
  obtain ⟨i, hi⟩ := yOa hd
  have hf : ∃ us : List Value, us.length = vs.length ∧ ∀ j (h : j < vs.length), ∃ u c, us[j]? = some u ∧ w.cell? ⟨B, o + off + j, none⟩ = some u ∧ vs[j]? = some c ∧ zV M c u := by
   refine ⟨(List.range vs.length).map fun j => (w.cell? ⟨B, o + off + j, none⟩).getD undef, by simp, fun j h => ?_⟩
   obtain ⟨u, k1, c, k2, k3⟩ := hget j h
   exact ⟨u, c, by simp [h, k1], k1, k2, k3⟩
  obtain ⟨us, hl, hus⟩ := hf
  have hload := run_loadCells_list (P := P) w ⟨B, o + off, none⟩ us (fun j u hu => by
   have hj : j < us.length := by
    rcases Nat.lt_or_ge j us.length with h | h
    ·exact h
    ·rw [List.getElem?_eq_none h] at hu; cases hu
   obtain ⟨u', c, k1, k2, _⟩ := hus j (by omega)
   rw [hu] at k1; cases k1
   rw [Addr.add_lit]; exact k2)
  refine ⟨.agg us.toArray, ?_, ?_⟩
  ·rw [hl, h3] at hload
   simp [loadVar, hr, zAu w hi, hload]
  ·refine ⟨us.toArray, rfl, zO.of_get (by simpa using hl.symm) fun j k1 k2 => ?_⟩
   obtain ⟨u, c, q1, _, q2, q3⟩ := hus j k1
   have e1 : vs[j] = c := by rw [List.getElem?_eq_getElem k1] at q2; exact Option.some.inj q2
   have e2 : us[j]'(by simpa using k2) = u := by rw [List.getElem?_eq_getElem (by simpa using k2)] at q1; exact Option.some.inj q1
   simp only [e1]
   show zV M c (us[j]'(by simpa using k2))
   rw [e2]; exact q3
 ·obtain ⟨⟨d, hd⟩, hr⟩ := zM2 (P := P) w hagg
  obtain ⟨u, k1, c', k2, k3⟩ := hget 0 (by simp)
  simp at k2
  subst k2
  refine ⟨u, ?_, k3⟩
  simp at k1
  simp [loadVar, hr, k1]
theorem zX4 {P : Program} {M : zA} {w : World} (ok : Ok M) (hM : M.H = w.heap) {t : TypeId} {B o : Nat} {cells vs : List zG} {off : Nat} {v : zD}
  (hrd : ∀ j (h : j < cells.length), ∃ u, qW M.H B (o + j) = some u ∧ zV M cells[j] u)
  (hcut : zB3 cells off (P.cellsOf t) = some vs) (hp : zEo (zAn P t) vs = some v) :
  qI P (loadVar t ⟨B, o + off, none⟩) M w v [] := by
 obtain ⟨rv, h1, h2⟩ := qYh (w := w) ok hM hrd hcut hp
 exact .pure ok hM h1 h2
theorem zBc (P : Program) (w : World) (a : Addr) : (Instr.sureAddr (.pointer (some a))).run P w = .ok a w := rfl
theorem yAx {M : zA} {own : Bool} {cells : List zG} {C : zR} (h : yM M (.box own cells) C) : ∃ B, C.blk = some B ∧ ∀ j (h : j < cells.length), ∃ u, qW M.H B (0 + j) = some u ∧ zV M cells[j] u := by
 obtain ⟨B, vals, e, h1, h2, h3, h4, h5⟩ := h
 refine ⟨B, h1, fun j hj => ?_⟩
 have hl := h4.length
 have hj' : j < vals.size := by simpa [hl] using hj
 refine ⟨vals[j], ?_, ?_⟩
 ·simp [qW, h3, hj']
 ·have := h4.get j hj (by simpa using hj')
  simpa using this
theorem vFu {M : zA} {cells : List zG} {C : zR} (h : yM M (.robox cells) C) : ∃ B, C.blk = some B ∧ ∀ j (h : j < cells.length), ∃ u, qW M.H B (0 + j) = some u ∧ zV M cells[j] u := by
 obtain ⟨B, vals, e, h1, h2, h3, h4, h5⟩ := h
 refine ⟨B, h1, fun j hj => ?_⟩
 have hl := h4.length
 have hj' : j < vals.size := by simpa [hl] using hj
 refine ⟨vals[j], ?_, ?_⟩
 ·simp [qW, h3, hj']
 ·have := h4.get j hj (by simpa using hj')
  simpa using this
theorem vB3 {M : zA} {own : Bool} {t : Ty} {xs : List t.den} {C : zR} (h : yM M (.arr own t xs) C) {i : Nat} (hi : i < xs.length) : ∃ B, C.blk = some B ∧
  ∀ j (h : j < (cellsOf true t (xs.getD i t.dflt)).length), ∃ u, qW M.H B (i * C.sz + j) = some u ∧ zV M (cellsOf true t (xs.getD i t.dflt))[j] u := by
 obtain ⟨h1, h2, h3, h4⟩ := h
 cases hB : C.blk with
 | none => rw [hB] at h4; subst h4; simp at hi
 | some B =>
  rw [hB] at h4
  obtain ⟨vals, e, h5, h6, h7, h8⟩ := h4
  refine ⟨B, rfl, fun j hj => ?_⟩
  have e1 : xs.getD i t.dflt = xs[i] := by simp [List.getD, hi]
  have := zSi M true t xs[i] _ (h8 i hi) j (by rw [← e1]; exact hj)
  obtain ⟨v, k1, k2⟩ := this
  refine ⟨v, ?_, ?_⟩
  ·rw [h2]; simp only [qW, h5]; exact k1
  ·simp only [e1]; exact k2
theorem zZf {P : Program} {t : TypeId} {cells : List zG} {off : Nat} {v : zD} {u : zX} (h : yD (zQ8 P t cells off) v u) :
  ∃ vs, zB3 cells off (P.cellsOf t) = some vs ∧ zEo (zAn P t) vs = some v ∧ u = [] := by
 obtain ⟨h', rfl⟩ := qE1 h
 rw [Option.bind_eq_some_iff] at h'
 obtain ⟨vs, h1, h2⟩ := h'
 exact ⟨vs, h1, h2, rfl⟩
theorem zB0.one {H : Array Go.Obj} {rb : Option Nat} {n : Nat} {v : Value} (h : zB0 H rb n v) : v.one1 = true := by
 cases rb with
 | none => obtain ⟨rfl, _⟩ := h; rfl
 | some R => obtain ⟨a, c, rfl, _⟩ := h; rfl
theorem zJm {M : zA} {ver : Nat} {xs : List (List Int)} {C : zR} (h : yM M (.mat ver xs) C) {i : Nat} (hi : i < xs.length) : ∃ B rb v, C.blk = some B ∧ C.ver = ver ∧
  C.rows[i]? = some (rb, xs[i].length) ∧ qW M.H B i = some v ∧ zB0 M.H rb xs[i].length v ∧ (∀ R, rb = some R → ∀ j (h' : j < xs[i].length), qW M.H R j = some (.int .i64 xs[i][j])) := by
 obtain ⟨q1, q2, q3, q4, q5, q6⟩ := h
 cases hB : C.blk with
 | none => rw [hB] at q6; subst q6; simp at hi
 | some B =>
  rw [hB] at q6
  obtain ⟨vals, e, q7, q8, q9⟩ := q6
  obtain ⟨rb, v, k1, k2, k3, k4⟩ := q9 i hi
  refine ⟨B, rb, v, rfl, q1, k1, by simp only [qW, q7]; exact k2, k3, fun R hR j hj => ?_⟩
  obtain ⟨rv, er, k5, k6⟩ := k4 R hR
  simp only [qW, k5]; exact k6 j hj
theorem yP0 {P : Program} {M : zA} {w : World} (ok : Ok M) (hM : M.H = w.heap) {t : TypeId} {a v : zD} {u : zX} {ra : Value} (ha : zT M a ra)
  (h : yD (zLn P M.h t a) v u) : qI P (Instr.loadAt t ra) M w v u := by
 unfold zLn at h
 split at h
 ·rename_i id off
  split at h
  ·rename_i own cells hid
   obtain ⟨vs, h1, h2, rfl⟩ := zZf h
   obtain ⟨C, B, hC, hB, rfl⟩ := ha
   obtain ⟨C', hC', hO⟩ := ok.obj _ _ hid
   rw [hC] at hC'; cases hC'
   obtain ⟨B', hB', hcells⟩ := yAx hO
   rw [hB] at hB'; cases hB'
   have := zX4 (P := P) ok hM (t := t) (o := 0) hcells h1 h2
   simpa [Instr.loadAt, qI, zBc] using this
  ·rename_i cells hid
   obtain ⟨vs, h1, h2, rfl⟩ := zZf h
   obtain ⟨C, B, hC, hB, rfl⟩ := ha
   obtain ⟨C', hC', hO⟩ := ok.obj _ _ hid
   rw [hC] at hC'; cases hC'
   obtain ⟨B', hB', hcells⟩ := vFu hO
   rw [hB] at hB'; cases hB'
   have := zX4 (P := P) ok hM (t := t) (o := 0) hcells h1 h2
   simpa [Instr.loadAt, qI, zBc] using this
  ·exact h.elim
 ·rename_i sh ty x off
  obtain ⟨vs, h1, h2, rfl⟩ := zZf h
  obtain ⟨B, o, rfl, hB, hE⟩ := ha
  have := zX4 (P := P) ok hM (t := t) (B := B) (o := o) (fun j hj => zSi M sh ty x _ hE j hj) h1 h2
  simpa [Instr.loadAt, qI, zBc] using this
 ·rename_i id i off
  split at h
  ·rename_i own ty xs hid
   obtain ⟨vs, h1, h2, rfl⟩ := zZf h
   obtain ⟨C, B, hC, hB, hi, rfl⟩ := ha
   obtain ⟨C', hC', hO⟩ := ok.obj _ _ hid
   rw [hC] at hC'; cases hC'
   obtain ⟨B', hB', hcells⟩ := vB3 hO (i := i) (by rw [← hO.1]; exact hi)
   rw [hB] at hB'; cases hB'
   have := zX4 (P := P) ok hM (t := t) hcells h1 h2
   simpa [Instr.loadAt, qI, zBc] using this
  ·exact h.elim
 ·rename_i id i
  split at h
  ·rename_i ver xs hid
   split at h
   ·rename_i hagg
    obtain ⟨rfl, rfl⟩ := vL h
    obtain ⟨C, B, hC, hB, hi, rfl⟩ := ha
    obtain ⟨C', hC', hO⟩ := ok.obj _ _ hid
    rw [hC] at hC'; cases hC'
    obtain ⟨B', rb, x, k0, kv, k1, k2, k3, k4⟩ := zJm hO (i := i) (by rw [← hO.2.1]; exact hi)
    rw [hB] at k0; cases k0
    obtain ⟨_, hr⟩ := zM2 (P := P) w hagg
    have qW : w.cell? ⟨B, i, none⟩ = some x := by rw [zFt, ← hM]; exact k2
    exact qI.pure ok hM (rv := x) (by simp [Instr.loadAt, zBc, loadVar, hr, qW]) ⟨C, hC, k3.one, by omega, fun _ => ⟨rb, _, k1, k3⟩⟩
   ·exact h.elim
  ·exact h.elim
 ·rename_i id i j ver
  split at h
  ·rename_i v' xs hid
   cases hv : Nat.beq v' ver with
   | false => rw [hv] at h; exact h.elim
   | true =>
    rw [hv] at h
    simp only [cond_true] at h
    have hv := Nat.eq_of_beq_eq_true hv
    subst hv
    split at h
    ·rename_i hagg
     obtain ⟨rfl, rfl⟩ := vL h
     obtain ⟨C, hC, h1, hle, hm⟩ := ha
     obtain ⟨C', hC', hO⟩ := ok.obj _ _ hid
     rw [hC] at hC'; cases hC'
     obtain ⟨R, rl, k1, k2, rfl⟩ := hm hO.1
     have hi : i < xs.length := by
      rw [← hO.2.2.2.1]
      rcases Nat.lt_or_ge i C.rows.length with h | h
      ·exact h
      ·rw [List.getElem?_eq_none h] at k1; cases k1
     obtain ⟨B', rb, x, q0, qv, q1, q2, q3, q4⟩ := zJm hO hi
     rw [k1] at q1
     cases q1
     obtain ⟨_, hr⟩ := zM2 (P := P) w hagg
     have qW : w.cell? ⟨R, j, none⟩ = some (.int .i64 xs[i][j]) := by rw [zFt, ← hM]; exact q4 R rfl j k2
     refine qI.pure ok hM (rv := .int .i64 xs[i][j]) (by simp [Instr.loadAt, zBc, loadVar, hr, qW]) ?_
     show _ = _
     simp [List.getD, hi, k2]
    ·exact h.elim
  ·exact h.elim
 ·exact h.elim
theorem zBj (h : Hp) : ∀ (u v : zX), qE h (u ++ v) = qE (qE h u) v
 | [], _ => rfl
 | (id, o) :: u, v => zBj (yC h id o) u v
theorem qL5 (h : Hp) (id : Nat) (o : Obj) : qE h [(id, o)] = yC h id o := rfl
theorem zL7 {h : Hp} {id : Nat} {o : Obj} (e : h id = some o) : yC h id o = h := by
 funext n
 by_cases hn : n = id
 ·subst hn; rw [yB]; exact e.symm
 ·rw [yE _ _ hn]
theorem qCy : ∀ (vs : List zG) (cells : List zG) (off : Nat) (out : List zG), zIj cells off vs = some out →
  (vs = [] ∨ off + vs.length ≤ cells.length) ∧ out = cells.take off ++ vs ++ cells.drop (off + vs.length)
 | [], cells, off, out, h => by
  simp only [zIj, Option.some.injEq] at h
  subst h
  exact ⟨.inl rfl, by simp⟩
 | v :: vs, cells, off, out, h => by
  unfold zIj at h
  cases hb : Nat.blt off cells.length with
  | false => rw [hb] at h; cases h
  | true =>
   rw [hb] at h
   simp only [cond_true] at h
   have hlt : off < cells.length := Nat.le_of_ble_eq_true hb
   obtain ⟨h1, h2⟩ := qCy vs (cells.set off v) (off + 1) out h
   rw [List.length_set] at h1
   refine ⟨.inr (by rcases h1 with rfl | h1 <;> simp only [List.length_cons, List.length_nil] <;> omega), ?_⟩
   rw [h2]
   have e1 : (cells.set off v).take (off + 1) = cells.take off ++ [v] := by
    rw [List.take_succ_eq_append_getElem (by simpa using hlt), List.take_set_of_le (Nat.le_refl _)]
    simp
   have e2 : (cells.set off v).drop (off + 1 + vs.length) = cells.drop (off + (v :: vs).length) := by
    rw [List.drop_set_of_lt (by omega)]
    simp only [List.length_cons]
    congr 1; omega
   rw [e1, e2]
   simp
theorem zX2 {M : zA} {v : zD} {rv : Value} {vs : List zG} (h : zCu v = some vs) (hv : zT M v rv) : zO (zV M) vs rv.cells.toList := by
 unfold zCu at h
 split at h
 ·rename_i c
  cases h
  have h1 := zV.one hv
  have : rv.cells = #[rv] := by cases rv <;> first | rfl | cases h1
  rw [this]
  exact ⟨hv, trivial⟩
 ·cases h
  obtain ⟨us, rfl, h⟩ := hv
  exact h
 ·cases h
theorem qN7 {M : zA} : ∀ {vs : List zG} {us : List Value}, zO (zV M) vs us → ∀ u ∈ us, u.one1 = true
 | [], [], _, _, h => by cases h
 | _ :: _, u :: us, hh, x, h => by
  cases h with
  | head => exact hh.1.one
  | tail _ h => exact qN7 hh.2 x h
 | [], _ :: _, hh, _, _ => hh.elim
 | _ :: _, [], hh, _, _ => hh.elim
def zB7 (P : Program) (s : Sem Unit) (M : zA) (w : World) (u : zX) : Prop :=
 ∃ w' M', s.run P w = .ok () w' ∧ w'.os = w.os ∧ w'.tape = w.tape ∧ w'.output = w.output ∧ M'.H = w'.heap ∧ M'.h = qE M.h u ∧ Ok M' ∧ yO M M'
def yJ (vals : Array Value) (off : Nat) (us : List Value) : Array Value := (vals.toList.take off ++ us ++ vals.toList.drop (off + us.length)).toArray
theorem jV {vals : Array Value} {off : Nat} {us : List Value} (h : off + us.length ≤ vals.size) : (yJ vals off us).size = vals.size := by
 simp only [yJ, List.size_toArray, List.length_append, List.length_take, List.length_drop, Array.length_toList]; omega
theorem wJ {vals : Array Value} {off : Nat} {us : List Value} (h : off + us.length ≤ vals.size) (j : Nat) :
  (yJ vals off us)[j]? = if j < off then vals[j]? else if j < off + us.length then us[j - off]? else vals[j]? := by
 simp only [yJ, List.getElem?_toArray, List.append_assoc]
 by_cases h1 : j < off
 ·rw [if_pos h1, List.getElem?_append_left (by simp; omega), List.getElem?_take, if_pos h1]; simp
 ·rw [if_neg h1]
  have hl : (vals.toList.take off).length = off := by simp; omega
  rw [List.getElem?_append_right (by omega), hl]
  by_cases h2 : j < off + us.length
  ·rw [if_pos h2, List.getElem?_append_left (by omega)]
  ·rw [if_neg h2, List.getElem?_append_right (by omega), List.getElem?_drop]
   simp only [Array.getElem?_toList]
   congr 1; omega
theorem zCp {w : World} {B : Nat} {vals new : Array Value} {e : TypeId} (h : w.heap[B]? = some (.cells vals e (0, 0))) (hs : new.size = vals.size) :
  (w.setRow B new).heap.size = w.heap.size ∧ (w.setRow B new).heap[B]? = some (.cells new e (0, 0)) ∧ (∀ b, b ≠ B → (w.setRow B new).heap[b]? = w.heap[b]?) ∧
  (∀ b, qR (w.setRow B new).heap b = qR w.heap b) := by
 have h1 := setRow_heap w B vals new e (0, 0) h
 have h2 : ∀ b, b ≠ B → (w.setRow B new).heap[b]? = w.heap[b]? := fun b hb => setRow_other w B b new hb
 refine ⟨by simp [World.setRow], h1, h2, fun b => ?_⟩
 by_cases hb : b = B
 ·subst hb; simp only [qR, h1, h]; exact hs
 ·exact zK5 (h2 b hb)
theorem qAs {P : Program} {w : World} {t : TypeId} {B off : Nat} {vals : Array Value} {e : TypeId} {rv : Value} (h : w.heap[B]? = some (.cells vals e (0, 0)))
  (hn : rv.cells.size = P.cellsOf t) (h0 : 0 < P.cellsOf t) (hfit : off + rv.cells.size ≤ vals.size) (h1 : ∀ u ∈ rv.cells.toList, u.one1 = true) :
  (storeVar t ⟨B, off, none⟩ rv).run P w = .ok () (w.setRow B (yJ vals off rv.cells.toList)) := by
 obtain ⟨i, hi⟩ := zDr h0
 have hst := run_storeCells_at (P := P) B off e rv.cells.toList 0 vals w h (by simpa using hfit) (fun v hv => zHu (h1 v hv))
 simp only [Nat.add_zero] at hst
 have : ¬ rv.cells.size ≠ P.cellsOf t := by omega
 simp only [storeVar, Sem.run_bind, zAu w hi, Result.andThen_ok, this, if_false]
 exact hst
theorem qIn {M M' : zA} (x : yG M M') {cells vs : List zG} {vals : Array Value} {us : List Value} {off : Nat} (h : zO (zV M) cells vals.toList) (hv : zO (zV M) vs us)
  (hfit : off + us.length ≤ vals.size) : zO (zV M') (cells.take off ++ vs ++ cells.drop (off + vs.length)) (yJ vals off us).toList := by
 have hl := hv.length
 simp only [yJ]
 rw [hl]
 exact ((h.take off).append hv |>.append (h.drop _)).mono fun _ _ hc => hc.ext x
def vY (h0 h : Hp) : Prop := ∀ id, h id = h0 id ∨ (∃ own t xs, h0 id = some (.arr own t xs) ∧ h id = some (.arr false t xs)) ∨
 (∃ ver xs, h0 id = some (.mat ver xs) ∧ h id = some (.arr false (.sl (.int .i64)) xs))
theorem vY.refl (h : Hp) : vY h h := fun _ => .inl rfl
theorem zMk {α : Type} {xs : List α} {lo n : Nat} (h : lo + n ≤ xs.length) : (qY xs lo n).length = n := by
 simp only [qY, List.length_take, List.length_drop]; omega
theorem zTu {α : Type} {xs : List α} {lo n i : Nat} (h : i < (qY xs lo n).length) : ∃ h' : lo + i < xs.length, (qY xs lo n)[i] = xs[lo + i] := by
 have : lo + i < xs.length := by simp only [qY, List.length_take, List.length_drop] at h; omega
 exact ⟨this, by simp [qY]⟩
theorem yF5 {H : Array Go.Obj} {G : Nat → Prop} {C : zR} {t : Ty} {xs : List t.den} {lo n : Nat} {v : Value} (hsz : C.sz = t.size) (hn : lo + n ≤ xs.length) (h : vV H C lo n v)
  (hx : match C.blk with
   | none => xs = []
   | some B => G B ∧ ∃ vals e, H[B]? = some (.cells vals e (0, 0)) ∧ ∀ i (h : i < xs.length), zW H G t xs[i] (fun j => vals[i * t.size + j]?)) :
  zW H G (.sl t) (qY xs lo n) (fun _ => some v) := by
 simp only [zW]
 obtain ⟨A, c, rfl, h⟩ := h
 cases hB : C.blk with
 | none =>
  rw [hB] at h hx
  obtain ⟨rfl, rfl, rfl⟩ := h
  subst hx
  exact ⟨none, 0, 0, rfl, by simp [qY], Nat.le_refl _, .inl ⟨by simp [qY], fun _ => rfl⟩⟩
 | some B =>
  rw [hB] at h hx
  obtain ⟨hc, a, rfl, ha, hfit⟩ := h
  obtain ⟨hG, vals, e, hv, hE⟩ := hx
  have hl := zMk hn
  refine ⟨_, n, c, rfl, hl.symm, hc, ?_⟩
  by_cases h0 : n = 0
  ·exact .inl ⟨List.eq_nil_of_length_eq_zero (by omega), fun h => by cases h⟩
  ·refine .inr ⟨B, a, rfl, hG, fun i hi => ?_⟩
   obtain ⟨hi', e1⟩ := zTu hi
   rw [e1]
   have ha' : a = lo * C.sz := by rcases ha with ha | ha <;> omega
   have := hE (lo + i) hi'
   have e2 : (fun j => qW H B (a + i * t.size + j)) = fun j => vals[(lo + i) * t.size + j]? := by
    funext j
    rw [ha', hsz, ← Nat.add_mul]
    simp only [qW, hv]
   rw [e2]
   exact this
theorem yB2 {α : Type} (xs : List α) : qY xs 0 xs.length = xs := by simp [qY]
theorem zIp {M : zA} {t : Ty} {xs : List t.den} {C : zR} {id : Nat} {r : Option (Nat × Nat)} {v : Value} (hC : M.κ id = some C) (hO : yM M (.arr false t xs) C) (h : zV M (.osl id r) v) :
  zW M.H M.G (.sl t) (rng xs r) (fun _ => some v) := by
 obtain ⟨h1, h2, h3, h4⟩ := hO
 obtain ⟨C', hC', h⟩ := h
 rw [hC] at hC'; cases hC'
 have hx : match C.blk with
   | none => xs = []
   | some B => M.G B ∧ ∃ vals e, M.H[B]? = some (.cells vals e (0, 0)) ∧ ∀ i (h : i < xs.length), zW M.H M.G t xs[i] (fun j => vals[i * t.size + j]?) := by
  cases hB : C.blk with
  | none => rw [hB] at h4; exact h4
  | some B =>
   rw [hB] at h4
   obtain ⟨vals, e, h5, h6, h7, h8⟩ := h4
   exact ⟨h6 rfl, vals, e, h5, h8⟩
 cases r with
 | none =>
  have := yF5 (G := M.G) h2 (lo := 0) (n := C.len) (by omega) h hx
  rw [h1, yB2] at this
  exact this
 | some p =>
  obtain ⟨lo, n⟩ := p
  obtain ⟨h5, h6, _⟩ := h
  exact yF5 (G := M.G) h2 (by omega) h6 hx
theorem yHb {M : zA} (ok : Ok M) {id : Nat} {t : Ty} {xs : List t.den} (hid : M.h id = some (.arr true t xs)) :
  ∃ M', M'.H = M.H ∧ M'.h = yC M.h id (.arr false t xs) ∧ Ok M' ∧ yO M M' ∧ M'.κ = M.κ := by
 obtain ⟨C, hC, hO⟩ := ok.obj id _ hid
 have hO' : yM (M.freeze id (.arr false t xs) C) (.arr false t xs) C := by
  have x : yG M (M.freeze id (.arr false t xs) C) := ⟨fun _ C h => ⟨C, h, C.le_refl⟩, fun _ h => .inl h, fun _ h => .inl h, fun _ _ => rfl, fun _ _ => rfl, fun _ _ => rfl⟩
  obtain ⟨h1, h2, h3, h4⟩ := hO.ext x fun _ _ _ => rfl
  refine ⟨h1, h2, fun h => (by cases h), ?_⟩
  cases hB : C.blk with
  | none => rw [hB] at h4; exact h4
  | some B =>
   rw [hB] at h4
   obtain ⟨vals, e, h5, h6, h7, h8⟩ := h4
   exact ⟨vals, e, h5, fun _ => .inr (by simp [zR.fp, hB]), h7, h8⟩
 have := zA.freeze_ok ok hid rfl hC rfl hO'
 exact ⟨M.freeze id _ C, rfl, rfl, this.1, this.2, rfl⟩
theorem yE0 {M : zA} (ok : Ok M) {id : Nat} {t : Ty} {xs : List t.den} (hid : M.h id = some (.arr true t xs)) :
  ∃ M', M'.H = M.H ∧ M'.h = yC M.h id (.arr false t xs) ∧ Ok M' ∧ yO M M' := by
 obtain ⟨M', h1, h2, h3, h4, _⟩ := yHb ok hid
 exact ⟨M', h1, h2, h3, h4⟩
theorem yCu {M : zA} (ok : Ok M) {id : Nat} {ver : Nat} {xs : List (List Int)} (hid : M.h id = some (.mat ver xs)) :
  ∃ M', M'.H = M.H ∧ M'.h = yC M.h id (.arr false (.sl (.int .i64)) xs) ∧ Ok M' ∧ yO M M' ∧ M'.κ = M.κ := by
 obtain ⟨C, hC, hO⟩ := ok.obj id _ hid
 have hO' : yM (M.freeze id (.arr false (.sl (.int .i64)) xs) C) (.arr false (.sl (.int .i64)) xs) C := by
  obtain ⟨h1, h2, h3, h4, h5, h6⟩ := hO
  refine ⟨h2, h3, fun h => (by cases h), ?_⟩
  cases hB : C.blk with
  | none => rw [hB] at h6; exact h6
  | some B =>
   rw [hB] at h6
   obtain ⟨vals, e, h7, h8, h9⟩ := h6
   refine ⟨vals, e, h7, fun _ => .inr (by simp [zR.fp, hB]), by simpa [Ty.size] using h8, fun i hi => ?_⟩
   obtain ⟨rb, v, k1, k2, k3, k4⟩ := h9 i hi
   simp only [zW, Ty.size, Nat.mul_one, Nat.add_zero]
   cases rb with
   | none =>
    obtain ⟨rfl, hl⟩ := k3
    exact ⟨none, 0, 0, k2, hl.symm, Nat.le_refl _, .inl ⟨List.eq_nil_of_length_eq_zero hl, fun _ => rfl⟩⟩
   | some R =>
    obtain ⟨a, c, rfl, hc, ha, hs⟩ := k3
    obtain ⟨rv, er, k5, k6⟩ := k4 R rfl
    by_cases hnil : xs[i] = []
    ·exact ⟨_, _, c, k2, rfl, hc, .inl ⟨hnil, fun h => by cases h⟩⟩
    have ha0 : a = 0 := by
     have : 0 < xs[i].length := List.length_pos_iff.2 hnil
     rcases ha with ha | ha <;> omega
    subst ha0
    refine ⟨_, _, c, k2, rfl, hc, .inr ⟨R, 0, rfl, .inr ?_, fun j hj => ?_⟩⟩
    ·have : (some R, xs[i].length) ∈ C.rows := List.mem_of_getElem? k1
     simp only [zR.fp, List.mem_append, List.mem_filterMap]
     exact .inr ⟨_, this, rfl⟩
    ·have e1 : (M.freeze id (Obj.arr false (.sl (.int .i64)) xs) C).H = M.H := rfl
     simp only [e1, qW, k5, Nat.zero_add]
     exact k6 j hj
 have := zA.freeze_ok ok hid rfl hC rfl hO'
 exact ⟨M.freeze id _ C, rfl, rfl, this.1, this.2, rfl⟩
theorem qTz {M : zA} (ok : Ok M) {id : Nat} {ver : Nat} {xs : List (List Int)} (hid : M.h id = some (.mat ver xs)) :
  ∃ M', M'.H = M.H ∧ M'.h = yC M.h id (.arr false (.sl (.int .i64)) xs) ∧ Ok M' ∧ yO M M' := by
 obtain ⟨M', h1, h2, h3, h4, _⟩ := yCu ok hid
 exact ⟨M', h1, h2, h3, h4⟩
theorem zQm {M : zA} (ok : Ok M) {h0 : Hp} (hf : vY h0 M.h) {c c' : zG} {v : Value} {u : zX} (hc : zV M c v) (h : zC1 h0 c = some (c', u)) :
  ∃ M', M'.H = M.H ∧ M'.h = qE M.h u ∧ Ok M' ∧ yO M M' ∧ zV M' c' v ∧ vY h0 M'.h ∧ (∀ p ∈ u, p.2.owned = false) := by
 have triv : c' = c → u = [] → _ := fun e1 e2 => (⟨M, rfl, by rw [e2]; rfl, ok, yO.refl M, by rw [e1]; exact hc, hf, by simp [e2]⟩ :
  ∃ M', M'.H = M.H ∧ M'.h = qE M.h u ∧ Ok M' ∧ yO M M' ∧ zV M' c' v ∧ vY h0 M'.h ∧ (∀ p ∈ u, p.2.owned = false))
 cases c with
 | osl id r =>
  have key : ∀ (t : Ty) (xs : List t.den), (∀ M', Ok M' → M'.h id = some (.arr false t xs) → zV M' (.osl id r) v → zV M' (.fsl true t (rng xs r)) v) := by
   intro t xs M' ok' hid' hc'
   obtain ⟨C, hC, hO⟩ := ok'.obj id _ hid'
   exact zIp hC hO hc'
  unfold zC1 at h
  simp only at h
  split at h
  ·rename_i own t xs h0id
   cases h
   rcases hf id with e | ⟨o2, t2, xs2, e1, e2⟩ | ⟨ver, xs2, e1, e2⟩
   ·rw [h0id] at e
    cases own with
    | true =>
     obtain ⟨M', h1, h2, ok', st'⟩ := yE0 ok e
     refine ⟨M', h1, h2, ok', st', key t xs M' ok' (by rw [h2]; exact yB _ _ _) (hc.ext st'.ext), fun n => ?_, by simp [Obj.owned]⟩
     by_cases hn : n = id
     ·subst hn
      exact .inr (.inl ⟨true, t, xs, h0id, by rw [h2]; exact yB _ _ _⟩)
     ·rw [h2, yE _ _ hn]; exact hf n
    | false => exact ⟨M, rfl, (zL7 e).symm, ok, yO.refl M, key t xs M ok e hc, hf, by simp [Obj.owned]⟩
   ·rw [h0id] at e1; cases e1
    exact ⟨M, rfl, (zL7 e2).symm, ok, yO.refl M, key t xs M ok e2 hc, hf, by simp [Obj.owned]⟩
   ·rw [h0id] at e1; cases e1
  ·rename_i ver xs h0id
   split at h
   ·cases h
    rcases hf id with e | ⟨o2, t2, xs2, e1, e2⟩ | ⟨ver2, xs2, e1, e2⟩
    ·rw [h0id] at e
     obtain ⟨M', h1, h2, ok', st'⟩ := qTz ok e
     refine ⟨M', h1, h2, ok', st', key (.sl (.int .i64)) xs M' ok' (by rw [h2]; exact yB _ _ _) (hc.ext st'.ext), fun n => ?_, by simp [Obj.owned]⟩
     by_cases hn : n = id
     ·subst hn
      exact .inr (.inr ⟨ver, xs, h0id, by rw [h2]; exact yB _ _ _⟩)
     ·rw [h2, yE _ _ hn]; exact hf n
    ·rw [h0id] at e1; cases e1
    ·rw [h0id] at e1; cases e1
     exact ⟨M, rfl, (zL7 e2).symm, ok, yO.refl M, key (.sl (.int .i64)) xs M ok e2 hc, hf, by simp [Obj.owned]⟩
   ·cases h
  ·cases h
 | mrow _ _ _ => cases h
 | _ => cases h; exact triv rfl rfl
theorem qBm {h0 : Hp} : ∀ {cs cs' : List zG} {vs : List Value} {u : zX} {M : zA}, Ok M → vY h0 M.h → zO (zV M) cs vs → zCf h0 cs = some (cs', u) →
  ∃ M', M'.H = M.H ∧ M'.h = qE M.h u ∧ Ok M' ∧ yO M M' ∧ zO (zV M') cs' vs ∧ vY h0 M'.h ∧ (∀ p ∈ u, p.2.owned = false)
 | [], cs', [], u, M, ok, hf, _, h => by cases h; exact ⟨M, rfl, rfl, ok, yO.refl M, trivial, hf, by simp⟩
 | c :: cs, cs', v :: vs, u, M, ok, hf, hc, h => by
  unfold zCf at h
  split at h
  ·rename_i c1 u1 cs1 us1 e1 e2
   cases h
   obtain ⟨M1, a1, a2, a3, a4, a5, a6, a7⟩ := zQm ok hf hc.1 e1
   obtain ⟨M2, b1, b2, b3, b4, b5, b6, b7⟩ := qBm a3 a6 (hc.2.mono fun _ _ k => k.ext a4.ext) e2
   refine ⟨M2, b1.trans a1, by rw [b2, a2, zBj], b3, a4.trans b4, ⟨a5.ext b4.ext, b5⟩, b6, fun p hp => ?_⟩
   rcases List.mem_append.1 hp with hp | hp
   ·exact a7 p hp
   ·exact b7 p hp
  ·cases h
 | [], _, _ :: _, _, _, _, _, hh, _ => hh.elim
 | _ :: _, _, [], _, _, _, _, hh, _ => hh.elim
theorem zBg {a b : Ty} {xs : List a.den} {ys : List b.den} (h : zAe a b xs = some ys) : ∃ e : a = b, e ▸ xs = ys := by
 unfold zAe at h
 split at h
 ·rename_i he
  have := zMj he
  subst this
  exact ⟨rfl, Option.some.inj h⟩
 ·cases h
theorem zV4 {a b : Nat} (h : Nat.blt a b = true) : a < b := Nat.le_of_ble_eq_true h
theorem yWh {a b : Nat} (h : Nat.blt a b = false) : ¬ a < b := fun hh => by
 have : Nat.blt a b = true := Nat.ble_eq_true_of_le hh
 rw [this] at h; cases h
theorem yJi {k : IntKind} {off : Nat} {c : zG} {n : Int} (h : qC0 k off c = some n) : off = 0 ∧ c = .int k n := by
 unfold qC0 at h
 split at h
 ·rename_i j m
  cases hb : zBm j k with
  | false => rw [hb] at h; cases h
  | true =>
   rw [hb] at h
   have := zG3 hb
   subst this
   cases h
   exact ⟨rfl, rfl⟩
 ·cases h
theorem yAm {off : Nat} {c : zG} {n : Bool} (h : qI0 off c = some n) : off = 0 ∧ c = .bool n := by
 unfold qI0 at h
 split at h
 ·cases h; exact ⟨rfl, rfl⟩
 ·cases h
theorem yBl {t : Ty} {off : Nat} {c : zG} {xs : List t.den} (h : qKs t off c = some xs) : off = 0 ∧ (c = .fsl true t xs ∨ (c = .nsl ∧ xs = [])) := by
 unfold qKs at h
 split at h
 ·rename_i s ys
  obtain ⟨e, h⟩ := zBg h
  subst e
  subst h
  exact ⟨rfl, .inl rfl⟩
 ·cases h; exact ⟨rfl, .inr ⟨rfl, rfl⟩⟩
 ·cases h
theorem yNp {a b : Ty} {p q : (Ty.pair a b).den} {off : Nat} {c : zG} (h : zFa (.pair a b) p off c = some q) :
  (off < a.size ∧ zFa a p.1 off c = some q.1 ∧ q.2 = p.2) ∨ (¬ off < a.size ∧ zFa b p.2 (off - a.size) c = some q.2 ∧ q.1 = p.1) := by
 simp only [zFa] at h
 cases hb : Nat.blt off a.size with
 | true =>
  rw [hb] at h
  simp only [cond_true] at h
  split at h
  ·rename_i x hx
   cases h
   exact .inl ⟨zV4 hb, hx, rfl⟩
  ·cases h
 | false =>
  rw [hb] at h
  simp only [cond_false] at h
  split at h
  ·rename_i x hx
   cases h
   exact .inr ⟨yWh hb, hx, rfl⟩
  ·cases h
theorem yGd : ∀ {t : Ty} {x y : t.den} {off : Nat} {c : zG}, zFa t x off c = some y → off < t.size
 | .int k, x, y, off, c, h => by rw [(yJi h).1]; simp [Ty.size]
 | .bool, x, y, off, c, h => by rw [(yAm h).1]; simp [Ty.size]
 | .sl t, x, y, off, c, h => by rw [(yBl h).1]; simp [Ty.size]
 | .pair a b, x, y, off, c, h => by
  simp only [Ty.size]
  rcases yNp h with ⟨h1, _⟩ | ⟨h1, h2, _⟩
  ·omega
  ·have := yGd h2; omega
theorem zZw {M : zA} : ∀ (t : Ty) (x y : t.den) (off : Nat) (c : zG) (u : Value) (rd rd' : Nat → Option Value), zW M.H M.G t x rd → zFa t x off c = some y → zV M c u →
  rd' off = some u → (∀ j, j ≠ off → j < t.size → rd' j = rd j) → zW M.H M.G t y rd'
 | .int k, x, y, off, c, u, rd, rd', hE, h, hc, hr, hrd => by
  obtain ⟨rfl, rfl⟩ := yJi h
  simp only [zW]
  rw [hr, show u = _ from hc]
 | .bool, x, y, off, c, u, rd, rd', hE, h, hc, hr, hrd => by
  obtain ⟨rfl, rfl⟩ := yAm h
  simp only [zW]
  rw [hr, show u = _ from hc]
 | .sl t, x, y, off, c, u, rd, rd', hE, h, hc, hr, hrd => by
  obtain ⟨rfl, rfl | ⟨rfl, rfl⟩⟩ := yBl h
  ·have hc' : zW M.H M.G (.sl t) y (fun _ => some u) := hc
   refine yL (fun _ h => h) (fun _ _ => rfl) _ _ _ _ (fun j hj => ?_) hc'
   simp only [Ty.size] at hj
   obtain rfl : j = 0 := by omega
   exact hr
  ·simp only [zW]
   exact ⟨none, 0, 0, by rw [hr, show u = _ from hc], rfl, Nat.le_refl _, .inl ⟨by trivial, fun _ => rfl⟩⟩
 | .pair a b, x, y, off, c, u, rd, rd', hE, h, hc, hr, hrd => by
  simp only [zW] at hE ⊢
  simp only [Ty.size] at hrd
  rcases yNp h with ⟨h1, h2, h3⟩ | ⟨h1, h2, h3⟩
  ·refine ⟨zZw a _ _ off c u rd rd' hE.1 h2 hc hr fun j hj hjs => hrd j hj (by omega), ?_⟩
   rw [h3]
   exact yL (fun _ h => h) (fun _ _ => rfl) _ _ _ _ (fun j hj => hrd _ (by omega) (by omega)) hE.2
  ·refine ⟨?_, zZw b _ _ (off - a.size) c u _ _ hE.2 h2 hc (by rw [show off - a.size + a.size = off by omega]; exact hr) fun j hj hjs => hrd _ (by omega) (by omega)⟩
   rw [h3]
   exact yL (fun _ h => h) (fun _ _ => rfl) _ _ _ _ (fun j hj => hrd _ (by omega) (by omega)) hE.1
theorem yKr {t : Ty} : ∀ {vs : List zG} {x y : t.den} {off : Nat}, zEx t x off vs = some y → vs = [] ∨ off + vs.length ≤ t.size
 | [], _, _, _, _ => .inl rfl
 | v :: vs, x, y, off, h => by
  unfold zEx at h
  split at h
  ·rename_i z hz
   have h1 := yGd hz
   rcases yKr h with rfl | h2
   ·exact .inr (by simp only [List.length_cons, List.length_nil]; omega)
   ·exact .inr (by simp only [List.length_cons]; omega)
  ·cases h
theorem qOk {M : zA} (t : Ty) : ∀ (vs : List zG) (us : List Value) (x y : t.den) (off : Nat) (rd rd' : Nat → Option Value), zW M.H M.G t x rd → zEx t x off vs = some y → zO (zV M) vs us →
  (∀ i, i < us.length → rd' (off + i) = us[i]?) → (∀ j, (j < off ∨ off + us.length ≤ j) → j < t.size → rd' j = rd j) → zW M.H M.G t y rd'
 | [], [], x, y, off, rd, rd', hE, h, _, _, hrd => by
  cases h
  exact yL (fun _ h => h) (fun _ _ => rfl) _ _ _ _ (fun j hj => hrd j (by simp; omega) hj) hE
 | v :: vs, u :: us, x, y, off, rd, rd', hE, h, hc, hr, hrd => by
  unfold zEx at h
  split at h
  ·rename_i z hz
   have h1 := zZw t x z off v u rd (fun j => if j = off then some u else rd j) hE hz hc.1 (by simp) (fun j hj _ => by simp [hj])
   refine qOk t vs us z y (off + 1) _ rd' h1 h hc.2 (fun i hi => ?_) (fun j hj hjs => ?_)
   ·have := hr (i + 1) (by simp; omega)
    rw [show off + 1 + i = off + (i + 1) by omega, this]; simp
   ·by_cases e : j = off
    ·subst e
     have := hr 0 (by simp)
     simp at this
     simp [this]
    ·simp only [e, if_false]
     refine hrd j ?_ hjs
     simp only [List.length_cons]
     omega
  ·cases h
 | [], _ :: _, _, _, _, _, _, _, _, hh, _, _ => hh.elim
 | _ :: _, [], _, _, _, _, _, _, _, hh, _, _ => hh.elim
theorem qRj {i k sz j : Nat} (h : i ≠ k) (hj : j < sz) : k * sz + j < i * sz ∨ i * sz + sz ≤ k * sz + j := by
 rcases Nat.lt_or_gt_of_ne h with h | h
 ·have := Nat.mul_le_mul_right sz (show i + 1 ≤ k by omega)
  rw [Nat.add_mul] at this; omega
 ·have := Nat.mul_le_mul_right sz (show k + 1 ≤ i by omega)
  rw [Nat.add_mul] at this; omega
theorem yVy {C : zR} (hn : C.fp.Nodup) {i k : Nat} {R R' : Nat} {a b : Nat} (hi : C.rows[i]? = some (some R, a)) (hk : C.rows[k]? = some (some R', b)) (h : i ≠ k) : R ≠ R' := by
 intro e
 subst e
 have hn2 : (C.rows.filterMap (·.1)).Nodup := (List.nodup_append.1 hn).2.1
 clear hn
 have gen : ∀ (l : List (Option Nat × Nat)) (i k : Nat), i < k → l[i]? = some (some R, a) ∨ l[i]? = some (some R, b) → l[k]? = some (some R, b) ∨ l[k]? = some (some R, a) → (l.filterMap (·.1)).Nodup → False := by
  intro l
  induction l with
  | nil => intro i k _ h1 _ _; simp at h1
  | cons x l ih =>
   intro i k hik h1 h2 hn
   obtain ⟨k, rfl⟩ : ∃ m, k = m + 1 := ⟨k - 1, by omega⟩
   have hmem : R ∈ l.filterMap (·.1) := by
    simp only [List.getElem?_cons_succ] at h2
    rcases h2 with h2 | h2 <;> exact List.mem_filterMap.2 ⟨_, List.mem_of_getElem? h2, rfl⟩
   cases i with
   | zero =>
    simp only [List.getElem?_cons_zero, Option.some.injEq] at h1
    have hx : x.1 = some R := by rcases h1 with h1 | h1 <;> rw [h1]
    rw [List.filterMap_cons_some hx] at hn
    exact (List.nodup_cons.1 hn).1 hmem
   | succ i =>
    simp only [List.getElem?_cons_succ] at h1 h2
    refine ih i k (by omega) h1 h2 ?_
    cases hx : x.1 with
    | none => rwa [List.filterMap_cons_none hx] at hn
    | some y => rw [List.filterMap_cons_some hx] at hn; exact (List.nodup_cons.1 hn).2
 rcases Nat.lt_or_gt_of_ne h with hlt | hlt
 ·exact gen C.rows i k hlt (.inl hi) (.inl hk) hn2
 ·exact gen C.rows k i hlt (.inr hk) (.inr hi) hn2
theorem qDm {C : zR} (hn : C.fp.Nodup) {k R B b : Nat} (hk : C.rows[k]? = some (some R, b)) (hB : C.blk = some B) : R ≠ B := by
 intro e
 subst e
 have := (List.nodup_append.1 hn).2.2 R (by simp [hB]) R (List.mem_filterMap.2 ⟨_, List.mem_of_getElem? hk, rfl⟩)
 exact this rfl
theorem wW {C : zR} {B : Nat} (h : C.blk = some B) : B ∈ C.fp := by simp [zR.fp, h]
theorem yPh {C : zR} {k R b : Nat} (h : C.rows[k]? = some (some R, b)) : R ∈ C.fp := by
 simp only [zR.fp, List.mem_append, List.mem_filterMap]
 exact .inr ⟨_, List.mem_of_getElem? h, rfl⟩
theorem qEv {P : Program} {M : zA} {w : World} (ok : Ok M) (hM : M.H = w.heap) {t : TypeId} {id : Nat} {o o' : Obj} {C : zR} {B off : Nat} {vals : Array Value} {e : TypeId} {rv : Value}
  (hid : M.h id = some o) (hown : o.owned = true) (hC : M.κ id = some C) (hB : B ∈ C.fp) (hb : M.H[B]? = some (.cells vals e (0, 0)))
  (hn : rv.cells.size = P.cellsOf t) (h0 : 0 < P.cellsOf t) (hfit : off + rv.cells.size ≤ vals.size) (h1 : ∀ u ∈ rv.cells.toList, u.one1 = true)
  (hO : ∀ M', M'.κ = κset M.κ id C → M'.F = M.F → M'.G = M.G → yG M M' → M'.H[B]? = some (.cells (yJ vals off rv.cells.toList) e (0, 0)) → (∀ b, b ≠ B → M'.H[b]? = M.H[b]?) → yM M' o' C) :
  zB7 P (storeVar t ⟨B, off, none⟩ rv) M w [(id, o')] := by
 have hb' : w.heap[B]? = some (.cells vals e (0, 0)) := by rw [← hM]; exact hb
 have hr := qAs (P := P) hb' hn h0 hfit h1
 obtain ⟨f1, f2, f3, f4⟩ := zCp hb' (new := yJ vals off rv.cells.toList) (jV (by simpa using hfit))
 have hH : ∀ b, b ∉ C.fp → (w.setRow B (yJ vals off rv.cells.toList)).heap[b]? = M.H[b]? := fun b hbn => by
  rw [hM]; exact f3 b fun e => hbn (e ▸ hB)
 have hbs : ∀ b, b < M.H.size → qR (w.setRow B (yJ vals off rv.cells.toList)).heap b = qR M.H b := fun b _ => by rw [hM]; exact f4 b
 have x := zA.write_ext ok hid hown hC C.le_refl hH hbs o'
 have := zA.write_ok ok hid hown hC C.le_refl (fun _ h => h) (by rw [hM]; exact f1) hH hbs
  (hO (M.write id o' C _) rfl rfl rfl x f2 (fun b hbn => by rw [hM]; exact f3 b hbn))
 exact ⟨_, _, hr, rfl, rfl, rfl, rfl, rfl, this.1, this.2⟩
theorem yUw {P : Program} {M : zA} {w : World} (ok : Ok M) (hM : M.H = w.heap) {t : TypeId} {id off : Nat} {cells cells' vs : List zG} {B : Nat} {C : zR} {rv : Value}
  (hid : M.h id = some (.box true cells)) (hC : M.κ id = some C) (hB : C.blk = some B) (hvs : zO (zV M) vs rv.cells.toList) (hn : vs.length = P.cellsOf t) (h0 : 0 < vs.length)
  (hp : zIj cells off vs = some cells') : zB7 P (storeVar t ⟨B, off, none⟩ rv) M w [(id, .box true cells')] := by
 obtain ⟨C', hC', hO⟩ := ok.obj id _ hid
 rw [hC] at hC'; cases hC'
 obtain ⟨B', vals, e, k1, k2, k3, k4, k5⟩ := hO
 rw [hB] at k1; cases k1
 obtain ⟨p1, p2⟩ := qCy vs cells off cells' hp
 have hl : vs.length = rv.cells.size := by simpa using hvs.length
 have hfit : off + rv.cells.size ≤ vals.size := by
  have := k4.length
  rcases p1 with rfl | p1
  ·simp at h0
  ·simp at this; omega
 refine qEv ok hM hid rfl hC (wW hB) k3 (by omega) (by omega) hfit (qN7 hvs) fun M' _ _ hG x h1 h2 => ?_
 refine ⟨B, _, e, hB, k2, h1, ?_, fun h => (by cases h)⟩
 rw [p2]
 exact qIn x k4 hvs (by simpa using hfit)
theorem vCh {P : Program} {M : zA} {w : World} (ok : Ok M) (hM : M.H = w.heap) {t : TypeId} {id i off : Nat} {ty : Ty} {xs : List ty.den} {x : ty.den} {vs : List zG} {B : Nat} {C : zR} {rv : Value}
  (hid : M.h id = some (.arr true ty xs)) (hC : M.κ id = some C) (hB : C.blk = some B) (hi : i < C.len) (hvs : zO (zV M) vs rv.cells.toList) (hn : vs.length = P.cellsOf t) (h0 : 0 < vs.length)
  (hp : zEx ty (xs.getD i ty.dflt) off vs = some x) : zB7 P (storeVar t ⟨B, i * C.sz + off, none⟩ rv) M w [(id, .arr true ty (xs.set i x))] := by
 obtain ⟨C', hC', hO⟩ := ok.obj id _ hid
 rw [hC] at hC'; cases hC'
 obtain ⟨k1, k2, k3, k4⟩ := hO
 rw [hB] at k4
 obtain ⟨vals, e, k5, k6, k7, k8⟩ := k4
 have hl : vs.length = rv.cells.size := by simpa using hvs.length
 have hoff : off + vs.length ≤ ty.size := by
  rcases yKr hp with rfl | h
  ·simp at h0
  ·exact h
 have hix : i < xs.length := by omega
 have e1 : xs.getD i ty.dflt = xs[i] := by simp [List.getD, hix]
 have hrow := Nat.mul_le_mul_right ty.size (show i + 1 ≤ xs.length by omega)
 rw [Nat.add_mul] at hrow
 have hfit : i * C.sz + off + rv.cells.size ≤ vals.size := by rw [k2]; omega
 refine qEv ok hM hid rfl hC (wW hB) k5 (by omega) (by omega) hfit (qN7 hvs) fun M' _ _ hG xt h1 h2 => ?_
 refine ⟨by rw [List.length_set]; exact k1, k2, k3, ?_⟩
 rw [hB]
 refine ⟨_, e, h1, fun h => (by cases h), by rw [List.length_set, jV (by simpa using hfit)]; exact k7, fun k hk => ?_⟩
 rw [List.length_set] at hk
 have hE' := yL (F := M.G) (F' := M'.G) xt.G xt.sameG ty _ _ _ (fun _ _ => rfl) (k8 k hk)
 by_cases e2 : k = i
 ·subst e2
  simp only [List.getElem_set_self]
  refine qOk ty vs rv.cells.toList xs[k] x off _ _ hE' (by rw [← e1]; exact hp) (hvs.mono fun _ _ h => h.ext xt) (fun j hj => ?_) (fun j hj hjs => ?_)
  ·rw [wJ (by simpa using hfit), if_neg (by rw [k2]; omega), if_pos (by rw [k2]; simp at hj ⊢; omega), k2]
   congr 1; omega
  ·rw [wJ (by simpa using hfit)]
   simp only [Array.length_toList] at hj ⊢
   rw [k2]
   split
   ·rfl
   ·rw [if_neg (by omega)]
 ·rw [List.getElem_set_ne (Ne.symm e2)]
  refine yL (fun _ h => h) (fun _ _ => rfl) ty _ _ _ (fun j hj => ?_) hE'
  rw [wJ (by simpa using hfit)]
  simp only [Array.length_toList]
  rw [k2]
  rcases qRj (Ne.symm e2) hj with h | h
  ·rw [if_pos (by omega)]
  ·rw [if_neg (by omega), if_neg (by omega)]
theorem yZi {P : Program} {M : zA} {w : World} (ok : Ok M) (hM : M.H = w.heap) {t : TypeId} {id i j ver : Nat} {xs : List (List Int)} {n : Int} {R rl : Nat} {C : zR}
  (hid : M.h id = some (.mat ver xs)) (hC : M.κ id = some C) (hR : C.rows[i]? = some (some R, rl)) (hj : j < rl) (hn : 1 = P.cellsOf t) :
  zB7 P (storeVar t ⟨R, j, none⟩ (.int .i64 n)) M w [(id, .mat ver (xs.set i ((xs.getD i []).set j n)))] := by
 obtain ⟨C', hC', hO⟩ := ok.obj id _ hid
 rw [hC] at hC'; cases hC'
 obtain ⟨k1, k2, k3, k4, k5, k6⟩ := hO
 have hi : i < xs.length := by
  rw [← k4]
  rcases Nat.lt_or_ge i C.rows.length with h | h
  ·exact h
  ·rw [List.getElem?_eq_none h] at hR; cases hR
 cases hB : C.blk with
 | none => rw [hB] at k6; subst k6; simp at hi
 | some B =>
  rw [hB] at k6
  obtain ⟨vals, e, k7, k8, k9⟩ := k6
  obtain ⟨rb, v, q1, q2, q3, q4⟩ := k9 i hi
  rw [hR] at q1
  cases q1
  obtain ⟨rv, er, q5, q6⟩ := q4 R rfl
  have hRB : R ≠ B := qDm k5 hR hB
  have hjs : j < rv.size := by
   have := q6 j hj
   rcases Nat.lt_or_ge j rv.size with h | h
   ·exact h
   ·rw [Array.getElem?_eq_none h] at this; cases this
  have e1 : xs.getD i [] = xs[i] := by simp [List.getD, hi]
  refine qEv ok hM hid rfl hC (yPh hR) q5 (by rw [← hn]; rfl) (by omega) (by show j + 1 ≤ rv.size; omega) (by intro u hu; simp [Value.cells] at hu; subst hu; rfl) fun M' _ _ hG x h1 h2 => ?_
  refine ⟨k1, by rw [List.length_set]; exact k2, k3, by rw [List.length_set]; exact k4, k5, ?_⟩
  rw [hB]
  refine ⟨vals, e, by rw [h2 B (Ne.symm hRB)]; exact k7, by rw [List.length_set]; exact k8, fun k hk => ?_⟩
  rw [List.length_set] at hk
  by_cases e2 : k = i
  ·subst e2
   simp only [List.getElem_set_self, e1, List.length_set]
   refine ⟨some R, v, hR, q2, q3.ext x, fun R' hR' => ?_⟩
   cases hR'
   refine ⟨_, er, h1, fun m hm => ?_⟩
   rw [wJ (by show j + 1 ≤ rv.size; omega)]
   show (if m < j then rv[m]? else if m < j + 1 then [Value.int .i64 n][m - j]? else rv[m]?) = _
   by_cases e3 : m = j
   ·subst e3
    rw [if_neg (by omega), if_pos (by omega)]
    simp
   ·rw [List.getElem_set_ne (Ne.symm e3)]
    have := q6 m hm
    split
    ·exact this
    ·rw [if_neg (by omega)]; exact this
  ·rw [List.getElem_set_ne (Ne.symm e2)]
   obtain ⟨rb', v', p1, p2, p3, p4⟩ := k9 k hk
   refine ⟨rb', v', p1, p2, p3.ext x, fun R' hR' => ?_⟩
   subst hR'
   obtain ⟨rv', er', p5, p6⟩ := p4 R' rfl
   exact ⟨rv', er', by rw [h2 R' (yVy k5 p1 hR e2)]; exact p5, p6⟩
theorem zUh {x : Option Nat × Nat} : ∀ (l : List (Option Nat × Nat)) (i : Nat), (l.filterMap (·.1)).Nodup → (∀ R, x.1 = some R → R ∉ l.filterMap (·.1)) →
  ((l.set i x).filterMap (·.1)).Nodup ∧ ∀ y ∈ (l.set i x).filterMap (·.1), y ∈ l.filterMap (·.1) ∨ x.1 = some y
 | [], _, h, _ => ⟨by simp, by simp⟩
 | a :: l, 0, h, hx => by
  have hl : (l.filterMap (·.1)).Nodup := by
   cases ha : a.1 with
   | none => rwa [List.filterMap_cons_none ha] at h
   | some y => rw [List.filterMap_cons_some ha] at h; exact (List.nodup_cons.1 h).2
  have hsub : ∀ y ∈ l.filterMap (·.1), y ∈ (a :: l).filterMap (·.1) := fun y hy => by
   cases ha : a.1 with
   | none => rwa [List.filterMap_cons_none ha]
   | some z => rw [List.filterMap_cons_some ha]; exact List.mem_cons_of_mem _ hy
  simp only [List.set_cons_zero]
  cases hx1 : x.1 with
  | none =>
   rw [List.filterMap_cons_none hx1]
   exact ⟨hl, fun y hy => .inl (hsub y hy)⟩
  | some R =>
   rw [List.filterMap_cons_some hx1]
   refine ⟨List.nodup_cons.2 ⟨fun hR => hx R hx1 (hsub R hR), hl⟩, fun y hy => ?_⟩
   rcases List.mem_cons.1 hy with rfl | hy
   ·exact .inr rfl
   ·exact .inl (hsub y hy)
 | a :: l, i + 1, h, hx => by
  simp only [List.set_cons_succ]
  cases ha : a.1 with
  | none =>
   rw [List.filterMap_cons_none ha] at h hx ⊢
   rw [List.filterMap_cons_none ha]
   exact zUh l i h hx
  | some z =>
   rw [List.filterMap_cons_some ha] at h hx ⊢
   rw [List.filterMap_cons_some ha]
   obtain ⟨h1, h2⟩ := List.nodup_cons.1 h
   obtain ⟨k1, k2⟩ := zUh l i h2 fun R hR hm => hx R hR (List.mem_cons_of_mem _ hm)
   refine ⟨List.nodup_cons.2 ⟨fun hz => ?_, k1⟩, fun y hy => ?_⟩
   ·rcases k2 z hz with hz | hz
    ·exact h1 hz
    ·exact hx z hz (List.mem_cons_self ..)
   ·rcases List.mem_cons.1 hy with rfl | hy
    ·exact .inl (List.mem_cons_self ..)
    ·rcases k2 y hy with hy | hy
     ·exact .inl (List.mem_cons_of_mem _ hy)
     ·exact .inr hy
def zA.absorb (M : zA) (id jd : Nat) (o : Obj) (C : zR) (H : Array Go.Obj) : zA := { M with κ := κset M.κ id C, h := yC (yC M.h jd .gone) id o, H := H }
theorem zA.absorb_ok {M : zA} (ok : Ok M) {id jd : Nat} {o oj o' : Obj} {C Cj C' : zR} {H' : Array Go.Obj} (hne : id ≠ jd) (hid : M.h id = some o) (hown : o.owned = true) (hC : M.κ id = some C)
    (hjd : M.h jd = some oj) (hownj : oj.owned = true) (hCj : M.κ jd = some Cj) (hle : C.le C') (hfp : ∀ b ∈ C'.fp, b ∈ C.fp ∨ b ∈ Cj.fp) (hsz : H'.size = M.H.size)
    (hH : ∀ b, b ∉ C.fp → H'[b]? = M.H[b]?) (hbs : ∀ b, b < M.H.size → qR H' b = qR M.H b)
    (hO : yG M (M.absorb id jd o' C' H') → yM (M.absorb id jd o' C' H') o' C') : Ok (M.absorb id jd o' C' H') ∧ yO M (M.absorb id jd o' C' H') := by
  have hnF : ∀ b, M.F b → b ∉ C.fp := fun b hF hb => (ok.own b ⟨id, o, C, hid, hown, hC, hb⟩).1 hF
  have x : yG M (M.absorb id jd o' C' H') :=
    { κ := fun n D h => by
        by_cases e : n = id
        · subst e
          rw [hC] at h
          cases h
          exact ⟨C', κset_same _ _ _, hle⟩
        · exact ⟨D, by simp only [zA.absorb]; rw [κset_ne _ _ e]; exact h, D.le_refl⟩
      F := fun _ h => h
      G := fun _ h => h
      same := fun b h => hH b (hnF b h)
      sameG := fun b h => hH b (hnF b (ok.GF b h))
      bsz := hbs }
  have hb' : ∀ b ∈ C'.fp, qN M b := fun b hb => by
    rcases hfp b hb with hb | hb
    · exact ⟨id, o, C, hid, hown, hC, hb⟩
    · exact ⟨jd, oj, Cj, hjd, hownj, hCj, hb⟩
  have hget : ∀ n q, n ≠ id → (M.absorb id jd o' C' H').h n = some q → q.owned = true → n ≠ jd ∧ M.h n = some q := by
    intro n q e h1 h2
    simp only [zA.absorb] at h1
    rw [yE _ _ e] at h1
    by_cases e' : n = jd
    · subst e'
      rw [yB] at h1
      cases h1
      cases h2
    · rw [yE _ _ e'] at h1
      exact ⟨e', h1⟩
  have hOwn : ∀ b, qN (M.absorb id jd o' C' H') b → qN M b := by
    rintro b ⟨n, q, D, h1, h2, h3, h4⟩
    by_cases e : n = id
    · subst e
      simp only [zA.absorb, κset_same, Option.some.injEq] at h3
      subst h3
      exact hb' b h4
    · obtain ⟨e', h1'⟩ := hget n q e h1 h2
      simp only [zA.absorb] at h3
      rw [κset_ne _ _ e] at h3
      exact ⟨n, q, D, h1', h2, h3, h4⟩
  refine ⟨ok.build x (fun n => n = id ∨ n = jd) (fun n hn => ?_) (fun n hn => κset_ne _ _ fun e => hn (.inl e)) ?_ ?_ (by simp only [zA.absorb]; omega) ?_ ?_ ?_ ok.GF ?_, x, by simp only [zA.absorb]; omega, ?_, fun b hb _ => hOwn b hb, fun b h _ => .inl h, fun b h _ => .inl h⟩
  · simp only [zA.absorb]
    rw [yE _ _ fun e => hn (.inl e), yE _ _ fun e => hn (.inr e)]
  · intro n q D hn h1 h2 h3 b hb
    exact hH b fun hc => ok.disj n id q o D C b (fun e => hn (.inl e)) h1 hid h2 hown h3 hC hb hc
  · intro n q D hn h1 h2 h3 b hb
    exact (ok.own b ⟨n, q, D, h1, h2, h3, hb⟩).1
  · rintro n q (rfl | rfl) h1
    · simp only [zA.absorb, yB, Option.some.injEq] at h1
      subst h1
      exact ⟨C', κset_same _ _ _, hO x⟩
    · simp only [zA.absorb] at h1
      rw [yE _ _ (Ne.symm hne), yB] at h1
      cases h1
      exact ⟨Cj, by simp only [zA.absorb]; rw [κset_ne _ _ (Ne.symm hne)]; exact hCj, trivial⟩
  · rintro n (rfl | rfl) h1
    · simp only [zA.absorb, yB] at h1
      cases h1
    · simp only [zA.absorb] at h1
      rw [yE _ _ (Ne.symm hne), yB] at h1
      cases h1
  · rintro n q D b (rfl | rfl) h1 h2 h3 hb
    · simp only [zA.absorb, κset_same, Option.some.injEq] at h3
      subst h3
      have hbo := ok.own b (hb' b hb)
      refine ⟨fun j qj Dj hj k1 k2 k3 k4 => ?_, hbo.1, by simp only [zA.absorb]; omega⟩
      obtain ⟨hjd', k1'⟩ := hget j qj hj k1 k2
      simp only [zA.absorb] at k3
      rw [κset_ne _ _ hj] at k3
      rcases hfp b hb with hb | hb
      · exact ok.disj j n qj o Dj C b hj k1' hid k2 hown k3 hC k4 hb
      · exact ok.disj j jd qj oj Dj Cj b hjd' k1' hjd k2 hownj k3 hCj k4 hb
    · simp only [zA.absorb] at h1
      rw [yE _ _ (Ne.symm hne), yB] at h1
      cases h1
      cases h2
  · intro b hb
    have := ok.Flt b hb
    simp only [zA.absorb]; omega
  · intro b hb hn
    exact hH b fun hc => hn ⟨id, o, C, hid, hown, hC, hc⟩
theorem zR5 {M : zA} {t : Ty} {xs : List t.den} {C : zR} (h : yM M (.arr true t xs) C) : C.rows = [] ∧ C.fp = C.blk.toList := by
 have := h.2.2.1 rfl
 exact ⟨this, by simp [zR.fp, this]⟩
theorem qLx {M : zA} {ys : List Int} {C : zR} {jd : Nat} {v : Value} (hC : M.κ jd = some C) (hO : yM M (.arr true (.int .i64) ys) C) (hv : zV M (.osl jd none) v) :
  zB0 M.H C.blk ys.length v ∧ ∀ R, C.blk = some R → ∃ rv er, M.H[R]? = some (.cells rv er (0, 0)) ∧ ∀ j (h' : j < ys.length), rv[j]? = some (.int .i64 ys[j]) := by
 obtain ⟨h1, h2, h3, h4⟩ := hO
 obtain ⟨C', hC', A, c, rfl, h⟩ := hv
 rw [hC] at hC'; cases hC'
 cases hB : C.blk with
 | none =>
  rw [hB] at h
  obtain ⟨rfl, e, rfl⟩ := h
  exact ⟨⟨by rw [e], by omega⟩, fun R hR => by cases hR⟩
 | some B =>
  rw [hB] at h h4
  obtain ⟨hc, a, rfl, ha, hs⟩ := h
  obtain ⟨vals, e, h5, h6, h7, h8⟩ := h4
  refine ⟨⟨a, c, by rw [h1], by omega, by simpa using ha, by simpa [h2, Ty.size] using hs⟩, fun R hR => ?_⟩
  cases hR
  refine ⟨vals, e, h5, fun j hj => ?_⟩
  have := h8 j hj
  simpa [zW, Ty.size] using this
theorem vF7 {P : Program} {M : zA} {w : World} (ok : Ok M) (hM : M.H = w.heap) {t : TypeId} {id jd i ver : Nat} {xs : List (List Int)} {ys : List Int} {B : Nat} {C : zR} {rv : Value}
  (hid : M.h id = some (.mat ver xs)) (hC : M.κ id = some C) (hB : C.blk = some B) (hi : i < C.len) (hjd : M.h jd = some (.arr true (.int .i64) ys)) (hv : zV M (.osl jd none) rv) (hn : 1 = P.cellsOf t) :
  zB7 P (storeVar t ⟨B, i, none⟩ rv) M w [(jd, .gone), (id, .mat (ver + 1) (xs.set i ys))] := by
 obtain ⟨C', hC', hO⟩ := ok.obj id _ hid
 rw [hC] at hC'; cases hC'
 obtain ⟨Cj, hCj, hOj⟩ := ok.obj jd _ hjd
 obtain ⟨jr, jf⟩ := zR5 hOj
 have hne : id ≠ jd := fun e => by rw [e, hjd] at hid; cases hid
 obtain ⟨r1, r2⟩ := qLx hCj hOj hv
 obtain ⟨k1, k2, k3, k4, k5, k6⟩ := hO
 rw [hB] at k6
 obtain ⟨vals, e, k7, k8, k9⟩ := k6
 have hb' : w.heap[B]? = some (.cells vals e (0, 0)) := by rw [← hM]; exact k7
 have hone := hv.one
 have hcells : rv.cells = #[rv] := by cases rv <;> first | rfl | cases hone
 have hfit : i + rv.cells.size ≤ vals.size := by rw [hcells]; show i + 1 ≤ vals.size; omega
 have hfit' : i + rv.cells.toList.length ≤ vals.size := by rw [Array.length_toList]; exact hfit
 have hr := qAs (P := P) (t := t) (off := i) (rv := rv) hb' (by rw [hcells]; exact hn) (by omega) hfit (by intro u hu; rw [hcells] at hu; simp at hu; subst hu; exact hone)
 obtain ⟨f1, f2, f3, f4⟩ := zCp hb' (new := yJ vals i rv.cells.toList) (jV hfit')
 have hdis : ∀ R, Cj.blk = some R → R ∉ C.fp := fun R hR hm => ok.disj id jd _ _ C Cj R hne hid hjd rfl rfl hC hCj hm (wW hR)
 have hnd := List.nodup_append.1 k5
 obtain ⟨s1, s2⟩ := zUh (x := (Cj.blk, ys.length)) C.rows i hnd.2.1 (fun R hR hm => hdis R hR (by simp only [zR.fp, List.mem_append]; exact .inr hm))
 let D : zR := { C with ver := ver + 1, rows := C.rows.set i (Cj.blk, ys.length) }
 have hDfp : ∀ b ∈ D.fp, b ∈ C.fp ∨ b ∈ Cj.fp := fun b hb => by
  simp only [zR.fp, List.mem_append] at hb
  rcases hb with hb | hb
  ·exact .inl (by simp only [zR.fp, List.mem_append]; exact .inl hb)
  ·rcases s2 b hb with hb | hb
   ·exact .inl (by simp only [zR.fp, List.mem_append]; exact .inr hb)
   ·exact .inr (wW hb)
 have hDnd : D.fp.Nodup := by
  refine List.nodup_append.2 ⟨hnd.1, s1, fun a ha b hb e => ?_⟩
  subst e
  rcases s2 a hb with hb | hb
  ·exact hnd.2.2 a ha a hb rfl
  ·exact hdis a hb (by simp only [zR.fp, List.mem_append]; exact .inl ha)
 have hin : i < xs.length := by omega
 have := zA.absorb_ok (H' := (w.setRow B (yJ vals i rv.cells.toList)).heap) (o' := .mat (ver + 1) (xs.set i ys)) (C' := D) ok hne hid rfl hC hjd rfl hCj ⟨rfl, rfl, rfl, by show C.ver ≤ ver + 1; omega, fun e => by have : ver + 1 = C.ver := e; omega⟩ hDfp
  (by rw [hM]; exact f1) (fun b hbn => by rw [hM]; exact f3 b fun e => hbn (e ▸ wW hB)) (fun b _ => by rw [hM]; exact f4 b) (fun x => by
   refine ⟨rfl, by rw [List.length_set]; exact k2, k3, by simp only [D, List.length_set]; exact k4, hDnd, ?_⟩
   have hDB : D.blk = some B := hB
   rw [hDB]
   refine ⟨_, e, f2, by rw [List.length_set, jV hfit']; exact k8, fun k hk => ?_⟩
   rw [List.length_set] at hk
   by_cases e2 : k = i
   ·subst e2
    simp only [List.getElem_set_self]
    refine ⟨Cj.blk, rv, ?_, ?_, r1.ext x, fun R hR => ?_⟩
    ·simp only [D]; rw [List.getElem?_set_self (by omega)]
    ·rw [wJ hfit', if_neg (by omega), if_pos (by rw [hcells]; show k < k + 1; omega), hcells]
     simp
    ·obtain ⟨rv', er, q5, q6⟩ := r2 R hR
     refine ⟨rv', er, ?_, q6⟩
     have : R ≠ B := fun e => hdis R hR (e ▸ wW hB)
     show (w.setRow B _).heap[R]? = _
     rw [f3 R this, ← hM]; exact q5
   ·rw [List.getElem_set_ne (Ne.symm e2)]
    obtain ⟨rb', v', p1, p2, p3, p4⟩ := k9 k hk
    refine ⟨rb', v', ?_, ?_, p3.ext x, fun R' hR' => ?_⟩
    ·simp only [D]; rw [List.getElem?_set_ne (Ne.symm e2)]; exact p1
    ·rw [wJ hfit', hcells]
     show (if k < i then vals[k]? else if k < i + 1 then _ else vals[k]?) = _
     split
     ·exact p2
     ·rw [if_neg (by omega)]; exact p2
    ·subst hR'
     obtain ⟨rv', er', p5, p6⟩ := p4 R' rfl
     refine ⟨rv', er', ?_, p6⟩
     have : R' ≠ B := qDm k5 p1 hB
     show (w.setRow B _).heap[R']? = _
     rw [f3 R' this, ← hM]; exact p5)
 exact ⟨_, _, hr, rfl, rfl, rfl, rfl, rfl, this.1, this.2⟩
theorem ySi {P : Program} {M : zA} {w : World} (ok : Ok M) (hM : M.H = w.heap) {t : TypeId} {id jd ver n : Nat} {xs : List (List Int)} {ys : List Int} {B : Nat} {C : zR} {rv : Value}
  (hid : M.h id = some (.pmat ver xs n)) (hC : M.κ id = some C) (hB : C.blk = some B) (hi : xs.length < C.len) (hjd : M.h jd = some (.arr true (.int .i64) ys)) (hv : zV M (.osl jd none) rv) (hn : 1 = P.cellsOf t) :
  zB7 P (storeVar t ⟨B, xs.length, none⟩ rv) M w [(jd, .gone), (id, .pmat (ver + 1) (xs ++ [ys]) n)] := by
 obtain ⟨C', hC', hO⟩ := ok.obj id _ hid
 rw [hC] at hC'; cases hC'
 obtain ⟨Cj, hCj, hOj⟩ := ok.obj jd _ hjd
 obtain ⟨jr, jf⟩ := zR5 hOj
 have hne : id ≠ jd := fun e => by rw [e, hjd] at hid; cases hid
 obtain ⟨r1, r2⟩ := qLx hCj hOj hv
 obtain ⟨k1, k2, k3, k4, k5, k0, k6⟩ := hO
 rw [hB] at k6
 obtain ⟨vals, e, k7, k8, k9⟩ := k6
 have hb' : w.heap[B]? = some (.cells vals e (0, 0)) := by rw [← hM]; exact k7
 have hone := hv.one
 have hcells : rv.cells = #[rv] := by cases rv <;> first | rfl | cases hone
 have hfit : xs.length + rv.cells.size ≤ vals.size := by rw [hcells]; show xs.length + 1 ≤ vals.size; omega
 have hfit' : xs.length + rv.cells.toList.length ≤ vals.size := by rw [Array.length_toList]; exact hfit
 have hr := qAs (P := P) (t := t) (off := xs.length) (rv := rv) hb' (by rw [hcells]; exact hn) (by omega) hfit (by intro u hu; rw [hcells] at hu; simp at hu; subst hu; exact hone)
 obtain ⟨f1, f2, f3, f4⟩ := zCp hb' (new := yJ vals xs.length rv.cells.toList) (jV hfit')
 have hdis : ∀ R, Cj.blk = some R → R ∉ C.fp := fun R hR hm => ok.disj id jd _ _ C Cj R hne hid hjd rfl rfl hC hCj hm (wW hR)
 have hnd := List.nodup_append.1 k5
 have happ : (C.rows ++ [(Cj.blk, ys.length)]).filterMap (·.1) = C.rows.filterMap (·.1) ++ Cj.blk.toList := by
  rw [List.filterMap_append]
  cases Cj.blk <;> simp
 have s1 : ((C.rows ++ [(Cj.blk, ys.length)]).filterMap (·.1)).Nodup := by
  rw [happ]
  refine List.nodup_append.2 ⟨hnd.2.1, by cases Cj.blk <;> simp, fun x hx y hy e => ?_⟩
  subst e
  have : Cj.blk = some x := by simpa using hy
  exact hdis x this (by simp only [zR.fp, List.mem_append]; exact .inr hx)
 have s2 : ∀ y ∈ (C.rows ++ [(Cj.blk, ys.length)]).filterMap (·.1), y ∈ C.rows.filterMap (·.1) ∨ Cj.blk = some y := fun y hy => by
  rw [happ] at hy
  rcases List.mem_append.1 hy with h | h
  ·exact .inl h
  ·exact .inr (by simpa using h)
 let D : zR := { C with ver := ver + 1, rows := C.rows ++ [(Cj.blk, ys.length)] }
 have hDfp : ∀ b ∈ D.fp, b ∈ C.fp ∨ b ∈ Cj.fp := fun b hb => by
  simp only [zR.fp, List.mem_append] at hb
  rcases hb with hb | hb
  ·exact .inl (by simp only [zR.fp, List.mem_append]; exact .inl hb)
  ·rcases s2 b hb with hb | hb
   ·exact .inl (by simp only [zR.fp, List.mem_append]; exact .inr hb)
   ·exact .inr (wW hb)
 have hDnd : D.fp.Nodup := by
  refine List.nodup_append.2 ⟨hnd.1, s1, fun a ha b hb e => ?_⟩
  subst e
  rcases s2 a hb with hb | hb
  ·exact hnd.2.2 a ha a hb rfl
  ·exact hdis a hb (by simp only [zR.fp, List.mem_append]; exact .inl ha)
 have := zA.absorb_ok (H' := (w.setRow B (yJ vals xs.length rv.cells.toList)).heap) (o' := .pmat (ver + 1) (xs ++ [ys]) n) (C' := D) ok hne hid rfl hC hjd rfl hCj ⟨rfl, rfl, rfl, by show C.ver ≤ ver + 1; omega, fun e => by have : ver + 1 = C.ver := e; omega⟩ hDfp
  (by rw [hM]; exact f1) (fun b hbn => by rw [hM]; exact f3 b fun e => hbn (e ▸ wW hB)) (fun b _ => by rw [hM]; exact f4 b) (fun x => by
   refine ⟨rfl, k2, k3, by simp only [D, List.length_append, k4]; rfl, hDnd, by simp; omega, ?_⟩
   have hDB : D.blk = some B := hB
   rw [hDB]
   refine ⟨_, e, f2, by rw [jV hfit']; exact k8, fun k hk => ?_⟩
   rw [List.length_append, List.length_singleton] at hk
   by_cases e2 : k = xs.length
   ·subst e2
    simp only [List.getElem_concat_length]
    refine ⟨Cj.blk, rv, ?_, ?_, r1.ext x, fun R hR => ?_⟩
    ·simp only [D]; rw [List.getElem?_append_right (by omega), k4]; simp
    ·rw [wJ hfit', if_neg (by omega), if_pos (by rw [hcells]; show xs.length < xs.length + 1; omega), hcells]
     simp
    ·obtain ⟨rv', er, q5, q6⟩ := r2 R hR
     refine ⟨rv', er, ?_, q6⟩
     have : R ≠ B := fun e => hdis R hR (e ▸ wW hB)
     show (w.setRow B _).heap[R]? = _
     rw [f3 R this, ← hM]; exact q5
   ·have hk' : k < xs.length := by omega
    rw [List.getElem_append_left hk']
    obtain ⟨rb', v', p1, p2, p3, p4⟩ := k9 k hk'
    refine ⟨rb', v', ?_, ?_, p3.ext x, fun R' hR' => ?_⟩
    ·simp only [D]; rw [List.getElem?_append_left (by omega)]; exact p1
    ·rw [wJ hfit', hcells]
     show (if k < xs.length then vals[k]? else if k < xs.length + 1 then _ else vals[k]?) = _
     rw [if_pos hk']
     exact p2
    ·subst hR'
     obtain ⟨rv', er', p5, p6⟩ := p4 R' rfl
     refine ⟨rv', er', ?_, p6⟩
     have : R' ≠ B := qDm k5 p1 hB
     show (w.setRow B _).heap[R']? = _
     rw [f3 R' this, ← hM]; exact p5)
 exact ⟨_, _, hr, rfl, rfl, rfl, rfl, rfl, this.1, this.2⟩
theorem zZn (h : Hp) {n : Nat} : ∀ {u : zX}, (u.any fun p => Nat.beq p.1 n) = false → qE h u n = h n
 | [], _ => rfl
 | (id, o) :: u, hu => by
  simp only [List.any_cons, Bool.or_eq_false_iff] at hu
  have : n ≠ id := fun e => by subst e; simp at hu
  show qE (yC h id o) u n = h n
  rw [zZn (yC h id o) hu.2, yE _ _ this]
theorem yPy {P : Program} {M : zA} {w : World} (ok : Ok M) (hM : M.H = w.heap) {t : TypeId} {a v r : zD} {u : zX} {ra rv : Value} (ha : zT M a ra) (hv : zT M v rv)
  (h : yD (zNl P M.h t a v) r u) : r = .undef ∧ zB7 P (Instr.storeAt t ra rv) M w u := by
 unfold zNl at h
 split at h
 ·exact h.elim
 ·rename_i vs hvs
  have hrep := zX2 hvs hv
  cases hb : (Nat.beq vs.length (P.cellsOf t) && Nat.blt 0 vs.length) with
  | false => rw [hb] at h; exact h.elim
  | true =>
   rw [hb] at h
   simp only [cond_true] at h
   simp only [Bool.and_eq_true] at hb
   have hn := Nat.eq_of_beq_eq_true hb.1
   have h0 := zV4 hb.2
   split at h
   ·rename_i id off
    split at h
    ·rename_i cells hid
     split at h
     ·rename_i cells' hp
      obtain ⟨_, rfl, rfl⟩ := jZ h
      obtain ⟨C, B, hC, hB, rfl⟩ := ha
      refine ⟨rfl, ?_⟩
      have := yUw (P := P) ok hM (t := t) hid hC hB hrep hn h0 hp
      simpa [Instr.storeAt, zB7, zBc] using this
     ·exact h.elim
    ·exact h.elim
   ·rename_i id i off
    split at h
    ·rename_i ty xs vs' u' hid hfz
     split at h
     ·rename_i x hp
      cases hu : (u'.any fun p => Nat.beq p.1 id) with
      | true => rw [hu] at h; exact h.elim
      | false =>
      rw [hu] at h
      obtain ⟨_, rfl, rfl⟩ := jZ h
      refine ⟨rfl, ?_⟩
      obtain ⟨M1, a1, a2, a3, a4, a5, a6, a7⟩ := qBm ok (vY.refl _) hrep hfz
      obtain ⟨C, B, hC, hB, hi, hra⟩ := zV.ext (c := .eptr id i off) a4.ext ha
      have hid1 : M1.h id = some (.arr true ty xs) := by rw [a2, zZn M.h hu]; exact hid
      have hl1 := a5.length
      have hl2 := hrep.length
      obtain ⟨w', M', b1, b2, b3, b4, b5, b6, b7, b8⟩ := vCh (P := P) a3 (a1.trans hM) (t := t) hid1 hC hB hi a5 (by omega) (by omega) hp
      subst hra
      exact ⟨w', M', by simpa [Instr.storeAt, zBc] using b1, b2, b3, b4, b5, by rw [b6, a2, zBj], b7, a4.trans b8⟩
     ·exact h.elim
    ·exact h.elim
   ·rename_i id i
    split at h
    ·rename_i ver xs jd hid
     split at h
     ·rename_i ys hjd
      obtain ⟨_, rfl, rfl⟩ := jZ h
      obtain ⟨C, B, hC, hB, hi, rfl⟩ := ha
      refine ⟨rfl, ?_⟩
      have := vF7 (P := P) ok hM (t := t) hid hC hB hi hjd hv (by cases hvs; exact hn)
      simpa [Instr.storeAt, zB7, zBc] using this
     ·exact h.elim
    ·rename_i ver xs n jd hid
     split at h
     ·rename_i ys hjd
      obtain ⟨hix, rfl, rfl⟩ := jZ h
      obtain ⟨C, B, hC, hB, hi, rfl⟩ := ha
      have hix := Nat.eq_of_beq_eq_true hix
      subst hix
      refine ⟨rfl, ?_⟩
      have := ySi (P := P) ok hM (t := t) hid hC hB hi hjd hv (by cases hvs; exact hn)
      simpa [Instr.storeAt, zB7, zBc] using this
     ·exact h.elim
    ·exact h.elim
   ·rename_i id i j ver
    split at h
    ·rename_i v' xs n hid
     cases hv' : Nat.beq v' ver with
     | false => rw [hv'] at h; exact h.elim
     | true =>
     rw [hv'] at h
     have e := Nat.eq_of_beq_eq_true hv'
     subst e
     obtain ⟨_, rfl, rfl⟩ := jZ h
     obtain ⟨C, hC, h1, hle, hm⟩ := ha
     obtain ⟨C', hC', hO⟩ := ok.obj _ _ hid
     rw [hC] at hC'; cases hC'
     obtain ⟨R, rl, k1, k2, rfl⟩ := hm hO.1
     refine ⟨rfl, ?_⟩
     have hv2 : rv = .int .i64 n := hv
     subst hv2
     have := yZi (P := P) ok hM (t := t) (n := n) hid hC k1 k2 (by cases hvs; exact hn)
     simpa [Instr.storeAt, zB7, zBc] using this
    ·exact h.elim
   ·exact h.elim
theorem jT {c : Bool} {s : yA} {v : zD} {u : zX} (h : yD (bif c then s else .stuck) v u) : c = true ∧ yD s v u := by
 cases c with
 | true => exact ⟨rfl, h⟩
 | false => exact h.elim
theorem zYn {c : Bool} {s : yA} {v : zD} {u : zX} (h : yD (bif c then .stuck else s) v u) : c = false ∧ yD s v u := by
 cases c with
 | false => exact ⟨rfl, h⟩
 | true => exact h.elim
theorem zWl {a b : Nat} (h : Nat.beq a b = false) : a ≠ b := fun e => by subst e; simp at h
theorem zJg {i : Int} {n : Nat} (h : zE i n = true) : 0 ≤ i ∧ i < n ∧ i.toNat < n := by
 simp only [zE, Bool.and_eq_true, decide_eq_true_eq] at h
 omega
theorem zPi {i : Int} {mk : Nat → zG} : ∀ {n j : Nat} {v : zD} {u : zX}, zX1 (zNh i mk j n) v u → ∃ k, j ≤ k ∧ k < j + n ∧ i = (k : Int) ∧ v = .c (mk k) ∧ u = []
 | 0, _, _, _, h => h.elim
 | n + 1, j, v, u, h => by
  rcases h with ⟨h1, h2, h3⟩ | ⟨_, h⟩
  ·exact ⟨j, Nat.le_refl _, by omega, of_decide_eq_true h1, h2, h3⟩
  ·obtain ⟨k, k1, k2, k3⟩ := zPi h
   exact ⟨k, by omega, by omega, k3⟩
theorem yRg {P : Program} {M : zA} {w : World} (ok : Ok M) (hM : M.H = w.heap) {s : TypeId} {a v : zD} {f : Nat} {u : zX} {ra : Value} (ha : zT M a ra)
  (h : yD (qIj P s a f) v u) : qI P (Instr.fieldAt s ra f) M w v u := by
 unfold qIj at h
 split at h
 ·rename_i fs hs
  split at h
  ·rename_i fd hf
   obtain ⟨hz, h⟩ := zYn h
   have hz := zWl hz
   obtain ⟨i, hi⟩ := zDr (P := P) (t := fd.type) (by omega)
   have hr : ∀ B o, (Instr.fieldAt s (.pointer (some ⟨B, o, none⟩)) f).run P w = .ok (.pointer (some ⟨B, o + fd.offset, none⟩)) w := by
    intro B o
    simp [Instr.fieldAt, run_underlying hs, hf, zBc, fieldPlace, zAu w hi, hz, Addr.add_lit]
   split at h
   ·obtain ⟨rfl, rfl⟩ := vL h
    obtain ⟨C, B, hC, hB, rfl⟩ := ha
    exact qI.pure ok hM (hr _ _) ⟨C, B, hC, hB, rfl⟩
   ·obtain ⟨rfl, rfl⟩ := vL h
    obtain ⟨C, B, hC, hB, hi, rfl⟩ := ha
    exact qI.pure ok hM (hr _ _) ⟨C, B, hC, hB, hi, by rw [Nat.add_assoc]⟩
   ·obtain ⟨rfl, rfl⟩ := vL h
    obtain ⟨B, o, rfl, hB, hE⟩ := ha
    exact qI.pure ok hM (hr _ _) ⟨B, o, by rw [Nat.add_assoc], hB, hE⟩
   ·exact h.elim
  ·exact h.elim
 ·exact h.elim
theorem zOn {P : Program} {w : World} {t e : TypeId} {A : Option Addr} {n c : Nat} {k : IntKind} {i : Int} {B o : Nat} (hu : P.underlying t = some (.slice e)) (h0 : 0 ≤ i) (h1 : i < n) (he : 0 < P.cellsOf e)
  (hA : A = some ⟨B, o, none⟩) : (Instr.indexAt t (.slice A n c) (.int k i)).run P w = .ok (.pointer (some ⟨B, o + i.toNat * P.cellsOf e, none⟩)) w := by
 obtain ⟨x, hx⟩ := zDr he
 subst hA
 simp [Instr.indexAt, asIntOf, run_underlying hu, h0, h1, zAu w hx, Addr.add_lit]
theorem yYz {P : Program} {M : zA} {w : World} (ok : Ok M) (hM : M.H = w.heap) {t : TypeId} {x i v : zD} {u : zX} {rx ri : Value} (hx : zT M x rx) (hi : zT M i ri)
  (h : yD (zNi P M.h t x i) v u) : qI P (Instr.indexAt t rx ri) M w v u := by
 unfold zNi at h
 split at h
 ·rename_i e c k n hu
  have hri : ri = .int k n := hi
  subst hri
  split at h
  ·rename_i sh ty xs
   obtain ⟨hz, h⟩ := jT h
   have hz := Nat.eq_of_beq_eq_true hz
   obtain ⟨hb, rfl, rfl⟩ := zCk h
   obtain ⟨b0, b1, b2⟩ := zJg hb
   have hx' : zW M.H (bif sh then M.G else M.F) (.sl ty) xs (fun _ => some rx) := hx
   simp only [zW, Option.some.injEq] at hx'
   obtain ⟨A, m, c, rfl, rfl, hc, hx'⟩ := hx'
   rcases hx' with ⟨rfl, _⟩ | ⟨B, o, rfl, hB, hE⟩
   ·simp at b2
   ·refine qI.pure ok hM (zOn hu b0 b1 (by rw [hz]; exact ty.size_pos) rfl) ⟨B, o + n.toNat * P.cellsOf e, rfl, hB, ?_⟩
    have e1 : xs.getD n.toNat ty.dflt = xs[n.toNat] := by simp [List.getD, b2]
    rw [e1, hz]
    exact hE _ b2
  ·rename_i id r
   split at h
   ·rename_i own ty xs hid
    obtain ⟨hz, h⟩ := jT h
    have hz := Nat.eq_of_beq_eq_true hz
    obtain ⟨C, hC, hS⟩ := hx
    obtain ⟨C', hC', hO⟩ := ok.obj _ _ hid
    rw [hC] at hC'; cases hC'
    have hlen := hO.1
    have hsz := hO.2.1
    have key : ∀ lo m, lo + m ≤ C.len → vV M.H C lo m rx → 0 ≤ n → n < (m : Int) → ∃ B, C.blk = some B ∧ (Instr.indexAt t rx (.int k n)).run P w = .ok (.pointer (some ⟨B, (lo + n.toNat) * C.sz + 0, none⟩)) w := by
     intro lo m hm hS' n0 n1
     clear hS
     obtain ⟨A, c, rfl, hS⟩ := hS'
     cases hB : C.blk with
     | none => rw [hB] at hS; obtain ⟨_, rfl, _⟩ := hS; omega
     | some B =>
      rw [hB] at hS
      obtain ⟨hc, a, hA, ha, _⟩ := hS
      refine ⟨B, rfl, ?_⟩
      rw [zOn hu n0 n1 (by rw [hz]; exact ty.size_pos) hA]
      have : a = lo * C.sz := by rcases ha with ha | ha <;> omega
      rw [this, hz, hsz, Nat.add_mul]; rfl
    split at h
    ·obtain ⟨hb, rfl, rfl⟩ := zCk h
     obtain ⟨b0, b1, b2⟩ := zJg hb
     obtain ⟨B, hB, hr⟩ := key 0 C.len (by omega) hS b0 (by omega)
     rw [Nat.zero_add] at hr
     exact qI.pure ok hM hr ⟨C, B, hC, hB, by omega, rfl⟩
    ·obtain ⟨hb, rfl, rfl⟩ := zCk h
     obtain ⟨b0, b1, b2⟩ := zJg hb
     obtain ⟨B, hB, hr⟩ := key _ _ hS.1 hS.2.1 b0 b1
     exact qI.pure ok hM hr ⟨C, B, hC, hB, by have := hS.1; omega, rfl⟩
   ·rename_i ver xs hid
    obtain ⟨hz, h⟩ := jT h
    have hz := Nat.eq_of_beq_eq_true hz
    split at h
    ·obtain ⟨hb, rfl, rfl⟩ := zCk h
     obtain ⟨b0, b1, b2⟩ := zJg hb
     obtain ⟨C, hC, hS⟩ := hx
     obtain ⟨C', hC', hO⟩ := ok.obj _ _ hid
     rw [hC] at hC'; cases hC'
     have hlen := hO.2.1
     obtain ⟨A, c, rfl, hS⟩ := hS
     cases hB : C.blk with
     | none => rw [hB] at hS; obtain ⟨_, h0, _⟩ := hS; omega
     | some B =>
      rw [hB] at hS
      obtain ⟨hc, a, hA, ha, _⟩ := hS
      have : a = 0 := by rcases ha with ha | ha <;> omega
      have hr := zOn (P := P) (w := w) (c := c) (k := k) hu b0 (show n < (C.len : Int) by omega) (by omega) hA
      rw [this, hz, Nat.zero_add, Nat.mul_one] at hr
      exact qI.pure ok hM hr ⟨C, B, hC, hB, by omega, rfl⟩
    ·exact h.elim
   ·rename_i ver xs m hid
    obtain ⟨hz, h⟩ := jT h
    have hz := Nat.eq_of_beq_eq_true hz
    split at h
    ·obtain ⟨hb, rfl, rfl⟩ := zCk h
     obtain ⟨b0, b1, b2⟩ := zJg hb
     obtain ⟨C, hC, hS⟩ := hx
     obtain ⟨C', hC', hO⟩ := ok.obj _ _ hid
     rw [hC] at hC'; cases hC'
     have hlen := hO.2.1
     obtain ⟨A, c, rfl, hS⟩ := hS
     cases hB : C.blk with
     | none => rw [hB] at hS; obtain ⟨_, h0, _⟩ := hS; omega
     | some B =>
      rw [hB] at hS
      obtain ⟨hc, a, hA, ha, _⟩ := hS
      have : a = 0 := by rcases ha with ha | ha <;> omega
      have hr := zOn (P := P) (w := w) (c := c) (k := k) hu b0 (show n < (C.len : Int) by omega) (by omega) hA
      rw [this, hz, Nat.zero_add, Nat.mul_one] at hr
      exact qI.pure ok hM hr ⟨C, B, hC, hB, by omega, rfl⟩
    ·exact h.elim
   ·exact h.elim
  ·rename_i id j ver
   obtain ⟨hz, h⟩ := jT h
   have hz := Nat.eq_of_beq_eq_true hz
   split at h
   ·rename_i v' xs hid
    obtain ⟨hv, h⟩ := jT h
    have hv := Nat.eq_of_beq_eq_true hv
    subst hv
    obtain ⟨hb, rfl, rfl⟩ := zCk h
    obtain ⟨b0, b1, b2⟩ := zJg hb
    obtain ⟨C, hC, h1, hle, hm⟩ := hx
    obtain ⟨C', hC', hO⟩ := ok.obj _ _ hid
    rw [hC] at hC'; cases hC'
    obtain ⟨rb, rl, k1, k2⟩ := hm hO.1
    have hj : j < xs.length := by
     rw [← hO.2.2.2.1]
     rcases Nat.lt_or_ge j C.rows.length with h | h
     ·exact h
     ·rw [List.getElem?_eq_none h] at k1; cases k1
    obtain ⟨B, rb', x', q0, qv, q1, q2, q3, q4⟩ := zJm hO hj
    rw [k1] at q1
    cases q1
    have e1 : xs.getD j [] = xs[j] := by simp [List.getD, hj]
    rw [e1] at b1 b2
    cases rb with
    | none => obtain ⟨_, h0⟩ := k2; omega
    | some R =>
     obtain ⟨a, c, rfl, hc, ha, _⟩ := k2
     have : a = 0 := by rcases ha with ha | ha <;> omega
     subst this
     have hr := zOn (P := P) (w := w) (c := c) (k := k) (A := some ⟨R, 0, none⟩) hu b0 b1 (by omega) rfl
     rw [hz, Nat.zero_add, Nat.mul_one] at hr
     exact qI.pure ok hM hr ⟨C, hC, rfl, hle, fun _ => ⟨R, _, k1, b2, rfl⟩⟩
   ·exact h.elim
  ·exact h.elim
 ·rename_i m e id off k n hu
  have hri : ri = .int k n := hi
  subst hri
  obtain ⟨hz, h⟩ := zYn h
  have hz := zWl hz
  obtain ⟨j, j1, j2, rfl, rfl, rfl⟩ := zPi h
  obtain ⟨C, B, hC, hB, rfl⟩ := hx
  obtain ⟨y, hy⟩ := zDr (P := P) (t := e) (by omega)
  refine qI.pure ok hM (rv := .pointer (some ⟨B, off + j * P.cellsOf e, none⟩)) ?_ ⟨C, B, hC, hB, rfl⟩
  have : (j : Int) < m := by omega
  have h' : ¬ m ≤ j := by omega
  simp [Instr.indexAt, asIntOf, run_underlying hu, zBc, this, h', zAu w hy, Addr.add_lit]
 ·rename_i m e id q off k n hu
  have hri : ri = .int k n := hi
  subst hri
  obtain ⟨hz, h⟩ := zYn h
  have hz := zWl hz
  obtain ⟨j, j1, j2, rfl, rfl, rfl⟩ := zPi h
  obtain ⟨C, B, hC, hB, hq, rfl⟩ := hx
  obtain ⟨y, hy⟩ := zDr (P := P) (t := e) (by omega)
  refine qI.pure ok hM (rv := .pointer (some ⟨B, _ + j * P.cellsOf e, none⟩)) ?_ ⟨C, B, hC, hB, hq, by rw [Nat.add_assoc]⟩
  have : (j : Int) < m := by omega
  have h' : ¬ m ≤ j := by omega
  simp [Instr.indexAt, asIntOf, run_underlying hu, zBc, this, h', zAu w hy, Addr.add_lit]
 ·rename_i m e sh t x off k n hu
  have hri : ri = .int k n := hi
  subst hri
  obtain ⟨hz, h⟩ := zYn h
  have hz := zWl hz
  obtain ⟨j, j1, j2, rfl, rfl, rfl⟩ := zPi h
  obtain ⟨B, o, rfl, hB, hE⟩ := hx
  obtain ⟨y, hy⟩ := zDr (P := P) (t := e) (by omega)
  refine qI.pure ok hM (rv := .pointer (some ⟨B, _ + j * P.cellsOf e, none⟩)) ?_ ⟨B, o, by rw [Nat.add_assoc], hB, hE⟩
  have : (j : Int) < m := by omega
  have h' : ¬ m ≤ j := by omega
  simp [Instr.indexAt, asIntOf, run_underlying hu, zBc, this, h', zAu w hy, Addr.add_lit]
 ·exact h.elim
theorem qTd {M : zA} {cs : List zG} {us : Array Value} {off n : Nat} {vs : List zG} (h : zO (zV M) cs us.toList) (hc : zB3 cs off n = some vs) : zO (zV M) vs (us.extract off (off + n)).toList := by
 obtain ⟨h1, rfl, h2⟩ := zO0 hc
 have := (h.drop off).take n
 rw [Array.toList_extract, List.extract_eq_take_drop]
 simpa using this
theorem qQf {P : Program} {M : zA} {w : World} {t : TypeId} {cs : List zG} {us : Array Value} {off : Nat} {vs : List zG} {v : zD} (h : zO (zV M) cs us.toList)
  (hc : zB3 cs off (P.cellsOf t) = some vs) (hp : zEo (zAn P t) vs = some v) : ∃ rv, (part t us off).run P w = .ok rv w ∧ zT M v rv := by
 have hall := qTd h hc
 obtain ⟨h1, h2, h3⟩ := zO0 hc
 have hl := h.length
 rcases qA8 hp with ⟨hagg, rfl⟩ | ⟨hagg, c, rfl, rfl⟩
 ·obtain ⟨⟨d, hd⟩, hr⟩ := zM2 (P := P) w hagg
  obtain ⟨i, hi⟩ := yOa hd
  exact ⟨.agg (us.extract off (off + P.cellsOf t)), by simp [part, hr, zAu w hi], _, rfl, hall⟩
 ·obtain ⟨⟨d, hd⟩, hr⟩ := zM2 (P := P) w hagg
  simp only [List.length_singleton] at h3
  have hlt : off < us.size := by simp at hl; omega
  have hlc : off < cs.length := by omega
  refine ⟨us[off], by simp [part, hr, hlt], ?_⟩
  have e : cs[off] = c := by
   have := congrArg (·[0]?) h2
   simp only [List.getElem?_cons_zero] at this
   rw [← h3, List.getElem?_take, if_pos (by omega), List.getElem?_drop, Nat.add_zero, List.getElem?_eq_getElem hlc] at this
   exact (Option.some.inj this).symm
  have := h.get off hlc (by simpa using hlt)
  rw [e] at this
  show zV M c us[off]
  simpa using this
theorem yP6 {P : Program} {M : zA} {w : World} (ok : Ok M) (hM : M.H = w.heap) {s : TypeId} {x v : zD} {f : Nat} {u : zX} {rx : Value} (hx : zT M x rx)
  (h : yD (qMp P s x f) v u) : qI P (Instr.field s rx f) M w v u := by
 unfold qMp at h
 split at h
 ·rename_i fs cs hs
  split at h
  ·rename_i fd hf
   split at h
   ·rename_i vs hc
    obtain ⟨h', rfl⟩ := qE1 h
    obtain ⟨us, rfl, hus⟩ := hx
    obtain ⟨rv, hr, hv⟩ := qQf (P := P) (w := w) hus hc h'
    exact qI.pure ok hM (by simp [Instr.field, run_underlying hs, hf, asAgg, hr]) hv
   ·exact h.elim
  ·exact h.elim
 ·exact h.elim
theorem vC1 {P : Program} {M : zA} {w : World} (ok : Ok M) (hM : M.H = w.heap) {t : TypeId} {x i v : zD} {u : zX} {rx ri : Value} (hx : zT M x rx) (hi : zT M i ri)
  (h : yD (qA7 P t x i) v u) : qI P (Instr.index t rx ri) M w v u := by
 unfold qA7 at h
 split at h
 ·rename_i m e cs k n hu
  have hri : ri = .int k n := hi
  subst hri
  obtain ⟨hc, h⟩ := jT h
  simp only [Bool.and_eq_true] at hc
  obtain ⟨⟨c1, c2⟩, c3⟩ := hc
  have c1 := Nat.eq_of_beq_eq_true c1
  have c3 := Nat.eq_of_beq_eq_true c3
  obtain ⟨j, j1, j2, rfl, rfl, rfl⟩ := zPi h
  obtain ⟨us, rfl, hus⟩ := hx
  have hagg : zAn P e = some false := by
   split at c2
   ·rename_i e1; exact e1
   ·cases c2
  have hj : j < cs.length := by omega
  have hcut : zB3 cs j (P.cellsOf e) = some [cs[j]] := by
   unfold zB3
   have : Nat.ble (j + P.cellsOf e) cs.length = true := Nat.ble_eq_true_of_le (by omega)
   rw [this, c1]
   simp [List.take_one, List.head?_drop, hj]
  obtain ⟨rv, hr, hv⟩ := qQf (P := P) (w := w) hus hcut (v := .c cs[j]) (by rw [hagg]; rfl)
  obtain ⟨y, hy⟩ := zDr (P := P) (t := e) (by omega)
  have hjm : (j : Int) < m := by omega
  refine qI.pure ok hM (rv := rv) ?_ ?_
  ·have h' : ¬ m ≤ j := by omega
   simp [Instr.index, asIntOf, run_underlying hu, hjm, h', zAu w hy, c1, hr]
  ·have : cs.getD j .undef = cs[j] := by simp [List.getD, hj]
   rw [this]; exact hv
 ·exact h.elim
theorem yNs (a b : Bool) : zG5 a b = (a == b) := by cases a <;> cases b <;> rfl
theorem yRo {P : Program} {M : zA} {w : World} (ok : Ok M) (hM : M.H = w.heap) {op : BinOp} {k : IntKind} {x y : Int} {xt : TypeId} {v : zD} {u : zX} (hs : op ≠ .shl ∧ op ≠ .shr)
  (h : yD (yG9 op k x y) v u) : qI P (binOp op xt (.int k x) (.int k y)) M w v u := by
 cases op with
 | shl => exact absurd rfl hs.1
 | shr => exact absurd rfl hs.2
 | quo =>
  obtain ⟨h1, rfl, rfl⟩ := zCk h
  simp only [Bool.not_eq_true', decide_eq_false_iff_not] at h1
  exact qI.pure ok hM (rv := .int k (k.wrap (x.tdiv y))) (by simp [binOp, Op.intDiv, h1]) rfl
 | rem =>
  obtain ⟨h1, rfl, rfl⟩ := zCk h
  simp only [Bool.not_eq_true', decide_eq_false_iff_not] at h1
  exact qI.pure ok hM (rv := .int k (x.tmod y)) (by simp [binOp, Op.intDiv, h1]) rfl
 | neq =>
  obtain ⟨rfl, rfl⟩ := vL h
  exact qI.pure ok hM (rv := .bool (!decide (x = y))) (by simp [binOp, Op.intCmp, bne, BEq.beq]) rfl
 | eql =>
  obtain ⟨rfl, rfl⟩ := vL h
  exact qI.pure ok hM (rv := .bool (decide (x = y))) (by simp [binOp, Op.intCmp, BEq.beq]) rfl
 | _ =>
  obtain ⟨rfl, rfl⟩ := vL h
  exact qI.pure ok hM (rv := _) (by simp only [binOp, ne_eq, not_true_eq_false, if_false]; rfl) rfl
theorem qS1 {P : Program} {M : zA} {w : World} (ok : Ok M) (hM : M.H = w.heap) {op : BinOp} {k j : IntKind} {x y : Int} {xt : TypeId} {v : zD} {u : zX} (hs : op = .shl ∨ op = .shr)
  (h : yD (yM1 op k x y) v u) : qI P (binOp op xt (.int k x) (.int j y)) M w v u := by
 rcases hs with rfl | rfl
 ·obtain ⟨h1, rfl, rfl⟩ := zCk h
  simp only [Bool.not_eq_true', decide_eq_false_iff_not] at h1
  exact qI.pure ok hM (rv := .int k (k.wrap (x * 2 ^ (min y.toNat k.bits)))) (by simp only [binOp, Op.shift, h1, if_false]; rfl) rfl
 ·obtain ⟨h1, rfl, rfl⟩ := zCk h
  simp only [Bool.not_eq_true', decide_eq_false_iff_not] at h1
  exact qI.pure ok hM (rv := .int k (x.fdiv (2 ^ (min y.toNat k.bits)))) (by simp only [binOp, Op.shift, h1, if_false]; rfl) rfl
def zSz (P : Program) (eqT : TypeId → Bool) : Prop := ∀ t, eqT t = true → ∀ (M : zA) (xs ys : List zG) (us vs : Array Value) (r : Bool) (w : World), qFl P t xs ys = some r →
 zO (zV M) xs us.toList → zO (zV M) ys vs.toList → P.eqGuardType P.depth t = false ∧ (Op.equal t (.agg us) (.agg vs)).run P w = .ok r w
theorem qT4 {P : Program} {t : TypeId} (h : zYh P t = true) : P.underlying t = some .bool := by
 unfold zYh at h
 split at h
 ·rename_i e; exact e
 ·cases h
theorem yTl {P : Program} {eqT : TypeId → Bool} (heq : zSz P eqT) {M : zA} {w : World} (ok : Ok M) (hM : M.H = w.heap) {op : BinOp} {xt : TypeId} {ox oy : Operand} {x y v : zD} {u : zX} {rx ry : Value}
  (hx : zT M x rx) (hy : zT M y ry) (h : yD (qF6 P eqT op xt ox oy x y) v u) : qI P (do eqGuard op xt ox oy rx ry; binOp op xt rx ry) M w v u := by
 have quiet : ∀ {k j : IntKind} {a b : Int}, (eqGuard op xt ox oy (.int k a) (.int j b)).run P w = .ok () w := by
  intro k j a b
  unfold eqGuard
  split <;> rfl
 have step : ∀ {a b : Value}, (eqGuard op xt ox oy a b).run P w = .ok () w → qI P (binOp op xt a b) M w v u → qI P (do eqGuard op xt ox oy a b; binOp op xt a b) M w v u := by
  rintro a b hg ⟨rv, w', M', h1, h2⟩
  exact ⟨rv, w', M', by simp only [Sem.run_bind, hg, Result.andThen_ok]; exact h1, h2⟩
 unfold qF6 at h
 split at h
 ·have e1 : rx = _ := hx
  have e2 : ry = _ := hy
  subst e1; subst e2
  exact step quiet (qS1 ok hM (.inl rfl) h)
 ·have e1 : rx = _ := hx
  have e2 : ry = _ := hy
  subst e1; subst e2
  exact step quiet (qS1 ok hM (.inr rfl) h)
 ·rename_i k a j b n1 n2
  obtain ⟨hk, h2⟩ := jT h
  have hk := zG3 hk
  subst hk
  have e1 : rx = _ := hx
  have e2 : ry = _ := hy
  subst e1; subst e2
  exact step quiet (yRo ok hM ⟨fun e => n1 e, fun e => n2 e⟩ h2)
 ·rename_i a b
  have e1 : rx = _ := hx
  have e2 : ry = _ := hy
  subst e1; subst e2
  obtain ⟨hb, h2⟩ := jT h
  obtain ⟨rfl, rfl⟩ := vL h2
  have hr := run_equalIn_bool' (P := P) w 9999 xt a b (qT4 hb)
  refine qI.pure ok hM (rv := .bool (zG5 a b)) ?_ rfl
  have hr' : (Op.equal xt (.bool a) (.bool b)).run P w = .ok (a == b) w := hr
  have hg : (eqGuard .eql xt ox oy (.bool a) (.bool b)).run P w = .ok () w := by unfold eqGuard; rfl
  simp only [Sem.run_bind, hg, Result.andThen_ok, binOp, hr', Sem.run_pure, yNs]
 ·rename_i a b
  have e1 : rx = _ := hx
  have e2 : ry = _ := hy
  subst e1; subst e2
  obtain ⟨hb, h2⟩ := jT h
  obtain ⟨rfl, rfl⟩ := vL h2
  have hr := run_equalIn_bool' (P := P) w 9999 xt a b (qT4 hb)
  refine qI.pure ok hM (rv := .bool (!zG5 a b)) ?_ rfl
  have hr' : (Op.equal xt (.bool a) (.bool b)).run P w = .ok (a == b) w := hr
  have hg : (eqGuard .neq xt ox oy (.bool a) (.bool b)).run P w = .ok () w := by unfold eqGuard; rfl
  simp only [Sem.run_bind, hg, Result.andThen_ok, binOp, hr', Sem.run_pure, yNs]
 ·rename_i a b
  have e1 : rx = _ := hx
  have e2 : ry = _ := hy
  subst e1; subst e2
  obtain ⟨rfl, rfl⟩ := vL h
  have hg : (eqGuard .eql xt ox oy (.string ⟨(zB2 a).toArray⟩) (.string ⟨(zB2 b).toArray⟩)).run P w = .ok () w := by unfold eqGuard; rfl
  refine qI.pure ok hM (rv := .bool (zPk a b)) ?_ rfl
  simp only [Sem.run_bind, hg, Result.andThen_ok, binOp_string_eql, ByteArray.toList_eq, Sem.run_pure]
  rfl
 ·rename_i a b
  have e1 : rx = _ := hx
  have e2 : ry = _ := hy
  subst e1; subst e2
  obtain ⟨rfl, rfl⟩ := vL h
  have hg : (eqGuard .neq xt ox oy (.string ⟨(zB2 a).toArray⟩) (.string ⟨(zB2 b).toArray⟩)).run P w = .ok () w := by unfold eqGuard; rfl
  refine qI.pure ok hM (rv := .bool (!zPk a b)) ?_ rfl
  simp only [Sem.run_bind, hg, Result.andThen_ok, binOp_string_neq, ByteArray.toList_eq, Sem.run_pure]
  rfl
 ·obtain ⟨ht, h⟩ := jT h
  split at h
  ·rename_i r hr
   obtain ⟨rfl, rfl⟩ := vL h
   obtain ⟨us, rfl, hus⟩ := hx
   obtain ⟨vs, rfl, hvs⟩ := hy
   obtain ⟨g1, g2⟩ := heq xt ht M _ _ us vs r w hr hus hvs
   exact step (run_eqGuard_agg w _ xt ox oy us vs g1) (qI.pure ok hM (rv := .bool r) (by simp only [binOp, Sem.run_bind, g2, Result.andThen_ok]; rfl) rfl)
  ·exact h.elim
 ·obtain ⟨ht, h⟩ := jT h
  split at h
  ·rename_i r hr
   obtain ⟨rfl, rfl⟩ := vL h
   obtain ⟨us, rfl, hus⟩ := hx
   obtain ⟨vs, rfl, hvs⟩ := hy
   obtain ⟨g1, g2⟩ := heq xt ht M _ _ us vs r w hr hus hvs
   exact step (run_eqGuard_agg w _ xt ox oy us vs g1) (qI.pure ok hM (rv := .bool (!r)) (by simp only [binOp, Sem.run_bind, g2, Result.andThen_ok]; rfl) rfl)
  ·exact h.elim
 ·exact h.elim
theorem vGb {P : Program} {M : zA} {w : World} (ok : Ok M) (hM : M.H = w.heap) {op : UnOp} {x v : zD} {u : zX} {rx : Value} (hx : zT M x rx) (h : yD (unS op x) v u) :
  qI P (Op.unary op rx) M w v u := by
 unfold unS at h
 split at h
 ·obtain ⟨rfl, rfl⟩ := vL h
  have e1 : rx = _ := hx
  subst e1
  exact qI.pure ok hM rfl rfl
 ·obtain ⟨rfl, rfl⟩ := vL h
  have e1 : rx = _ := hx
  subst e1
  exact qI.pure ok hM rfl rfl
 ·exact h.elim
end Go.Ab
