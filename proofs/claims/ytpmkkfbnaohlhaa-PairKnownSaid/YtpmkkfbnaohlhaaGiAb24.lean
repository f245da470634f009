/- Calls by data: what a caller hands over is read alone; what it gets is new, or is written no more. -/
import Derived.Test.YtpmkkfbnaohlhaaGiAb23
set_option linter.unusedVariables false
set_option linter.unusedSimpArgs false
set_option linter.unusedSectionVars false
namespace Go.Ab

/-! ### What is handed over -/
/-- A cell: a number, a bool, data (it may be kept), a function without captures. -/
inductive PC where
  | int (k : IntKind) | bool | dat (sh : Bool) (t : Ty) | fn (f : Nat)

abbrev PC.den : PC → Type
  | .int _ => Int | .bool => Bool | .dat _ t => List t.den | .fn _ => Unit

abbrev PL : List PC → Type
  | [] => Unit
  | p :: l => p.den × PL l

/-- An argument: a cell, cells, a pointer to a box, a function with boxes that it captures. -/
inductive AS where
  | c (p : PC) | agg (l : List PC) | ptr (l : List PC) | fn (f : Nat) (caps : List (List PC))

def AS.cells : AS → List PC
  | .c p => [p]
  | .agg l => l
  | .ptr l => l
  | .fn _ caps => caps.flatten

abbrev AD (l : List AS) : Type := PL (l.flatMap AS.cells)

/-- What a slice reads, of a type. -/
def dataOf (h : Hp) (t : Ty) : CVal → Option (List t.den)
  | .nsl => some []
  | c => match readSl h c with
    | some ⟨s, xs⟩ => castL s t xs
    | none => none

def inP (h : Hp) : (p : PC) → CVal → Option p.den
  | .int k, .int j n => bif kindEq j k then some n else none
  | .bool, .bool b => some b
  | .dat false t, c => dataOf h t c
  | .dat true t, .fsl true s xs => castL s t xs
  | .dat true t, .nsl => some []
  | .fn f, .fn g [] => bif Nat.beq f g then some () else none
  | _, _ => none

def inL (h : Hp) : (l : List PC) → List CVal → Option (PL l)
  | [], [] => some ()
  | p :: l, c :: cs => match inP h p c, inL h l cs with
    | some d, some ds => some (d, ds)
    | _, _ => none
  | _, _ => none

def boxOf (h : Hp) (id : Nat) : Option (List CVal) := match h id with
  | some (.box _ cells) => some cells
  | some (.robox cells) => some cells
  | _ => none

/-- The cells of boxes, one behind the other, if they are so many. -/
def boxesOf (h : Hp) : List (List PC) → List Nat → Option (List CVal)
  | [], [] => some []
  | l :: ls, id :: ids => match boxOf h id, boxesOf h ls ids with
    | some cells, some rest => bif Nat.beq cells.length l.length then some (cells ++ rest) else none
    | _, _ => none
  | _, _ => none

def AS.get (h : Hp) : AS → AVal → Option (List CVal)
  | .c _, .c x => some [x]
  | .agg l, .agg xs => bif Nat.beq xs.length l.length then some xs else none
  | .ptr l, .c (.ptr id 0) => boxesOf h [l] [id]
  | .fn f caps, .c (.fn g ids) => bif Nat.beq f g then boxesOf h caps ids else none
  | _, _ => none

def getAll (h : Hp) : List AS → List AVal → Option (List CVal)
  | [], [] => some []
  | s :: l, a :: as => match s.get h a, getAll h l as with
    | some cs, some rest => some (cs ++ rest)
    | _, _ => none
  | _, _ => none

/-- The data of a call. -/
def inA (h : Hp) (l : List AS) (as : List AVal) : Option (AD l) := match getAll h l as with
  | some cs => inL h (l.flatMap AS.cells) cs
  | none => none

/-- As the function sees it. -/
def absP : (p : PC) → p.den → CVal
  | .int k, n => .int k n
  | .bool, b => .bool b
  | .dat sh t, xs => .fsl sh t xs
  | .fn f, _ => .fn f []

def absL : (l : List PC) → PL l → List CVal
  | [], _ => []
  | p :: l, d => absP p d.1 :: absL l d.2

def cutAll : List (List PC) → List CVal → List (List CVal)
  | [], _ => []
  | l :: ls, cs => cs.take l.length :: cutAll ls (cs.drop l.length)

/-- An argument out of its cells, its boxes behind so many others. -/
def AS.mk (n : Nat) (cs : List CVal) : AS → AVal
  | .c _ => match cs with | x :: _ => .c x | [] => .undef
  | .agg _ => .agg cs
  | .ptr _ => .c (.ptr n 0)
  | .fn f caps => .c (.fn f ((List.range caps.length).map (n + ·)))

def AS.boxes (cs : List CVal) : AS → List (List CVal)
  | .ptr _ => [cs]
  | .fn _ caps => cutAll caps cs
  | _ => []

def mkArgs : List AS → List CVal → Nat → List AVal × List (List CVal)
  | [], _, _ => ([], [])
  | s :: l, cs, n =>
    let mine := cs.take s.cells.length
    let bs := s.boxes mine
    let rest := mkArgs l (cs.drop s.cells.length) (n + bs.length)
    (s.mk n mine :: rest.1, bs ++ rest.2)

def boxHp (bs : List (List CVal)) : Hp := fun n => match bs[n]? with
  | some cells => some (.robox cells)
  | none => none

def absArgs (l : List AS) (d : AD l) : List AVal × Hp :=
  let r := mkArgs l (absL (l.flatMap AS.cells) d) 0
  (r.1, boxHp r.2)

/-! ### What comes back -/
inductive RC where
  | int (k : IntKind) | bool | fro (t : Ty) | own (t : Ty) | mat
  /-- so many rows, which are not told -/
  | jun
  | map

abbrev RC.den : RC → Type
  | .int _ => Int | .bool => Bool | .fro t => List t.den | .own t => List t.den | .mat => List (List Int) | .jun => Nat | .map => List (Int × Bool)

abbrev RL : List RC → Type
  | [] => Unit
  | r :: l => r.den × RL l

inductive RS where
  | c (r : RC) | agg (l : List RC) | tup (l : List (Bool × List RC))

def RS.cells : RS → List RC
  | .c r => [r]
  | .agg l => l
  | .tup l => l.flatMap (·.2)

def getComps : List (Bool × List RC) → List (Bool × List CVal) → Option (List CVal)
  | [], [] => some []
  | (b, l) :: ls, (g, cs) :: rest => bif (bif b then g else !g && Nat.beq cs.length 1) && Nat.beq cs.length l.length then (match getComps ls rest with
      | some r => some (cs ++ r)
      | none => none) else none
  | _, _ => none

def RS.get : RS → AVal → Option (List CVal)
  | .c _, .c x => some [x]
  | .agg l, .agg xs => bif Nat.beq xs.length l.length then some xs else none
  | .tup l, .tup xs => getComps l xs
  | _, _ => none

def mkComps : List (Bool × List RC) → List CVal → List (Bool × List CVal)
  | [], _ => []
  | (b, l) :: ls, cs => (b, cs.take l.length) :: mkComps ls (cs.drop l.length)

def RS.mk (cs : List CVal) : RS → AVal
  | .c _ => match cs with | x :: _ => .c x | [] => .undef
  | .agg _ => .agg cs
  | .tup l => .tup (mkComps l cs)

/-- Cells that may be kept, by their flags, are written no more. -/
def frzW (h : Hp) : List Bool → List CVal → Option (List CVal × Upd)
  | true :: l, c :: cs => match frzC h c, frzW h l cs with
    | some (c, u), some (cs, us) => some (c :: cs, u ++ us)
    | _, _ => none
  | false :: l, c :: cs => match frzW h l cs with
    | some (cs, us) => some (c :: cs, us)
    | none => none
  | _, cs => some (cs, [])

def RC.isFro : RC → Bool
  | .fro _ => true
  | _ => false

def PC.isKept : PC → Bool
  | .dat true _ => true
  | _ => false

def outR (h : Hp) : (r : RC) → CVal → Option r.den
  | .int k, .int j n => bif kindEq j k then some n else none
  | .bool, .bool b => some b
  | .fro t, .fsl true s xs => castL s t xs
  | .fro t, .nsl => some []
  | .own t, .osl id none => match h id with
    | some (.arr true s xs) => castL s t xs
    | _ => none
  | .own t, .osl id (some (0, n)) => match h id with
    | some (.arr true s xs) => castL s t (xs.take n)
    | _ => none
  | .own t, .nsl => some []
  | .mat, .osl id none => match h id with
    | some (.mat _ xs) => some xs
    | some (.pmat _ xs n) => bif Nat.beq xs.length n then some xs else none
    | _ => none
  | .mat, .nsl => some []
  | .jun, .osl id none => match h id with
    | some (.arr true (.sl (.int .i64)) xs) => some xs.length
    | _ => none
  | .jun, .nsl => some 0
  | .map, .map id => match h id with
    | some (.imap kvs) => some kvs
    | _ => none
  | _, _ => none

def outRL (h : Hp) : (l : List RC) → List CVal → Option (RL l)
  | [], [] => some ()
  | r :: l, c :: cs => match outR h r c, outRL h l cs with
    | some d, some ds => some (d, ds)
    | _, _ => none
  | _, _ => none

/-- The objects that come back as the caller's own. -/
def ownIds : List RC → List CVal → List Nat
  | .own _ :: l, .osl id _ :: cs => id :: ownIds l cs
  | .mat :: l, .osl id _ :: cs => id :: ownIds l cs
  | .jun :: l, .osl id _ :: cs => id :: ownIds l cs
  | .map :: l, .map id :: cs => id :: ownIds l cs
  | _ :: l, _ :: cs => ownIds l cs
  | _, _ => []

/-- The data of a result. -/
def outA (h : Hp) (s : RS) (v : AVal) : Option (RL s.cells) := match s.get v with
  | some cs => match frzW h (s.cells.map RC.isFro) cs with
    | some (cs, u) => bif noDup (ownIds s.cells cs) then outRL (happly h u) s.cells cs else none
    | none => none
  | none => none

/-- The same, in a form of one's own. -/
def outM (rs : RS) {X : Type} (unpack : RL rs.cells → X) (v : AVal) (st : St) : Option X := match outA st.h rs v with
  | some d => some (unpack d)
  | none => none

/-- As the caller gets it. -/
def gotR (nm : Nat) : (r : RC) → r.den → CVal × Upd
  | .int k, n => (.int k n, [])
  | .bool, b => (.bool b, [])
  | .fro t, xs => (.fsl true t xs, [])
  | .own t, xs => (.osl nm none, [(nm, .arr true t xs)])
  | .mat, xs => (.osl nm none, [(nm, .mat 0 xs)])
  | .jun, n => (.osl nm none, [(nm, .pmat 0 [] n)])
  | .map, kvs => (.map nm, [(nm, .imap kvs)])

def gotL (nm : Nat) : (l : List RC) → RL l → List CVal × Upd
  | [], _ => ([], [])
  | r :: l, d =>
    let x := gotR nm r d.1
    let y := gotL (nm + 1) l d.2
    (x.1 :: y.1, x.2 ++ y.2)

def gotA (nm : Nat) (s : RS) (d : RL s.cells) : AVal × Upd :=
  let r := gotL nm s.cells d
  (s.mk r.1, r.2)

def freeN (h : Hp) : Nat → Nat → Bool
  | _, 0 => true
  | nm, n + 1 => (match h nm with | none => true | some _ => false) && freeN h (nm + 1) n

/-- What may be kept of the arguments is written no more. -/
def frzS (h : Hp) : AS → AVal → Option (AVal × Upd)
  | .c p, .c x => match frzW h [p.isKept] [x] with
    | some ([x], u) => some (.c x, u)
    | _ => none
  | .agg l, .agg xs => match frzW h (l.map PC.isKept) xs with
    | some (xs, u) => some (.agg xs, u)
    | none => none
  | _, a => some (a, [])

def frzA (h : Hp) : List AS → List AVal → Option (List AVal × Upd)
  | s :: l, a :: as => match frzS h s a, frzA h l as with
    | some (a, u), some (as, us) => some (a :: as, u ++ us)
    | _, _ => none
  | _, as => some (as, [])

/-- What is known of a function that is called by data. -/
def entry (as : List AS) (rs : RS) {X : Type} (S : AD as → Option X) (pack : X → RL rs.cells) (nm : Nat) (args : List AVal) (h : Hp) : Sres :=
  match frzA h as args with
  | none => .stuck
  | some (args, u) => match inA (happly h u) as args with
    | some d => bif freeN h nm rs.cells.length && Nat.ble rs.cells.length 100 then .call X (S d) (fun r => ((gotA nm rs (pack r)).1, u ++ (gotA nm rs (pack r)).2)) else .stuck
    | none => .stuck
end Go.Ab
