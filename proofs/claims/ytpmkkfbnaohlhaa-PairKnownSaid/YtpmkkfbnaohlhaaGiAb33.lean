/- Calls that hand over boxes: what the callee writes comes back. Definitions. -/
import Derived.Test.YtpmkkfbnaohlhaaGiAb32
set_option linter.unusedVariables false
set_option linter.unusedSimpArgs false
set_option linter.unusedSectionVars false
namespace Go.Ab

/-- A cell of a box that is handed over: data; a row, rows, a map of its own. -/
inductive XC where
  | p (c : PC) | own (t : Ty) | mat | map

abbrev XC.den : XC → Type
  | .p c => c.den | .own t => List t.den | .mat => List (List Int) | .map => List (Int × Bool)

abbrev XL : List XC → Type
  | [] => Unit
  | c :: l => c.den × XL l

/-- An argument; boxes that it points to, or captures: are they handed over to be written? -/
inductive AX where
  | c (x : XC) | agg (l : List PC) | ptr (io : Bool) (l : List XC) | fn (f : Nat) (caps : List (Bool × List XC))

def AX.cells : AX → List XC
  | .c x => [x]
  | .agg l => l.map .p
  | .ptr _ l => l
  | .fn _ caps => caps.flatMap (·.2)

abbrev XD (l : List AX) : Type := XL (l.flatMap AX.cells)

/-- Is it looked at again in the end? -/
def AX.looks : AX → Bool
  | .ptr _ _ => true
  | .fn _ _ => true
  | _ => false

def looksBelow (l : List AX) (na : Nat) : Bool := l.zipIdx.all fun p => !p.1.looks || Nat.blt p.2 na

def boxX (h : Hp) (io : Bool) (id : Nat) : Option (List CVal) := match io, h id with
  | true, some (.box true cells) => some cells
  | false, some (.box _ cells) => some cells
  | false, some (.robox cells) => some cells
  | _, _ => none

def boxesX (h : Hp) : List (Bool × List XC) → List Nat → Option (List CVal × List (Bool × Nat))
  | [], [] => some ([], [])
  | (io, l) :: ls, id :: ids => match boxX h io id, boxesX h ls ids with
    | some cells, some (rest, bs) => bif Nat.beq cells.length l.length then some (cells ++ rest, (io, id) :: bs) else none
    | _, _ => none
  | _, _ => none

/-- An argument's cells; the boxes, one behind the other. -/
def AX.get (h : Hp) : AX → AVal → Option (List CVal × List (Bool × Nat))
  | .c _, .c x => some ([x], [])
  | .agg l, .agg xs => bif Nat.beq xs.length l.length then some (xs, []) else none
  | .ptr io l, .c (.ptr id 0) => boxesX h [(io, l)] [id]
  | .fn f caps, .c (.fn g ids) => bif Nat.beq f g then boxesX h caps ids else none
  | _, _ => none

def getAllX (h : Hp) : List AX → List AVal → Option (List CVal × List (Bool × Nat))
  | [], [] => some ([], [])
  | s :: l, a :: as => match s.get h a, getAllX h l as with
    | some (cs, bs), some (cs', bs') => some (cs ++ cs', bs ++ bs')
    | _, _ => none
  | _, _ => none

def inX (h : Hp) : (x : XC) → CVal → Option x.den
  | .p p, c => inP h p c
  | .own t, .osl id none => match h id with
    | some (.arr true s xs) => castL s t xs
    | _ => none
  | .mat, .osl id none => match h id with
    | some (.mat _ xs) => some xs
    | _ => none
  | .map, .map id => match h id with
    | some (.imap kvs) => some kvs
    | _ => none
  | _, _ => none

def inXL (h : Hp) : (l : List XC) → List CVal → Option (XL l)
  | [], [] => some ()
  | x :: l, c :: cs => match inX h x c, inXL h l cs with
    | some d, some ds => some (d, ds)
    | _, _ => none
  | _, _ => none

/-- Rows and maps that are handed over. -/
def rowIds : List XC → List CVal → List Nat
  | .p _ :: l, _ :: cs => rowIds l cs
  | _ :: l, .osl id _ :: cs => id :: rowIds l cs
  | _ :: l, .map id :: cs => id :: rowIds l cs
  | _ :: l, _ :: cs => rowIds l cs
  | _, _ => []

/-- What is read as data alone. -/
def datIds : List XC → List CVal → List Nat
  | .p _ :: l, c :: cs => idsC c ++ datIds l cs
  | _ :: l, _ :: cs => datIds l cs
  | _, _ => []

def rowBase : Nat := 500

/-- As the callee sees it: cells; rows, from one name on. -/
def absXL : (l : List XC) → XL l → Nat → List CVal × List Obj
  | [], _, _ => ([], [])
  | .p p :: l, d, n => let r := absXL l d.2 n; (absP p d.1 :: r.1, r.2)
  | .own t :: l, d, n => let r := absXL l d.2 (n + 1); (.osl n none :: r.1, .arr true t d.1 :: r.2)
  | .mat :: l, d, n => let r := absXL l d.2 (n + 1); (.osl n none :: r.1, .mat 0 d.1 :: r.2)
  | .map :: l, d, n => let r := absXL l d.2 (n + 1); (.map n :: r.1, .imap d.1 :: r.2)

def cutX : List (Bool × List XC) → List CVal → List Obj
  | [], _ => []
  | (io, l) :: ls, cs => (bif io then .box true (cs.take l.length) else .robox (cs.take l.length)) :: cutX ls (cs.drop l.length)

def AX.mk (n : Nat) (cs : List CVal) : AX → AVal
  | .c _ => match cs with | x :: _ => .c x | [] => .undef
  | .agg _ => .agg cs
  | .ptr _ _ => .c (.ptr n 0)
  | .fn f caps => .c (.fn f ((List.range caps.length).map (n + ·)))

def AX.boxes (cs : List CVal) : AX → List Obj
  | .ptr io l => cutX [(io, l)] cs
  | .fn _ caps => cutX caps cs
  | _ => []

def mkX : List AX → List CVal → Nat → List AVal × List Obj
  | [], _, _ => ([], [])
  | s :: l, cs, n =>
    let mine := cs.take s.cells.length
    let bs := s.boxes mine
    let rest := mkX l (cs.drop s.cells.length) (n + bs.length)
    (s.mk n mine :: rest.1, bs ++ rest.2)

def objHp (bs rows : List Obj) : Hp := fun n => bif Nat.ble rowBase n then rows[n - rowBase]? else bs[n]?

def absArgsX (l : List AX) (d : XD l) : List AVal × Hp :=
  let r := absXL (l.flatMap AX.cells) d rowBase
  let m := mkX l r.1 0
  (m.1, objHp m.2 r.2)

/-! ### What comes back -/
/-- The boxes that were handed over to be written, by the names that they have in the end. -/
def pickIo : List (Bool × List XC) → List Nat → Option (List Nat)
  | [], [] => some []
  | (io, _) :: ls, id :: ids => match pickIo ls ids with
    | some l => some (bif io then id :: l else l)
    | none => none
  | _, _ => none

def AX.io : AX → AVal → Option (List Nat)
  | .c _, _ => some []
  | .agg _, _ => some []
  | .ptr io l, .c (.ptr id 0) => pickIo [(io, l)] [id]
  | .fn _ caps, .c (.fn _ ids) => pickIo caps ids
  | _, _ => none

def ioAll : List AX → (Nat → AVal) → Nat → Option (List Nat)
  | [], _, _ => some []
  | s :: l, t, n => match s.io (t n), ioAll l t (n + 1) with
    | some a, some b => some (a ++ b)
    | _, _ => none

/-- The cells of boxes, so many each. -/
def boxCells (h : Hp) : List (List RC) → List Nat → Option (List CVal)
  | [], [] => some []
  | o :: os, n :: ns => match h n, boxCells h os ns with
    | some (.box true cells), some rest => bif Nat.beq cells.length o.length then some (cells ++ rest) else none
    | _, _ => none
  | _, _ => none

def outX (st : St) (as : List AX) (rs : RS) (os : List (List RC)) (v : AVal) : Option (RL (rs.cells ++ os.flatten)) :=
  match ioAll as st.t 0 with
  | none => none
  | some ids => match rs.get v, boxCells st.h os ids with
    | some cs, some bs => bif noDup ids then (match frzW st.h ((rs.cells ++ os.flatten).map RC.isFro) (cs ++ bs) with
      | some (cs, u) => bif noDup (ownIds (rs.cells ++ os.flatten) cs) then outRL (happly st.h u) (rs.cells ++ os.flatten) cs else none
      | none => none) else none
    | _, _ => none

def outXM (as : List AX) (rs : RS) (os : List (List RC)) {X : Type} (unpack : RL (rs.cells ++ os.flatten) → X) (v : AVal) (st : St) : Option X := match outX st as rs os v with
  | some d => some (unpack d)
  | none => none

def cutR : List (List RC) → List CVal → List (List CVal)
  | [], _ => []
  | o :: os, cs => cs.take o.length :: cutR os (cs.drop o.length)

def ioIds : List (Bool × Nat) → List Nat
  | [] => []
  | (true, id) :: l => id :: ioIds l
  | (false, _) :: l => ioIds l

def roIds : List (Bool × Nat) → List Nat
  | [] => []
  | (true, _) :: l => roIds l
  | (false, id) :: l => id :: roIds l

def boxUpd : List Nat → List (List CVal) → Upd
  | id :: ids, cs :: css => (id, .box true cs) :: boxUpd ids css
  | _, _ => []

def goneUpd (ids : List Nat) : Upd := ids.map fun id => (id, .gone)

def gotX (nm : Nat) (rs : RS) (os : List (List RC)) (ids : List Nat) (d : RL (rs.cells ++ os.flatten)) : AVal × Upd :=
  let r := gotL nm (rs.cells ++ os.flatten) d
  (rs.mk (r.1.take rs.cells.length), r.2 ++ boxUpd ids (cutR os (r.1.drop rs.cells.length)))

def apartL (a b : List Nat) : Bool := a.all fun x => !b.any (Nat.beq x)

/-- What may be kept of the arguments is written no more. -/
def frzX (h : Hp) : AX → AVal → Option (AVal × Upd)
  | .c (.p p), .c x => match frzW h [p.isKept] [x] with
    | some ([x], u) => some (.c x, u)
    | _ => none
  | .agg l, .agg xs => match frzW h (l.map PC.isKept) xs with
    | some (xs, u) => some (.agg xs, u)
    | none => none
  | _, a => some (a, [])

def frzAX (h : Hp) : List AX → List AVal → Option (List AVal × Upd)
  | s :: l, a :: as => match frzX h s a, frzAX h l as with
    | some (a, u), some (as, us) => some (a :: as, u ++ us)
    | _, _ => none
  | _, as => some (as, [])

/-- What is known of a function that is handed boxes. -/
def entryX (as : List AX) (rs : RS) (os : List (List RC)) {X : Type} (S : XD as → Option X) (pack : X → RL (rs.cells ++ os.flatten)) (nm : Nat) (args : List AVal) (h : Hp) : Sres :=
  match frzAX h as args with
  | none => .stuck
  | some (args, u) => match getAllX (happly h u) as args with
    | none => .stuck
    | some (cs, bs) => match inXL (happly h u) (as.flatMap AX.cells) cs with
      | none => .stuck
      | some d =>
        let rows := rowIds (as.flatMap AX.cells) cs
        let mine := ioIds bs ++ rows
        bif freeN h nm (rs.cells ++ os.flatten).length && Nat.ble (rs.cells ++ os.flatten).length 100 && Nat.ble bs.length rowBase && noDup mine && apartL mine (datIds (as.flatMap AX.cells) cs) && apartL mine (roIds bs) then
          .call X (S d) (fun r => ((gotX nm rs os (ioIds bs) (pack r)).1, u ++ (goneUpd rows ++ (gotX nm rs os (ioIds bs) (pack r)).2)))
        else .stuck
end Go.Ab
