/- Shallow functions, printed (abprint.py). -/
import Derived.Test.YtpmkkfbnaohlhaaGiXSa
set_option linter.unusedVariables false
set_option maxRecDepth 100000
namespace Go.Ab.Gi

def girolaw21_ring_L0b (k : Nat) (rec : Int → Int → List (Int × Int × Int × Int × Int × Int × Int) → Option (List (Int × Int × Int × Int × Int × Int × Int))) (s0 : Int) (s4 : Int) (r0 : List (Int × Int × Int × Int × Int × Int × Int)) : Option (List (Int × Int × Int × Int × Int × Int × Int)) :=
 bif decide (s4 < 3) then (bif roomB ((List.length r0) + 1) 56 then (let y0 : List (Int × Int × Int × Int × Int × Int × Int) := (r0 ++ [((w64 (s4 + 1)), (s4, ((Int.tmod (w64 (s4 + 1)) 3), (s0, (3, (0, 9))))))])
   rec s0 (w64 (s4 + 1)) y0)
  else none)
 else some r0
def girolaw21_ring_L0 (k : Nat) : Nat → Int → Int → List (Int × Int × Int × Int × Int × Int × Int) → Option (List (Int × Int × Int × Int × Int × Int × Int))
 | 0, _, _, _ => none
 | n + 1, s0, s4, r0 => girolaw21_ring_L0b k (girolaw21_ring_L0 k n) s0 s4 r0
/-- giro/girolaw21.ring -/
def girolaw21_ring (k : Nat) (a0 : Int) : Option (List (Int × Int × Int × Int × Int × Int × Int)) :=
 (girolaw21_ring_L0 k k a0 0 []).bind fun z =>
 some z

/-- giro/girolaw21.known -/
def girolaw21_known (k : Nat) : Option Bool :=
 (girolaw21_some k [] 0).bind fun x0 =>
 (girolaw21_ring k 5).bind fun x1 =>
 (settle_Run k x0.1 x0.2.1 x0.2.2.1 x0.2.2.2 x1 1 true).bind fun x2 =>
 (girolaw21_some k [] 0).bind fun x3 =>
 (girolaw21_ring k 5).bind fun x4 =>
 (settle_Run k x3.1 x3.2.1 x3.2.2.1 x3.2.2.2 x4 1 false).bind fun x5 =>
 bif decide ((((List.length x2.2.2.2.2.1) : Nat) : Int) = 0) then (bif decide ((((List.length x2.2.2.2.2.2) : Nat) : Int) = 3) then (bif decide ((((List.length x5.2.2.2.2.1) : Nat) : Int) = 3) then some (decide ((((List.length x5.2.2.2.2.2) : Nat) : Int) = 0))
   else some false)
  else some false)
 else some false

/-- giro/girolaw21.SettleKnown -/
def girolaw21_SettleKnown (k : Nat) (a0 : Int) : Option Bool :=
 (girolaw21_func4 k).bind fun x0 =>
 bif decide (a0 = 0) then ((girolaw21_some k [5] 0).bind fun x1 =>
  bif decide (3 ≤ (((List.length x0) : Nat) : Int)) then ((settle_Run k x1.1 x1.2.1 x1.2.2.1 x1.2.2.2 (slc x0 0 3) 1 false).bind fun x2 =>
   bif decide ((((List.length x2.2.2.2.2.1) : Nat) : Int) = 0) then (bif decide (3 ≤ (((List.length x0) : Nat) : Int)) then ((giroref11_Same k x2.2.2.2.2.2 (slc x0 0 3)).bind fun x3 =>
     bif x3 then ((girolaw21_known k).bind fun x4 =>
      some x4)
     else some false)
    else none)
   else some false)
  else none)
 else bif decide (a0 = 1) then ((girolaw21_some k [] 0).bind fun x5 =>
  bif decide (3 ≤ (((List.length x0) : Nat) : Int)) then ((settle_Run k x5.1 x5.2.1 x5.2.2.1 x5.2.2.2 (slc x0 0 3) 1 false).bind fun x6 =>
   (girolaw21_some k [] 0).bind fun x7 =>
   bif decide (3 ≤ (((List.length x0) : Nat) : Int)) then ((settle_Run k x7.1 x7.2.1 x7.2.2.1 x7.2.2.2 (slc x0 0 3) 1 true).bind fun x8 =>
    bif decide ((((List.length x6.2.2.2.2.1) : Nat) : Int) = 3) then (bif decide ((((List.length x6.2.2.2.2.2) : Nat) : Int) = 0) then (bif decide ((((List.length x8.2.2.2.2.1) : Nat) : Int) = 0) then (bif decide ((((List.length x8.2.2.2.2.2) : Nat) : Int) = 3) then ((girolaw21_known k).bind fun x9 =>
        some x9)
       else some false)
      else some false)
     else some false)
    else some false)
   else none)
  else none)
 else bif decide (a0 = 2) then (bif boundOk 0 (List.length x0) then (bif boundOk 3 (List.length x0) then ((girolaw21_some k [] 0).bind fun x10 =>
    (settle_Run k x10.1 x10.2.1 x10.2.2.1 x10.2.2.2 [(List.getD x0 0 (0, (0, (0, (0, (0, (0, 0))))))), (List.getD x0 3 (0, (0, (0, (0, (0, (0, 0))))))), (9, (2, (1, (1, (3, (0, 9))))))] 1 false).bind fun x11 =>
    bif decide ((((List.length x11.2.2.2.2.1) : Nat) : Int) = 1) then (bif decide ((((List.length x11.2.2.2.2.2) : Nat) : Int) = 2) then ((girolaw21_known k).bind fun x12 =>
      some x12)
     else some false)
    else some false)
   else none)
  else none)
 else some true

end Go.Ab.Gi
