/- part 5 -/
import Derived.Test.YtbejmoaalcabdaaGreatGiXSa
set_option linter.unusedVariables false
set_option maxRecDepth 100000
namespace Go.Ab.Gi
def qE7 (k : Nat) : Option Bool :=
 (zP2 k 0).bind fun x0 =>
 (zPd k 0 1 [1, 1, 5, 3, 0, 19]).bind fun x1 =>
 (zO8 k x1).bind fun x2 =>
 (zPd k 1 1 [2, 2, 5, 3, 0, 19]).bind fun x3 =>
 (zO8 k x3).bind fun x4 =>
 (zPd k 2 1 [3, 0, 5, 3, 0, 19]).bind fun x5 =>
 (zO8 k x5).bind fun x6 =>
 (zPd k (-1) 13 []).bind fun x7 =>
 (zO8 k x7).bind fun x8 =>
 (qSw k x0 50000 10 [x2, x4, x6, x8]).bind fun x9 =>
 bif x9.2.2.2.2.2.2.2.2.2.2.2.2.2 then (bif decide ((x9.1.length : Int) = 4) then (bif zE 3 x9.1.length then (bif decide (((x9.1.getD 3 []).length : Int) = 6) then some (decide ((x9.2.2.2.2.2.2.2.2.2.1.length : Int) = 0))
    else some false)
   else none)
  else some false)
 else some false
def zUb (k : Nat) (a0 : yW) (a1 : vC) (a2 : qJ) : Option (vC × (List qJ) × Int) :=
 (zH4 k a0 a1 a2).bind fun x0 =>
 bif !(decide (x0.2.2 = 0)) then some (a1, [], x0.2.2)
 else some (x0.1, x0.2.1, x0.2.2)
def zQo (k : Nat) (vHx vHy vHz : Int) : Option Bool :=
 (zLg k vHx vHy).bind fun x0 =>
 bif !x0.2 then some (decide (vHx < 0))
 else some (decide (x0.1 < 0))
abbrev qEa : Type := List zQ → Int → Int → List zQ → List (List Int) → List Int → List (List Int) → Option (Unit ⊕ Bool)
def zI6 (k : Nat) (rec : qEa) (s15 : List zQ) (s16 s17 : Int) (b0_0 : List zQ) (b0_1 : List (List Int)) (b0_2 : List Int) (b0_3 : List (List Int)) : Option (Unit ⊕ Bool) :=
 bif decide (s17 < s16) then (bif zE s17 s15.length then (bif zE s17 b0_0.length then (bif decide ((s15.getD s17.toNat (0, 0, 0)).1 < (b0_0.getD s17.toNat (0, 0, 0)).1) then ((zQo k (s15.getD s17.toNat (0, 0, 0)).1 (s15.getD s17.toNat (0, 0, 0)).2.1 (s15.getD s17.toNat (0, 0, 0)).2.2).bind fun x0 =>
     bif x0 then some (.inr false)
     else rec s15 s16 (zC (s17 + 1)) b0_0 b0_1 b0_2 b0_3)
    else rec s15 s16 (zC (s17 + 1)) b0_0 b0_1 b0_2 b0_3)
   else none)
  else none)
 else some (.inl ())
def zN8 (k : Nat) : Nat → qEa
 | 0, _, _, _, _, _, _, _ => none
 | n + 1, s15, s16, s17, b0_0, b0_1, b0_2, b0_3 => zI6 k (zN8 k n) s15 s16 s17 b0_0 b0_1 b0_2 b0_3
def zV6 (k : Nat) (vH0 : List zQ) (vH1 : List (List Int)) (vH2 : List Int) (vH3 : List (List Int)) (vH4 : List zQ) (vH5 : List (List Int)) (vH6 : List Int) (vH7 : List (List Int)) : Option Bool :=
 bif !(decide ((vH0.length : Int) = (vH4.length : Int))) then some false
 else (zN8 k k vH4 (vH4.length : Int) 0 vH0 vH1 vH2 vH3).bind fun z =>
 match z with
 | .inl z1 => some true
 | .inr z2 => some z2
abbrev zW5 : Type := ((List qJ) × Int × yW × vC × vC) ⊕ Bool
abbrev qCx : Type := List qJ → Int → Int → yW → vC → vC → Option zW5
def zJp (k : Nat) (rec : qCx) (s1 : List qJ) (s7 s11 : Int) (b0 : yW) (b1 b2 : vC) : Option zW5 :=
 bif decide (s11 < b0.1) then (bif zE s11 b1.2.1.length then (bif zE s11 b2.2.1.length then (bif decide ((zC ((b1.2.1.getD s11.toNat (0, 0, 0)).1 + (b1.2.1.getD s11.toNat (0, 0, 0)).2.1)) < 0) then (bif decide ((b2.2.1.getD s11.toNat (0, 0, 0)).1 < (b1.2.1.getD s11.toNat (0, 0, 0)).1) then (bif decide ((zC ((b2.2.1.getD s11.toNat (0, 0, 0)).1 + (b2.2.1.getD s11.toNat (0, 0, 0)).2.1)) < 0) then some (.inr false)
      else rec s1 s7 (zC (s11 + 1)) b0 b1 b2)
     else rec s1 s7 (zC (s11 + 1)) b0 b1 b2)
    else rec s1 s7 (zC (s11 + 1)) b0 b1 b2)
   else none)
  else none)
 else some (.inl (s1, s7, b0, b1, b2))
def zN0 (k : Nat) : Nat → qCx := vG (fun _ _ _ _ _ _ => none) (zJp k)
abbrev qI8 : Type := List qJ → Int → yW → vC → Option (Unit ⊕ Bool)
def zJ9 (k : Nat) (rec : qI8) (s1 : List qJ) (s7 : Int) (b0 : yW) (b1 : vC) : Option (Unit ⊕ Bool) :=
 bif decide (s7 < (s1.length : Int)) then (bif zE s7 s1.length then ((zUb k b0 b1 (s1.getD s7.toNat (0, 0, 0, 0, 0, 0, 0, 0))).bind fun x2 =>
   (zV6 k b1.2.1 b1.2.2.1 b1.2.2.2.1 b1.2.2.2.2.1 x2.1.2.1 x2.1.2.2.1 x2.1.2.2.2.1 x2.1.2.2.2.2.1).bind fun x3 =>
   bif !x3 then some (.inr false)
   else bif !(decide ((x2.1.2.1.length : Int) = b0.1)) then some (.inr false)
   else bif !(decide ((b1.2.1.length : Int) = b0.1)) then some (.inr false)
   else (zN0 k k s1 s7 0 b0 b1 x2.1).bind fun z =>
   match z with
   | .inl z1 => rec z1.1 (zC (z1.2.1 + 1)) z1.2.2.1 z1.2.2.2.2
   | .inr z2 => some (.inr z2))
  else none)
 else some (.inl ())
def zOf (k : Nat) : Nat → qI8 := vG (fun _ _ _ _ => none) (zJ9 k)
def zWf (k : Nat) (a0 : Int) (a1 : List qJ) : Option Bool :=
 bif decide ((a1.length : Int) > 120) then some true
 else (zP2 k a0).bind fun x0 =>
 (zDd k x0).bind fun x1 =>
 (zOf k k a1 0 x0 x1).bind fun z3 =>
 match z3 with
 | .inl z4 => (qE7 k).bind fun x4 =>
  some x4
 | .inr z5 => some z5
end Go.Ab.Gi
