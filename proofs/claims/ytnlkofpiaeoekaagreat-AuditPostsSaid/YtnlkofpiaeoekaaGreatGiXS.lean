/- Shallow functions, printed (abprint.py). -/
import Derived.Test.YtnlkofpiaeoekaaGreatGiXSa
set_option linter.unusedVariables false
set_option maxRecDepth 100000
namespace Go.Ab.Gi

abbrev pair_Run_L1X : Type := Int × (List K3q) × (List K4q) × (List (List Int)) × (List Int) × (List (List Int)) × (List K3q)
abbrev pair_Run_L1T : Type := Int → List K3q → Int → Int → List K4q → List (List Int) → List Int → List (List Int) → List K3q → List K3q → Option pair_Run_L1X
def pair_Run_L1b (k : Nat) (rec : pair_Run_L1T) (s2 : Int) (s7 : List K3q) (s34 : Int) (s35 : Int) (b0_0 : List K4q) (b0_1 : List (List Int)) (b0_2 : List Int) (b0_3 : List (List Int)) (r1 : List K3q) (r2 : List K3q) : Option pair_Run_L1X :=
 bif decide (s35 < s34) then (bif boundOk s35 r2.length then ((row_Drop k s7 (r2.getD s35.toNat (0, 0, 0, 0, 0, 0, 0)).1).bind fun x1 =>
   bif roomB (r1.length + 1) 56 then (let y0 : List K3q := (r1 ++ [(r2.getD s35.toNat (0, 0, 0, 0, 0, 0, 0))])
    rec s2 x1.1 s34 (w64 (s35 + 1)) b0_0 b0_1 b0_2 b0_3 y0 r2)
   else none)
  else none)
 else some (s2, s7, b0_0, b0_1, b0_2, b0_3, r1)
def pair_Run_L1 (k : Nat) : Nat → pair_Run_L1T
 | 0, _, _, _, _, _, _, _, _, _, _ => none
 | n + 1, s2, s7, s34, s35, b0_0, b0_1, b0_2, b0_3, r1, r2 => pair_Run_L1b k (pair_Run_L1 k n) s2 s7 s34 s35 b0_0 b0_1 b0_2 b0_3 r1 r2
abbrev pair_Run_L0X : Type := (List K3q) × (List K4q) × (List (List Int)) × (List Int) × (List (List Int)) × (List K3q)
abbrev pair_Run_L0T : Type := Int → List K3q → List K4q → List (List Int) → List Int → List (List Int) → List K3q → Option pair_Run_L0X
def pair_Run_L0b (k : Nat) (rec : pair_Run_L0T) (s2 : Int) (s7 : List K3q) (b0_0 : List K4q) (b0_1 : List (List Int)) (b0_2 : List Int) (b0_3 : List (List Int)) (r1 : List K3q) : Option pair_Run_L0X :=
 (pair_next k b0_0 b0_1 b0_2 b0_3 s7 s2).bind fun x0 =>
 bif !x0.2.2.2.2.2.2.2.2.2.2.2.2.2.2.2.2.2.2 then some (s7, b0_0, b0_1, b0_2, b0_3, r1)
 else (pair_Run_L1 k k s2 s7 2 0 x0.2.2.2.2.2.2.2.2.2.2.2.2.2.2.1 x0.2.2.2.2.2.2.2.2.2.2.2.2.2.2.2.1 x0.2.2.2.2.2.2.2.2.2.2.2.2.2.2.2.2.1 x0.2.2.2.2.2.2.2.2.2.2.2.2.2.2.2.2.2.1 r1 [(x0.1, x0.2.1, x0.2.2.1, x0.2.2.2.1, x0.2.2.2.2.1, x0.2.2.2.2.2.1, x0.2.2.2.2.2.2.1), (x0.2.2.2.2.2.2.2.1, x0.2.2.2.2.2.2.2.2.1, x0.2.2.2.2.2.2.2.2.2.1, x0.2.2.2.2.2.2.2.2.2.2.1, x0.2.2.2.2.2.2.2.2.2.2.2.1, x0.2.2.2.2.2.2.2.2.2.2.2.2.1, x0.2.2.2.2.2.2.2.2.2.2.2.2.2.1)]).bind fun z =>
 rec z.1 z.2.1 z.2.2.1 z.2.2.2.1 z.2.2.2.2.1 z.2.2.2.2.2.1 z.2.2.2.2.2.2
def pair_Run_L0 (k : Nat) : Nat → pair_Run_L0T
 | 0, _, _, _, _, _, _, _ => none
 | n + 1, s2, s7, b0_0, b0_1, b0_2, b0_3, r1 => pair_Run_L0b k (pair_Run_L0 k n) s2 s7 b0_0 b0_1 b0_2 b0_3 r1
/-- giro/pair.Run -/
def pair_Run (k : Nat) (a0Accts : List K4q) (a0Bil : List (List Int)) (a0Mul : List Int) (a0Pos : List (List Int)) (a1 : List K3q) (a2 : Int) : Option ((List K4q) × (List (List Int)) × (List Int) × (List (List Int)) × (List K3q) × (List K3q)) :=
 (pair_Run_L0 k k a2 a1 a0Accts a0Bil a0Mul a0Pos []).bind fun z1 =>
 some (z1.2.1, z1.2.2.1, z1.2.2.2.1, z1.2.2.2.2.1, z1.1, z1.2.2.2.2.2)

abbrev settle_some_L0X : Type := (List K3q) × (List K4q) × (List (List Int)) × (List Int) × (List (List Int)) × (List K3q)
abbrev settle_some_L0T : Type := Int → List K3q → List K4q → List (List Int) → List Int → List (List Int) → List K3q → Option settle_some_L0X
def settle_some_L0b (k : Nat) (rec : settle_some_L0T) (s2 : Int) (s7 : List K3q) (b0_0 : List K4q) (b0_1 : List (List Int)) (b0_2 : List Int) (b0_3 : List (List Int)) (r1 : List K3q) : Option settle_some_L0X :=
 (free_Run k b0_0 b0_1 b0_2 b0_3 s7 s2).bind fun x0 =>
 (pair_Run k x0.1 x0.2.1 x0.2.2.1 x0.2.2.2.1 x0.2.2.2.2.1 s2).bind fun x1 =>
 bif roomB (r1.length + x0.2.2.2.2.2.length) 56 then (bif roomB ((r1 ++ x0.2.2.2.2.2).length + x1.2.2.2.2.2.length) 56 then (let y0 : List K3q := ((r1 ++ x0.2.2.2.2.2) ++ x1.2.2.2.2.2)
   bif decide ((x1.2.2.2.2.2.length : Int) = 0) then some (x1.2.2.2.2.1, x1.1, x1.2.1, x1.2.2.1, x1.2.2.2.1, y0)
   else rec s2 x1.2.2.2.2.1 x1.1 x1.2.1 x1.2.2.1 x1.2.2.2.1 y0)
  else none)
 else none
def settle_some_L0 (k : Nat) : Nat → settle_some_L0T
 | 0, _, _, _, _, _, _, _ => none
 | n + 1, s2, s7, b0_0, b0_1, b0_2, b0_3, r1 => settle_some_L0b k (settle_some_L0 k n) s2 s7 b0_0 b0_1 b0_2 b0_3 r1
/-- giro/settle.some -/
def settle_some (k : Nat) (a0Accts : List K4q) (a0Bil : List (List Int)) (a0Mul : List Int) (a0Pos : List (List Int)) (a1 : List K3q) (a2 : Int) : Option ((List K4q) × (List (List Int)) × (List Int) × (List (List Int)) × (List K3q) × (List K3q)) :=
 (settle_some_L0 k k a2 a1 a0Accts a0Bil a0Mul a0Pos []).bind fun z =>
 some (z.2.1, z.2.2.1, z.2.2.2.1, z.2.2.2.2.1, z.1, z.2.2.2.2.2)

/-- slices.Clone[[]int,int] -/
def slices_Clone_int (k : Nat) (a0 : List Int) : Option (List Int) :=
 bif roomB (0 + a0.length) 8 then some a0
 else none

/-- giro/view.Heads$1 -/
def view_Heads_fn1 (k : Nat) (a0ID : Int) (a0From : Int) (a0To : Int) (a0Amount : Int) (a0Class : Int) (a0Start : Int) (a0Till : Int) (a1 : List Int) : Option (Bool × (List Int)) :=
 bif decide (a0From < 0) then some (false, a1)
 else bif decide (a0From ≥ (a1.length : Int)) then some (false, a1)
 else bif boundOk a0From a1.length then (bif decide ((a1.getD a0From.toNat 0) < 1) then some (false, a1)
  else bif boundOk a0From a1.length then (bif boundOk a0From a1.length then some (true, (a1.set a0From.toNat (w64 ((a1.getD a0From.toNat 0) - 1))))
   else none)
  else none)
 else none

abbrev view_all__view_Heads_fn1_L0X : Type := (List Int) × (List K3q)
abbrev view_all__view_Heads_fn1_L0T : Type := List K3q → Int → Int → List Int → List K3q → Option view_all__view_Heads_fn1_L0X
def view_all__view_Heads_fn1_L0b (k : Nat) (rec : view_all__view_Heads_fn1_L0T) (s8 : List K3q) (s9 : Int) (s10 : Int) (r1 : List Int) (r2 : List K3q) : Option view_all__view_Heads_fn1_L0X :=
 bif decide (s10 < s9) then (bif boundOk s10 s8.length then ((view_Heads_fn1 k (s8.getD s10.toNat (0, 0, 0, 0, 0, 0, 0)).1 (s8.getD s10.toNat (0, 0, 0, 0, 0, 0, 0)).2.1 (s8.getD s10.toNat (0, 0, 0, 0, 0, 0, 0)).2.2.1 (s8.getD s10.toNat (0, 0, 0, 0, 0, 0, 0)).2.2.2.1 (s8.getD s10.toNat (0, 0, 0, 0, 0, 0, 0)).2.2.2.2.1 (s8.getD s10.toNat (0, 0, 0, 0, 0, 0, 0)).2.2.2.2.2.1 (s8.getD s10.toNat (0, 0, 0, 0, 0, 0, 0)).2.2.2.2.2.2 r1).bind fun x0 =>
   bif x0.1 then (bif roomB (r2.length + 1) 56 then (let y0 : List K3q := (r2 ++ [(s8.getD s10.toNat (0, 0, 0, 0, 0, 0, 0))])
     rec s8 s9 (w64 (s10 + 1)) x0.2 y0)
    else none)
   else rec s8 s9 (w64 (s10 + 1)) x0.2 r2)
  else none)
 else some (r1, r2)
def view_all__view_Heads_fn1_L0 (k : Nat) : Nat → view_all__view_Heads_fn1_L0T
 | 0, _, _, _, _, _ => none
 | n + 1, s8, s9, s10, r1, r2 => view_all__view_Heads_fn1_L0b k (view_all__view_Heads_fn1_L0 k n) s8 s9 s10 r1 r2
/-- giro/view.all -/
def view_all__view_Heads_fn1 (k : Nat) (a0 : List K3q) (a1_0 : List Int) : Option ((List K3q) × (List Int)) :=
 (view_all__view_Heads_fn1_L0 k k a0 (a0.length : Int) 0 a1_0 []).bind fun z =>
 some (z.2, z.1)

/-- giro/view.Heads -/
def view_Heads (k : Nat) (a0 : List K3q) (a1 : List Int) : Option (List K3q) :=
 (slices_Clone_int k a1).bind fun x0 =>
 (view_all__view_Heads_fn1 k a0 x0).bind fun x1 =>
 some x1.1

abbrev knot_Most_L0X : Type := Int × (List K4q) × (List (List Int)) × (List Int) × (List (List Int)) × (List Int) × (List K3q)
abbrev knot_Most_L0T : Type := Int → Int → Int → List K4q → List (List Int) → List Int → List (List Int) → List Int → List K3q → Option knot_Most_L0X
def knot_Most_L0b (k : Nat) (rec : knot_Most_L0T) (s7 : Int) (s18 : Int) (s19 : Int) (b0_0 : List K4q) (b0_1 : List (List Int)) (b0_2 : List Int) (b0_3 : List (List Int)) (r1 : List Int) (r2 : List K3q) : Option knot_Most_L0X :=
 bif decide (s19 < s18) then ((view_Of k r2 s19).bind fun x1 =>
  bif roomB (r1.length + 1) 8 then (rec s7 s18 (w64 (s19 + 1)) b0_0 b0_1 b0_2 b0_3 (r1 ++ [(x1.length : Int)]) r2)
  else none)
 else some (s7, b0_0, b0_1, b0_2, b0_3, r1, r2)
def knot_Most_L0 (k : Nat) : Nat → knot_Most_L0T
 | 0, _, _, _, _, _, _, _, _, _ => none
 | n + 1, s7, s18, s19, b0_0, b0_1, b0_2, b0_3, r1, r2 => knot_Most_L0b k (knot_Most_L0 k n) s7 s18 s19 b0_0 b0_1 b0_2 b0_3 r1 r2
abbrev knot_Most_L2X : Type := Int × (List K4q) × (List (List Int)) × (List Int) × (List (List Int)) × (List Int) × (List K3q)
abbrev knot_Most_L2T : Type := Int → Int → Int → List K4q → List (List Int) → List Int → List (List Int) → List Int → List K3q → List Int → Option knot_Most_L2X
def knot_Most_L2b (k : Nat) (rec : knot_Most_L2T) (s7 : Int) (s43 : Int) (s44 : Int) (b0_0 : List K4q) (b0_1 : List (List Int)) (b0_2 : List Int) (b0_3 : List (List Int)) (r1 : List Int) (r2 : List K3q) (r3 : List Int) : Option knot_Most_L2X :=
 bif decide (s44 < s43) then (bif boundOk s44 r3.length then (bif boundOk (r3.getD s44.toNat 0) r1.length then (bif boundOk (r3.getD s44.toNat 0) r1.length then (let y0 : List Int := (r1.set (r3.getD s44.toNat 0).toNat (w64 ((r1.getD (r3.getD s44.toNat 0).toNat 0) - 1)))
     rec s7 s43 (w64 (s44 + 1)) b0_0 b0_1 b0_2 b0_3 y0 r2 r3)
    else none)
   else none)
  else none)
 else some (s7, b0_0, b0_1, b0_2, b0_3, r1, r2)
def knot_Most_L2 (k : Nat) : Nat → knot_Most_L2T
 | 0, _, _, _, _, _, _, _, _, _, _ => none
 | n + 1, s7, s43, s44, b0_0, b0_1, b0_2, b0_3, r1, r2, r3 => knot_Most_L2b k (knot_Most_L2 k n) s7 s43 s44 b0_0 b0_1 b0_2 b0_3 r1 r2 r3
abbrev knot_Most_L1T : Type := Int → List K4q → List (List Int) → List Int → List (List Int) → List Int → List K3q → Option (Int × (List Int))
def knot_Most_L1b (k : Nat) (rec : knot_Most_L1T) (s7 : Int) (b0_0 : List K4q) (b0_1 : List (List Int)) (b0_2 : List Int) (b0_3 : List (List Int)) (r1 : List Int) (r2 : List K3q) : Option (Int × (List Int)) :=
 (view_Heads k r2 r1).bind fun x2 =>
 (fits_Short k b0_0 b0_1 b0_2 b0_3 x2).bind fun x3 =>
 bif decide ((x3.length : Int) = 0) then some ((w64 (s7 + 1)), r1)
 else (knot_Most_L2 k k (w64 (s7 + 1)) (x3.length : Int) 0 b0_0 b0_1 b0_2 b0_3 r1 r2 x3).bind fun z1 =>
 rec z1.1 z1.2.1 z1.2.2.1 z1.2.2.2.1 z1.2.2.2.2.1 z1.2.2.2.2.2.1 z1.2.2.2.2.2.2
def knot_Most_L1 (k : Nat) : Nat → knot_Most_L1T
 | 0, _, _, _, _, _, _, _ => none
 | n + 1, s7, b0_0, b0_1, b0_2, b0_3, r1, r2 => knot_Most_L1b k (knot_Most_L1 k n) s7 b0_0 b0_1 b0_2 b0_3 r1 r2
/-- giro/knot.Most -/
def knot_Most (k : Nat) (a0Accts : List K4q) (a0Bil : List (List Int)) (a0Mul : List Int) (a0Pos : List (List Int)) (a1 : List K3q) (a2 : Int) : Option ((List Int) × Int) :=
 (view_Ready k a1 a2).bind fun x0 =>
 (knot_Most_L0 k k 0 (a0Accts.length : Int) 0 a0Accts a0Bil a0Mul a0Pos [] x0).bind fun z =>
 (knot_Most_L1 k k z.1 z.2.1 z.2.2.1 z.2.2.2.1 z.2.2.2.2.1 z.2.2.2.2.2.1 z.2.2.2.2.2.2).bind fun z2 =>
 some (z2.2, z2.1)

abbrev knot_Run_L0X : Type := (List K3q) × (List K4q) × (List (List Int)) × (List Int) × (List (List Int)) × (List K3q)
abbrev knot_Run_L0T : Type := List K3q → Int → Int → List K4q → List (List Int) → List Int → List (List Int) → List K3q → Option knot_Run_L0X
def knot_Run_L0b (k : Nat) (rec : knot_Run_L0T) (s7 : List K3q) (s39 : Int) (s40 : Int) (b0_0 : List K4q) (b0_1 : List (List Int)) (b0_2 : List Int) (b0_3 : List (List Int)) (r1 : List K3q) : Option knot_Run_L0X :=
 bif decide (s40 < s39) then (bif boundOk s40 r1.length then ((row_Drop k s7 (r1.getD s40.toNat (0, 0, 0, 0, 0, 0, 0)).1).bind fun x4 =>
   rec x4.1 s39 (w64 (s40 + 1)) b0_0 b0_1 b0_2 b0_3 r1)
  else none)
 else some (s7, b0_0, b0_1, b0_2, b0_3, r1)
def knot_Run_L0 (k : Nat) : Nat → knot_Run_L0T
 | 0, _, _, _, _, _, _, _, _ => none
 | n + 1, s7, s39, s40, b0_0, b0_1, b0_2, b0_3, r1 => knot_Run_L0b k (knot_Run_L0 k n) s7 s39 s40 b0_0 b0_1 b0_2 b0_3 r1
/-- giro/knot.Run -/
def knot_Run (k : Nat) (a0Accts : List K4q) (a0Bil : List (List Int)) (a0Mul : List Int) (a0Pos : List (List Int)) (a1 : List K3q) (a2 : Int) : Option ((List K4q) × (List (List Int)) × (List Int) × (List (List Int)) × (List K3q) × (List K3q)) :=
 (knot_Most k a0Accts a0Bil a0Mul a0Pos a1 a2).bind fun x0 =>
 (view_Ready k a1 a2).bind fun x1 =>
 (view_Heads k x1 x0.1).bind fun x2 =>
 (post_Post k a0Accts a0Bil a0Mul a0Pos x2).bind fun x3 =>
 bif !(decide (x3.2.2.2.2 = 0)) then some (a0Accts, a0Bil, a0Mul, a0Pos, a1, [])
 else (knot_Run_L0 k k a1 (x2.length : Int) 0 x3.1 x3.2.1 x3.2.2.1 x3.2.2.2.1 x2).bind fun z =>
 some (z.2.1, z.2.2.1, z.2.2.2.1, z.2.2.2.2.1, z.1, z.2.2.2.2.2)

/-- giro/settle.Run -/
def settle_Run (k : Nat) (a0Accts : List K4q) (a0Bil : List (List Int)) (a0Mul : List Int) (a0Pos : List (List Int)) (a1 : List K3q) (a2 : Int) (a3 : Bool) : Option ((List K4q) × (List (List Int)) × (List Int) × (List (List Int)) × (List K3q) × (List K3q)) :=
 (settle_some k a0Accts a0Bil a0Mul a0Pos a1 a2).bind fun x0 =>
 bif !a3 then some (x0.1, x0.2.1, x0.2.2.1, x0.2.2.2.1, x0.2.2.2.2.1, x0.2.2.2.2.2)
 else (knot_Run k x0.1 x0.2.1 x0.2.2.1 x0.2.2.2.1 x0.2.2.2.2.1 a2).bind fun x1 =>
 bif decide ((x1.2.2.2.2.2.length : Int) = 0) then some (x1.1, x1.2.1, x1.2.2.1, x1.2.2.2.1, x1.2.2.2.2.1, x0.2.2.2.2.2)
 else (settle_some k x1.1 x1.2.1 x1.2.2.1 x1.2.2.2.1 x1.2.2.2.2.1 a2).bind fun x2 =>
 bif roomB (x0.2.2.2.2.2.length + x1.2.2.2.2.2.length) 56 then (bif roomB ((x0.2.2.2.2.2 ++ x1.2.2.2.2.2).length + x2.2.2.2.2.2.length) 56 then (let y0 : List K3q := ((x0.2.2.2.2.2 ++ x1.2.2.2.2.2) ++ x2.2.2.2.2.2)
   some (x2.1, x2.2.1, x2.2.2.1, x2.2.2.2.1, x2.2.2.2.2.1, y0))
  else none)
 else none

abbrev hour_Told_L1X : Type := (List K3q) × Int × Int × (List K2q)
abbrev hour_Told_L1T : Type := List K3q → Int → Int → Int → Int → List K2q → Int → Int → Int → Int → Int → Int → Int → List Int → Option hour_Told_L1X
def hour_Told_L1b (k : Nat) (rec : hour_Told_L1T) (s8 : List K3q) (s9 : Int) (s10 : Int) (s19 : Int) (s20 : Int) (r0 : List K2q) (b1_0 : Int) (b1_1 : Int) (b1_2 : Int) (b1_3 : Int) (b1_4 : Int) (b1_5 : Int) (b1_6 : Int) (r2 : List Int) : Option hour_Told_L1X :=
 bif decide (s20 < s19) then (bif boundOk s20 r2.length then ((hour_out k (r2.getD s20.toNat 0) 18 [b1_0, b1_1, b1_2, b1_3]).bind fun x0 =>
   bif roomB (r0.length + 1) 64 then (rec s8 s9 s10 s19 (w64 (s20 + 1)) (r0 ++ [x0]) b1_0 b1_1 b1_2 b1_3 b1_4 b1_5 b1_6 r2)
   else none)
  else none)
 else some (s8, s9, s10, r0)
def hour_Told_L1 (k : Nat) : Nat → hour_Told_L1T
 | 0, _, _, _, _, _, _, _, _, _, _, _, _, _, _ => none
 | n + 1, s8, s9, s10, s19, s20, r0, b1_0, b1_1, b1_2, b1_3, b1_4, b1_5, b1_6, r2 => hour_Told_L1b k (hour_Told_L1 k n) s8 s9 s10 s19 s20 r0 b1_0 b1_1 b1_2 b1_3 b1_4 b1_5 b1_6 r2
abbrev hour_Told_L0X : Type := List K2q
abbrev hour_Told_L0T : Type := List K3q → Int → Int → List K2q → Option hour_Told_L0X
def hour_Told_L0b (k : Nat) (rec : hour_Told_L0T) (s8 : List K3q) (s9 : Int) (s10 : Int) (r0 : List K2q) : Option hour_Told_L0X :=
 bif decide (s10 < s9) then (bif boundOk s10 s8.length then ((hour_Told_L1 k k s8 s9 s10 2 0 r0 (s8.getD s10.toNat (0, 0, 0, 0, 0, 0, 0)).1 (s8.getD s10.toNat (0, 0, 0, 0, 0, 0, 0)).2.1 (s8.getD s10.toNat (0, 0, 0, 0, 0, 0, 0)).2.2.1 (s8.getD s10.toNat (0, 0, 0, 0, 0, 0, 0)).2.2.2.1 (s8.getD s10.toNat (0, 0, 0, 0, 0, 0, 0)).2.2.2.2.1 (s8.getD s10.toNat (0, 0, 0, 0, 0, 0, 0)).2.2.2.2.2.1 (s8.getD s10.toNat (0, 0, 0, 0, 0, 0, 0)).2.2.2.2.2.2 [(s8.getD s10.toNat (0, 0, 0, 0, 0, 0, 0)).2.1, (s8.getD s10.toNat (0, 0, 0, 0, 0, 0, 0)).2.2.1]).bind fun z =>
   rec z.1 z.2.1 (w64 (z.2.2.1 + 1)) z.2.2.2)
  else none)
 else some r0
def hour_Told_L0 (k : Nat) : Nat → hour_Told_L0T
 | 0, _, _, _, _ => none
 | n + 1, s8, s9, s10, r0 => hour_Told_L0b k (hour_Told_L0 k n) s8 s9 s10 r0
/-- giro/hour.Told -/
def hour_Told (k : Nat) (a0 : List K3q) : Option (List K2q) :=
 (hour_Told_L0 k k a0 (a0.length : Int) 0 []).bind fun z1 =>
 some z1

/-- giro/hour.Settle -/
def hour_Settle (k : Nat) (a0Tick : Int) (a0BooksAccts : List K4q) (a0BooksBil : List (List Int)) (a0BooksMul : List Int) (a0BooksPos : List (List Int)) (a0Prices : List Int) (a0Holds : List (List Int)) (a0Pays : List K3q) (a0IDs : List Int) (a0Total : Int) (a0Over : Bool) (a1 : Bool) : Option (Int × (List K4q) × (List (List Int)) × (List Int) × (List (List Int)) × (List Int) × (List (List Int)) × (List K3q) × (List Int) × Int × Bool × (List K2q)) :=
 (settle_Run k a0BooksAccts a0BooksBil a0BooksMul a0BooksPos a0Pays a0Tick a1).bind fun x0 =>
 (hour_Told k x0.2.2.2.2.2).bind fun x1 =>
 some (a0Tick, x0.1, x0.2.1, x0.2.2.1, x0.2.2.2.1, a0Prices, a0Holds, x0.2.2.2.2.1, a0IDs, a0Total, a0Over, x1)

abbrev hour_Tick_L0X : Type := Int × (List K5q) × Int × Int × Int × Int × (List K4q) × (List (List Int)) × (List Int) × (List (List Int)) × (List Int) × (List (List Int)) × (List K3q) × (List Int) × Int × Bool × Int × Int × Bool × (List K2q) × (List K3q)
abbrev hour_Tick_L0T : Type := List K3q → Int → Int → Int → List K5q → Int → Int → Int → Int → List K4q → List (List Int) → List Int → List (List Int) → List Int → List (List Int) → List K3q → List Int → Int → Bool → Int → Int → Bool → List K2q → List K3q → Option hour_Tick_L0X
def hour_Tick_L0b (k : Nat) (rec : hour_Tick_L0T) (s27 : List K3q) (s28 : Int) (s29 : Int) (b0_0 : Int) (b0_1 : List K5q) (b0_2 : Int) (b0_3 : Int) (b0_4 : Int) (b1_0 : Int) (b1_1 : List K4q) (b1_2 : List (List Int)) (b1_3 : List Int) (b1_4 : List (List Int)) (b1_5 : List Int) (b1_6 : List (List Int)) (b1_7 : List K3q) (b1_8 : List Int) (b1_9 : Int) (b1_10 : Bool) (b2_0 : Int) (b2_9 : Int) (b2_10 : Bool) (r3 : List K2q) (r4 : List K3q) : Option hour_Tick_L0X :=
 bif decide (s29 < s28) then (bif boundOk s29 s27.length then ((pay_Late k (s27.getD s29.toNat (0, 0, 0, 0, 0, 0, 0)).1 (s27.getD s29.toNat (0, 0, 0, 0, 0, 0, 0)).2.1 (s27.getD s29.toNat (0, 0, 0, 0, 0, 0, 0)).2.2.1 (s27.getD s29.toNat (0, 0, 0, 0, 0, 0, 0)).2.2.2.1 (s27.getD s29.toNat (0, 0, 0, 0, 0, 0, 0)).2.2.2.2.1 (s27.getD s29.toNat (0, 0, 0, 0, 0, 0, 0)).2.2.2.2.2.1 (s27.getD s29.toNat (0, 0, 0, 0, 0, 0, 0)).2.2.2.2.2.2 b1_0).bind fun x2 =>
   bif x2 then ((hour_out k (s27.getD s29.toNat (0, 0, 0, 0, 0, 0, 0)).2.1 21 [(s27.getD s29.toNat (0, 0, 0, 0, 0, 0, 0)).1]).bind fun x3 =>
    bif roomB (r3.length + 1) 64 then (rec s27 s28 (w64 (s29 + 1)) b0_0 b0_1 b0_2 b0_3 b0_4 b1_0 b1_1 b1_2 b1_3 b1_4 b1_5 b1_6 b1_7 b1_8 b1_9 b1_10 b2_0 b2_9 b2_10 (r3 ++ [x3]) r4)
    else none)
   else bif roomB (r4.length + 1) 56 then (let y0 : List K3q := (r4 ++ [(s27.getD s29.toNat (0, 0, 0, 0, 0, 0, 0))])
    rec s27 s28 (w64 (s29 + 1)) b0_0 b0_1 b0_2 b0_3 b0_4 b1_0 b1_1 b1_2 b1_3 b1_4 b1_5 b1_6 b1_7 b1_8 b1_9 b1_10 b2_0 b2_9 b2_10 r3 y0)
   else none)
  else none)
 else some (b0_0, b0_1, b0_2, b0_3, b0_4, b1_0, b1_1, b1_2, b1_3, b1_4, b1_5, b1_6, b1_7, b1_8, b1_9, b1_10, b2_0, b2_9, b2_10, r3, r4)
def hour_Tick_L0 (k : Nat) : Nat → hour_Tick_L0T
 | 0, _, _, _, _, _, _, _, _, _, _, _, _, _, _, _, _, _, _, _, _, _, _, _, _ => none
 | n + 1, s27, s28, s29, b0_0, b0_1, b0_2, b0_3, b0_4, b1_0, b1_1, b1_2, b1_3, b1_4, b1_5, b1_6, b1_7, b1_8, b1_9, b1_10, b2_0, b2_9, b2_10, r3, r4 => hour_Tick_L0b k (hour_Tick_L0 k n) s27 s28 s29 b0_0 b0_1 b0_2 b0_3 b0_4 b1_0 b1_1 b1_2 b1_3 b1_4 b1_5 b1_6 b1_7 b1_8 b1_9 b1_10 b2_0 b2_9 b2_10 r3 r4
/-- giro/hour.Tick -/
def hour_Tick (k : Nat) (a0Parties : Int) (a0Assets : List K5q) (a0Cutoff : Int) (a0Close : Int) (a0Period : Int) (a1Tick : Int) (a1BooksAccts : List K4q) (a1BooksBil : List (List Int)) (a1BooksMul : List Int) (a1BooksPos : List (List Int)) (a1Prices : List Int) (a1Holds : List (List Int)) (a1Pays : List K3q) (a1IDs : List Int) (a1Total : Int) (a1Over : Bool) : Option (Int × (List K4q) × (List (List Int)) × (List Int) × (List (List Int)) × (List Int) × (List (List Int)) × (List K3q) × (List Int) × Int × Bool × (List K2q)) :=
 bif a1Over then some (a1Tick, a1BooksAccts, a1BooksBil, a1BooksMul, a1BooksPos, a1Prices, a1Holds, a1Pays, a1IDs, a1Total, a1Over, [])
 else (day_Closes k a0Parties a0Assets a0Cutoff a0Close a0Period (w64 (a1Tick + 1))).bind fun x0 =>
 bif x0 then ((hour_ends k (w64 (a1Tick + 1)) a1BooksAccts a1BooksBil a1BooksMul a1BooksPos a1Prices a1Holds a1Pays a1IDs a1Total a1Over).bind fun x1 =>
  some (x1.1, x1.2.1, x1.2.2.1, x1.2.2.2.1, x1.2.2.2.2.1, x1.2.2.2.2.2.1, x1.2.2.2.2.2.2.1, x1.2.2.2.2.2.2.2.1, x1.2.2.2.2.2.2.2.2.1, x1.2.2.2.2.2.2.2.2.2.1, x1.2.2.2.2.2.2.2.2.2.2.1, x1.2.2.2.2.2.2.2.2.2.2.2))
 else (hour_Tick_L0 k k a1Pays (a1Pays.length : Int) 0 a0Parties a0Assets a0Cutoff a0Close a0Period (w64 (a1Tick + 1)) a1BooksAccts a1BooksBil a1BooksMul a1BooksPos a1Prices a1Holds a1Pays a1IDs a1Total a1Over 0 0 false [] []).bind fun z =>
 (day_Solves k z.1 z.2.1 z.2.2.1 z.2.2.2.1 z.2.2.2.2.1 z.2.2.2.2.2.1).bind fun x4 =>
 (hour_Settle k z.2.2.2.2.2.1 z.2.2.2.2.2.2.1 z.2.2.2.2.2.2.2.1 z.2.2.2.2.2.2.2.2.1 z.2.2.2.2.2.2.2.2.2.1 z.2.2.2.2.2.2.2.2.2.2.1 z.2.2.2.2.2.2.2.2.2.2.2.1 z.2.2.2.2.2.2.2.2.2.2.2.2.2.2.2.2.2.2.2.2 z.2.2.2.2.2.2.2.2.2.2.2.2.2.1 z.2.2.2.2.2.2.2.2.2.2.2.2.2.2.1 z.2.2.2.2.2.2.2.2.2.2.2.2.2.2.2.1 x4).bind fun x5 =>
 bif roomB (z.2.2.2.2.2.2.2.2.2.2.2.2.2.2.2.2.2.2.2.1.length + x5.2.2.2.2.2.2.2.2.2.2.2.length) 64 then (let y1 : List K2q := (z.2.2.2.2.2.2.2.2.2.2.2.2.2.2.2.2.2.2.2.1 ++ x5.2.2.2.2.2.2.2.2.2.2.2)
  some (x5.1, x5.2.1, x5.2.2.1, x5.2.2.2.1, x5.2.2.2.2.1, x5.2.2.2.2.2.1, x5.2.2.2.2.2.2.1, x5.2.2.2.2.2.2.2.1, x5.2.2.2.2.2.2.2.2.1, x5.2.2.2.2.2.2.2.2.2.1, x5.2.2.2.2.2.2.2.2.2.2.1, y1))
 else none

/-- giro/core.Do -/
def core_Do (k : Nat) (a0Parties : Int) (a0Assets : List K5q) (a0Cutoff : Int) (a0Close : Int) (a0Period : Int) (a1Tick : Int) (a1BooksAccts : List K4q) (a1BooksBil : List (List Int)) (a1BooksMul : List Int) (a1BooksPos : List (List Int)) (a1Prices : List Int) (a1Holds : List (List Int)) (a1Pays : List K3q) (a1IDs : List Int) (a1Total : Int) (a1Over : Bool) (a2Who : Int) (a2MsgKind : Int) (a2MsgF0 : Int) (a2MsgF1 : Int) (a2MsgF2 : Int) (a2MsgF3 : Int) (a2MsgF4 : Int) (a2MsgF5 : Int) : Option (Int × (List K4q) × (List (List Int)) × (List Int) × (List (List Int)) × (List Int) × (List (List Int)) × (List K3q) × (List Int) × Int × Bool × (List K2q) × Int) :=
 (core_may k a0Parties a0Assets a0Cutoff a0Close a0Period a1Tick a1BooksAccts a1BooksBil a1BooksMul a1BooksPos a1Prices a1Holds a1Pays a1IDs a1Total a1Over a2Who a2MsgKind a2MsgF0 a2MsgF1 a2MsgF2 a2MsgF3 a2MsgF4 a2MsgF5).bind fun x0 =>
 bif !(decide (x0 = 0)) then some (a1Tick, a1BooksAccts, a1BooksBil, a1BooksMul, a1BooksPos, a1Prices, a1Holds, a1Pays, a1IDs, a1Total, a1Over, [], x0)
 else bif decide (a2MsgKind = 9) then ((core_query k a1Tick a1BooksAccts a1BooksBil a1BooksMul a1BooksPos a1Prices a1Holds a1Pays a1IDs a1Total a1Over a2Who).bind fun x1 =>
  some (a1Tick, a1BooksAccts, a1BooksBil, a1BooksMul, a1BooksPos, a1Prices, a1Holds, a1Pays, a1IDs, a1Total, a1Over, x1, 0))
 else bif !(decide (a2Who = (-1))) then ((core_desk_tells k a0Parties a0Assets a0Cutoff a0Close a0Period a1Tick a1BooksAccts a1BooksBil a1BooksMul a1BooksPos a1Prices a1Holds a1Pays a1IDs a1Total a1Over a2Who [] 15 []).bind fun x2 =>
  (core_desk_does k a0Parties a0Assets a0Cutoff a0Close a0Period a1Tick a1BooksAccts a1BooksBil a1BooksMul a1BooksPos a1Prices a1Holds a1Pays a1IDs a1Total a1Over a2Who [] a2MsgKind a2MsgF0 a2MsgF1 a2MsgF2 a2MsgF3 a2MsgF4 a2MsgF5).bind fun x3 =>
  bif !(decide (x3 = 0)) then some (a1Tick, a1BooksAccts, a1BooksBil, a1BooksMul, a1BooksPos, a1Prices, a1Holds, a1Pays, a1IDs, a1Total, a1Over, [], x3)
  else bif decide (a2MsgKind = 14) then ((hour_Tick k a0Parties a0Assets a0Cutoff a0Close a0Period a1Tick a1BooksAccts a1BooksBil a1BooksMul a1BooksPos a1Prices a1Holds a1Pays a1IDs a1Total a1Over).bind fun x4 =>
   some (x4.1, x4.2.1, x4.2.2.1, x4.2.2.2.1, x4.2.2.2.2.1, x4.2.2.2.2.2.1, x4.2.2.2.2.2.2.1, x4.2.2.2.2.2.2.2.1, x4.2.2.2.2.2.2.2.2.1, x4.2.2.2.2.2.2.2.2.2.1, x4.2.2.2.2.2.2.2.2.2.2.1, x4.2.2.2.2.2.2.2.2.2.2.2, 0))
  else (hour_Settle k a1Tick a1BooksAccts a1BooksBil a1BooksMul a1BooksPos a1Prices a1Holds a1Pays a1IDs a1Total a1Over (decide (a2MsgKind = 13))).bind fun x5 =>
  bif roomB x5.2.2.2.2.2.2.2.2.2.2.2.length 64 then (bif decide (a2MsgKind = 1) then ((row_Find k x5.2.2.2.2.2.2.2.1 a2MsgF0).bind fun x6 =>
    bif decide (x6 ≥ 0) then ((core_desk_tells k a0Parties a0Assets a0Cutoff a0Close a0Period a1Tick a1BooksAccts a1BooksBil a1BooksMul a1BooksPos a1Prices a1Holds a1Pays a1IDs a1Total a1Over a2Who x5.2.2.2.2.2.2.2.2.2.2.2 19 [a2MsgF0]).bind fun x7 =>
     some (x5.1, x5.2.1, x5.2.2.1, x5.2.2.2.1, x5.2.2.2.2.1, x5.2.2.2.2.2.1, x5.2.2.2.2.2.2.1, x5.2.2.2.2.2.2.2.1, x5.2.2.2.2.2.2.2.2.1, x5.2.2.2.2.2.2.2.2.2.1, x5.2.2.2.2.2.2.2.2.2.2.1, x5.2.2.2.2.2.2.2.2.2.2.2, 0))
    else some (x5.1, x5.2.1, x5.2.2.1, x5.2.2.2.1, x5.2.2.2.2.1, x5.2.2.2.2.2.1, x5.2.2.2.2.2.2.1, x5.2.2.2.2.2.2.2.1, x5.2.2.2.2.2.2.2.2.1, x5.2.2.2.2.2.2.2.2.2.1, x5.2.2.2.2.2.2.2.2.2.2.1, x5.2.2.2.2.2.2.2.2.2.2.2, 0))
   else some (x5.1, x5.2.1, x5.2.2.1, x5.2.2.2.1, x5.2.2.2.2.1, x5.2.2.2.2.2.1, x5.2.2.2.2.2.2.1, x5.2.2.2.2.2.2.2.1, x5.2.2.2.2.2.2.2.2.1, x5.2.2.2.2.2.2.2.2.2.1, x5.2.2.2.2.2.2.2.2.2.2.1, x5.2.2.2.2.2.2.2.2.2.2.2, 0))
  else none)
 else (core_desk_does k a0Parties a0Assets a0Cutoff a0Close a0Period a1Tick a1BooksAccts a1BooksBil a1BooksMul a1BooksPos a1Prices a1Holds a1Pays a1IDs a1Total a1Over a2Who [] a2MsgKind a2MsgF0 a2MsgF1 a2MsgF2 a2MsgF3 a2MsgF4 a2MsgF5).bind fun x8 =>
 bif !(decide (x8 = 0)) then some (a1Tick, a1BooksAccts, a1BooksBil, a1BooksMul, a1BooksPos, a1Prices, a1Holds, a1Pays, a1IDs, a1Total, a1Over, [], x8)
 else bif decide (a2MsgKind = 14) then ((hour_Tick k a0Parties a0Assets a0Cutoff a0Close a0Period a1Tick a1BooksAccts a1BooksBil a1BooksMul a1BooksPos a1Prices a1Holds a1Pays a1IDs a1Total a1Over).bind fun x9 =>
  some (x9.1, x9.2.1, x9.2.2.1, x9.2.2.2.1, x9.2.2.2.2.1, x9.2.2.2.2.2.1, x9.2.2.2.2.2.2.1, x9.2.2.2.2.2.2.2.1, x9.2.2.2.2.2.2.2.2.1, x9.2.2.2.2.2.2.2.2.2.1, x9.2.2.2.2.2.2.2.2.2.2.1, x9.2.2.2.2.2.2.2.2.2.2.2, 0))
 else (hour_Settle k a1Tick a1BooksAccts a1BooksBil a1BooksMul a1BooksPos a1Prices a1Holds a1Pays a1IDs a1Total a1Over (decide (a2MsgKind = 13))).bind fun x10 =>
 bif roomB x10.2.2.2.2.2.2.2.2.2.2.2.length 64 then (bif decide (a2MsgKind = 1) then ((row_Find k x10.2.2.2.2.2.2.2.1 a2MsgF0).bind fun x11 =>
   bif decide (x11 ≥ 0) then ((core_desk_tells k a0Parties a0Assets a0Cutoff a0Close a0Period a1Tick a1BooksAccts a1BooksBil a1BooksMul a1BooksPos a1Prices a1Holds a1Pays a1IDs a1Total a1Over a2Who x10.2.2.2.2.2.2.2.2.2.2.2 19 [a2MsgF0]).bind fun x12 =>
    some (x10.1, x10.2.1, x10.2.2.1, x10.2.2.2.1, x10.2.2.2.2.1, x10.2.2.2.2.2.1, x10.2.2.2.2.2.2.1, x10.2.2.2.2.2.2.2.1, x10.2.2.2.2.2.2.2.2.1, x10.2.2.2.2.2.2.2.2.2.1, x10.2.2.2.2.2.2.2.2.2.2.1, x10.2.2.2.2.2.2.2.2.2.2.2, 0))
   else some (x10.1, x10.2.1, x10.2.2.1, x10.2.2.2.1, x10.2.2.2.2.1, x10.2.2.2.2.2.1, x10.2.2.2.2.2.2.1, x10.2.2.2.2.2.2.2.1, x10.2.2.2.2.2.2.2.2.1, x10.2.2.2.2.2.2.2.2.2.1, x10.2.2.2.2.2.2.2.2.2.2.1, x10.2.2.2.2.2.2.2.2.2.2.2, 0))
  else some (x10.1, x10.2.1, x10.2.2.1, x10.2.2.2.1, x10.2.2.2.2.1, x10.2.2.2.2.2.1, x10.2.2.2.2.2.2.1, x10.2.2.2.2.2.2.2.1, x10.2.2.2.2.2.2.2.2.1, x10.2.2.2.2.2.2.2.2.2.1, x10.2.2.2.2.2.2.2.2.2.2.1, x10.2.2.2.2.2.2.2.2.2.2.2, 0))
 else none

/-- giro/girolaw23.step -/
def girolaw23_step (k : Nat) (a0Parties : Int) (a0Assets : List K5q) (a0Cutoff : Int) (a0Close : Int) (a0Period : Int) (a1Tick : Int) (a1BooksAccts : List K4q) (a1BooksBil : List (List Int)) (a1BooksMul : List Int) (a1BooksPos : List (List Int)) (a1Prices : List Int) (a1Holds : List (List Int)) (a1Pays : List K3q) (a1IDs : List Int) (a1Total : Int) (a1Over : Bool) (a2Who : Int) (a2MsgKind : Int) (a2MsgF0 : Int) (a2MsgF1 : Int) (a2MsgF2 : Int) (a2MsgF3 : Int) (a2MsgF4 : Int) (a2MsgF5 : Int) : Option (Int × (List K4q) × (List (List Int)) × (List Int) × (List (List Int)) × (List Int) × (List (List Int)) × (List K3q) × (List Int) × Int × Bool × (List K2q) × Int) :=
 (core_Do k a0Parties a0Assets a0Cutoff a0Close a0Period a1Tick a1BooksAccts a1BooksBil a1BooksMul a1BooksPos a1Prices a1Holds a1Pays a1IDs a1Total a1Over a2Who a2MsgKind a2MsgF0 a2MsgF1 a2MsgF2 a2MsgF3 a2MsgF4 a2MsgF5).bind fun x0 =>
 bif !(decide (x0.2.2.2.2.2.2.2.2.2.2.2.2 = 0)) then some (a1Tick, a1BooksAccts, a1BooksBil, a1BooksMul, a1BooksPos, a1Prices, a1Holds, a1Pays, a1IDs, a1Total, a1Over, [], x0.2.2.2.2.2.2.2.2.2.2.2.2)
 else some (x0.1, x0.2.1, x0.2.2.1, x0.2.2.2.1, x0.2.2.2.2.1, x0.2.2.2.2.2.1, x0.2.2.2.2.2.2.1, x0.2.2.2.2.2.2.2.1, x0.2.2.2.2.2.2.2.2.1, x0.2.2.2.2.2.2.2.2.2.1, x0.2.2.2.2.2.2.2.2.2.2.1, x0.2.2.2.2.2.2.2.2.2.2.2.1, x0.2.2.2.2.2.2.2.2.2.2.2.2)

/-- giro/girolaw23.known -/
def girolaw23_known (k : Nat) : Option Bool :=
 (girolaw23_rules k 0).bind fun x0 =>
 (core_New k x0.1 x0.2.1 x0.2.2.1 x0.2.2.2.1 x0.2.2.2.2).bind fun x1 =>
 (girolaw23_cmd k (-1) 10 [0, 5]).bind fun x2 =>
 (girolaw23_step k x0.1 x0.2.1 x0.2.2.1 x0.2.2.2.1 x0.2.2.2.2 x1.1 x1.2.1 x1.2.2.1 x1.2.2.2.1 x1.2.2.2.2.1 x1.2.2.2.2.2.1 x1.2.2.2.2.2.2.1 x1.2.2.2.2.2.2.2.1 x1.2.2.2.2.2.2.2.2.1 x1.2.2.2.2.2.2.2.2.2.1 x1.2.2.2.2.2.2.2.2.2.2 x2.1 x2.2.1 x2.2.2.1 x2.2.2.2.1 x2.2.2.2.2.1 x2.2.2.2.2.2.1 x2.2.2.2.2.2.2.1 x2.2.2.2.2.2.2.2).bind fun x3 =>
 (girolaw23_cmd k 0 1 [1, 1, 3, 3, 0, 9]).bind fun x4 =>
 (girolaw23_step k x0.1 x0.2.1 x0.2.2.1 x0.2.2.2.1 x0.2.2.2.2 x3.1 x3.2.1 x3.2.2.1 x3.2.2.2.1 x3.2.2.2.2.1 x3.2.2.2.2.2.1 x3.2.2.2.2.2.2.1 x3.2.2.2.2.2.2.2.1 x3.2.2.2.2.2.2.2.2.1 x3.2.2.2.2.2.2.2.2.2.1 x3.2.2.2.2.2.2.2.2.2.2.1 x4.1 x4.2.1 x4.2.2.1 x4.2.2.2.1 x4.2.2.2.2.1 x4.2.2.2.2.2.1 x4.2.2.2.2.2.2.1 x4.2.2.2.2.2.2.2).bind fun x5 =>
 bif decide (x5.2.2.2.2.2.2.2.2.2.2.2.2 = 0) then (bif decide ((x5.2.2.2.2.2.2.2.2.2.2.2.1.length : Int) = 3) then (bif boundOk 0 x5.2.2.2.2.2.2.2.2.2.2.2.1.length then (bif decide ((x5.2.2.2.2.2.2.2.2.2.2.2.1.getD 0 (0, 0, 0, 0, 0, 0, 0, 0)).2.1 = 15) then (bif boundOk 1 x5.2.2.2.2.2.2.2.2.2.2.2.1.length then ((giroref3_Of k 18 [1, 0, 1, 3]).bind fun x6 =>
      bif (decide ((x5.2.2.2.2.2.2.2.2.2.2.2.1.getD 1 (0, 0, 0, 0, 0, 0, 0, 0)).2.1 = x6.1)) && ((decide ((x5.2.2.2.2.2.2.2.2.2.2.2.1.getD 1 (0, 0, 0, 0, 0, 0, 0, 0)).2.2.1 = x6.2.1)) && ((decide ((x5.2.2.2.2.2.2.2.2.2.2.2.1.getD 1 (0, 0, 0, 0, 0, 0, 0, 0)).2.2.2.1 = x6.2.2.1)) && ((decide ((x5.2.2.2.2.2.2.2.2.2.2.2.1.getD 1 (0, 0, 0, 0, 0, 0, 0, 0)).2.2.2.2.1 = x6.2.2.2.1)) && ((decide ((x5.2.2.2.2.2.2.2.2.2.2.2.1.getD 1 (0, 0, 0, 0, 0, 0, 0, 0)).2.2.2.2.2.1 = x6.2.2.2.2.1)) && ((decide ((x5.2.2.2.2.2.2.2.2.2.2.2.1.getD 1 (0, 0, 0, 0, 0, 0, 0, 0)).2.2.2.2.2.2.1 = x6.2.2.2.2.2.1)) && (decide ((x5.2.2.2.2.2.2.2.2.2.2.2.1.getD 1 (0, 0, 0, 0, 0, 0, 0, 0)).2.2.2.2.2.2.2 = x6.2.2.2.2.2.2))))))) then (bif decide (x5.2.2.2.2.2.2.2.2.2.1 = 5) then (bif decide ((x5.2.1.length : Int) = 3) then (bif boundOk 0 x5.2.1.length then some (decide ((x5.2.1.getD 0 (0, 0, 0)).1 = 2))
         else none)
        else some false)
       else some false)
      else some false)
     else none)
    else some false)
   else none)
  else some false)
 else some false

abbrev giroref2_Same_L0T : Type := List Int → List Int → Int → Option (Unit ⊕ Bool)
def giroref2_Same_L0b (k : Nat) (rec : giroref2_Same_L0T) (s0 : List Int) (s1 : List Int) (s5 : Int) : Option (Unit ⊕ Bool) :=
 bif decide (s5 < (s0.length : Int)) then (bif boundOk s5 s0.length then (bif boundOk s5 s1.length then (bif !(decide ((s0.getD s5.toNat 0) = (s1.getD s5.toNat 0))) then some (.inr false)
    else rec s0 s1 (w64 (s5 + 1)))
   else none)
  else none)
 else some (.inl ())
def giroref2_Same_L0 (k : Nat) : Nat → giroref2_Same_L0T
 | 0, _, _, _ => none
 | n + 1, s0, s1, s5 => giroref2_Same_L0b k (giroref2_Same_L0 k n) s0 s1 s5
/-- giro/giroref2.Same -/
def giroref2_Same (k : Nat) (a0 : List Int) (a1 : List Int) : Option Bool :=
 bif !(decide ((a0.length : Int) = (a1.length : Int))) then some false
 else (giroref2_Same_L0 k k a0 a1 0).bind fun z =>
 match z with
 | .inl z1 => some true
 | .inr z2 => some z2

abbrev giroref10_Rows_L0T : Type := List (List Int) → List (List Int) → Int → Option (Unit ⊕ Bool)
def giroref10_Rows_L0b (k : Nat) (rec : giroref10_Rows_L0T) (s0 : List (List Int)) (s1 : List (List Int)) (s5 : Int) : Option (Unit ⊕ Bool) :=
 bif decide (s5 < (s0.length : Int)) then (bif boundOk s5 s0.length then (bif boundOk s5 s1.length then ((giroref2_Same k (s0.getD s5.toNat []) (s1.getD s5.toNat [])).bind fun x0 =>
    bif !x0 then some (.inr false)
    else rec s0 s1 (w64 (s5 + 1)))
   else none)
  else none)
 else some (.inl ())
def giroref10_Rows_L0 (k : Nat) : Nat → giroref10_Rows_L0T
 | 0, _, _, _ => none
 | n + 1, s0, s1, s5 => giroref10_Rows_L0b k (giroref10_Rows_L0 k n) s0 s1 s5
/-- giro/giroref10.Rows -/
def giroref10_Rows (k : Nat) (a0 : List (List Int)) (a1 : List (List Int)) : Option Bool :=
 bif !(decide ((a0.length : Int) = (a1.length : Int))) then some false
 else (giroref10_Rows_L0 k k a0 a1 0).bind fun z =>
 match z with
 | .inl z1 => some true
 | .inr z2 => some z2

abbrev giroref10_Same_L0T : Type := Int → List K4q → List (List Int) → List Int → List (List Int) → List K4q → List (List Int) → List Int → List (List Int) → Option (Unit ⊕ Bool)
def giroref10_Same_L0b (k : Nat) (rec : giroref10_Same_L0T) (s5 : Int) (b0_0 : List K4q) (b0_1 : List (List Int)) (b0_2 : List Int) (b0_3 : List (List Int)) (b1_0 : List K4q) (b1_1 : List (List Int)) (b1_2 : List Int) (b1_3 : List (List Int)) : Option (Unit ⊕ Bool) :=
 bif decide (s5 < (b0_0.length : Int)) then (bif boundOk s5 b0_0.length then (bif boundOk s5 b1_0.length then (bif !((decide ((b0_0.getD s5.toNat (0, 0, 0)).1 = (b1_0.getD s5.toNat (0, 0, 0)).1)) && ((decide ((b0_0.getD s5.toNat (0, 0, 0)).2.1 = (b1_0.getD s5.toNat (0, 0, 0)).2.1)) && (decide ((b0_0.getD s5.toNat (0, 0, 0)).2.2 = (b1_0.getD s5.toNat (0, 0, 0)).2.2)))) then some (.inr false)
    else rec (w64 (s5 + 1)) b0_0 b0_1 b0_2 b0_3 b1_0 b1_1 b1_2 b1_3)
   else none)
  else none)
 else some (.inl ())
def giroref10_Same_L0 (k : Nat) : Nat → giroref10_Same_L0T
 | 0, _, _, _, _, _, _, _, _, _ => none
 | n + 1, s5, b0_0, b0_1, b0_2, b0_3, b1_0, b1_1, b1_2, b1_3 => giroref10_Same_L0b k (giroref10_Same_L0 k n) s5 b0_0 b0_1 b0_2 b0_3 b1_0 b1_1 b1_2 b1_3
/-- giro/giroref10.Same -/
def giroref10_Same (k : Nat) (a0Accts : List K4q) (a0Bil : List (List Int)) (a0Mul : List Int) (a0Pos : List (List Int)) (a1Accts : List K4q) (a1Bil : List (List Int)) (a1Mul : List Int) (a1Pos : List (List Int)) : Option Bool :=
 bif !(decide ((a0Accts.length : Int) = (a1Accts.length : Int))) then some false
 else (giroref10_Rows k a0Bil a1Bil).bind fun x0 =>
 bif !x0 then some false
 else (giroref10_Rows k a0Pos a1Pos).bind fun x1 =>
 bif !x1 then some false
 else (giroref2_Same k a0Mul a1Mul).bind fun x2 =>
 bif !x2 then some false
 else (giroref10_Same_L0 k k 0 a0Accts a0Bil a0Mul a0Pos a1Accts a1Bil a1Mul a1Pos).bind fun z =>
 match z with
 | .inl z1 => some true
 | .inr z2 => some z2

abbrev giroref11_Same_L0T : Type := List K3q → List K3q → Int → Option (Unit ⊕ Bool)
def giroref11_Same_L0b (k : Nat) (rec : giroref11_Same_L0T) (s0 : List K3q) (s1 : List K3q) (s5 : Int) : Option (Unit ⊕ Bool) :=
 bif decide (s5 < (s0.length : Int)) then (bif boundOk s5 s0.length then (bif boundOk s5 s1.length then (bif !((decide ((s0.getD s5.toNat (0, 0, 0, 0, 0, 0, 0)).1 = (s1.getD s5.toNat (0, 0, 0, 0, 0, 0, 0)).1)) && ((decide ((s0.getD s5.toNat (0, 0, 0, 0, 0, 0, 0)).2.1 = (s1.getD s5.toNat (0, 0, 0, 0, 0, 0, 0)).2.1)) && ((decide ((s0.getD s5.toNat (0, 0, 0, 0, 0, 0, 0)).2.2.1 = (s1.getD s5.toNat (0, 0, 0, 0, 0, 0, 0)).2.2.1)) && ((decide ((s0.getD s5.toNat (0, 0, 0, 0, 0, 0, 0)).2.2.2.1 = (s1.getD s5.toNat (0, 0, 0, 0, 0, 0, 0)).2.2.2.1)) && ((decide ((s0.getD s5.toNat (0, 0, 0, 0, 0, 0, 0)).2.2.2.2.1 = (s1.getD s5.toNat (0, 0, 0, 0, 0, 0, 0)).2.2.2.2.1)) && ((decide ((s0.getD s5.toNat (0, 0, 0, 0, 0, 0, 0)).2.2.2.2.2.1 = (s1.getD s5.toNat (0, 0, 0, 0, 0, 0, 0)).2.2.2.2.2.1)) && (decide ((s0.getD s5.toNat (0, 0, 0, 0, 0, 0, 0)).2.2.2.2.2.2 = (s1.getD s5.toNat (0, 0, 0, 0, 0, 0, 0)).2.2.2.2.2.2)))))))) then some (.inr false)
    else rec s0 s1 (w64 (s5 + 1)))
   else none)
  else none)
 else some (.inl ())
def giroref11_Same_L0 (k : Nat) : Nat → giroref11_Same_L0T
 | 0, _, _, _ => none
 | n + 1, s0, s1, s5 => giroref11_Same_L0b k (giroref11_Same_L0 k n) s0 s1 s5
/-- giro/giroref11.Same -/
def giroref11_Same (k : Nat) (a0 : List K3q) (a1 : List K3q) : Option Bool :=
 bif !(decide ((a0.length : Int) = (a1.length : Int))) then some false
 else (giroref11_Same_L0 k k a0 a1 0).bind fun z =>
 match z with
 | .inl z1 => some true
 | .inr z2 => some z2

/-- giro/giroref24.Same -/
def giroref24_Same (k : Nat) (a0Tick : Int) (a0BooksAccts : List K4q) (a0BooksBil : List (List Int)) (a0BooksMul : List Int) (a0BooksPos : List (List Int)) (a0Prices : List Int) (a0Holds : List (List Int)) (a0Pays : List K3q) (a0IDs : List Int) (a0Total : Int) (a0Over : Bool) (a1Tick : Int) (a1BooksAccts : List K4q) (a1BooksBil : List (List Int)) (a1BooksMul : List Int) (a1BooksPos : List (List Int)) (a1Prices : List Int) (a1Holds : List (List Int)) (a1Pays : List K3q) (a1IDs : List Int) (a1Total : Int) (a1Over : Bool) : Option Bool :=
 bif decide (a0Tick = a1Tick) then (bif decide (a0Total = a1Total) then (bif eqBool a0Over a1Over then ((giroref10_Same k a0BooksAccts a0BooksBil a0BooksMul a0BooksPos a1BooksAccts a1BooksBil a1BooksMul a1BooksPos).bind fun x0 =>
    bif x0 then ((giroref2_Same k a0Prices a1Prices).bind fun x1 =>
     bif x1 then ((giroref10_Rows k a0Holds a1Holds).bind fun x2 =>
      bif x2 then ((giroref11_Same k a0Pays a1Pays).bind fun x3 =>
       bif x3 then ((giroref2_Same k a0IDs a1IDs).bind fun x4 =>
        some x4)
       else some false)
      else some false)
     else some false)
    else some false)
   else some false)
  else some false)
 else some false

abbrev girolaw23_CoreRefused_L0X : Type := Int × Int × Int × Int × Int × Int × Int × Int × Int × Int × Int × Int × (List K5q) × Int × (List K4q) × (List (List Int)) × (List Int) × (List (List Int)) × (List Int) × (List (List Int)) × (List K3q) × (List Int) × Int × Bool
abbrev girolaw23_CoreRefused_L0T : Type := List K2q → Int → Int → Int → Int → Int → Int → Int → Int → Int → Int → Int → Int → Int → List K5q → Int → List K4q → List (List Int) → List Int → List (List Int) → List Int → List (List Int) → List K3q → List Int → Int → Bool → Option girolaw23_CoreRefused_L0X
def girolaw23_CoreRefused_L0b (k : Nat) (rec : girolaw23_CoreRefused_L0T) (s1 : List K2q) (s9 : Int) (b0_0 : Int) (b0_1 : Int) (b0_2 : Int) (b0_3 : Int) (b0_4 : Int) (b0_5 : Int) (b0_6 : Int) (b0_7 : Int) (b1_0 : Int) (b1_2 : Int) (b1_3 : Int) (b1_4 : Int) (r2 : List K5q) (b3_0 : Int) (b3_1 : List K4q) (b3_2 : List (List Int)) (b3_3 : List Int) (b3_4 : List (List Int)) (b3_5 : List Int) (b3_6 : List (List Int)) (b3_7 : List K3q) (b3_8 : List Int) (b3_9 : Int) (b3_10 : Bool) : Option girolaw23_CoreRefused_L0X :=
 bif decide (s9 < (s1.length : Int)) then (bif boundOk s9 s1.length then ((girolaw23_step k b1_0 r2 b1_2 b1_3 b1_4 b3_0 b3_1 b3_2 b3_3 b3_4 b3_5 b3_6 b3_7 b3_8 b3_9 b3_10 (s1.getD s9.toNat (0, 0, 0, 0, 0, 0, 0, 0)).1 (s1.getD s9.toNat (0, 0, 0, 0, 0, 0, 0, 0)).2.1 (s1.getD s9.toNat (0, 0, 0, 0, 0, 0, 0, 0)).2.2.1 (s1.getD s9.toNat (0, 0, 0, 0, 0, 0, 0, 0)).2.2.2.1 (s1.getD s9.toNat (0, 0, 0, 0, 0, 0, 0, 0)).2.2.2.2.1 (s1.getD s9.toNat (0, 0, 0, 0, 0, 0, 0, 0)).2.2.2.2.2.1 (s1.getD s9.toNat (0, 0, 0, 0, 0, 0, 0, 0)).2.2.2.2.2.2.1 (s1.getD s9.toNat (0, 0, 0, 0, 0, 0, 0, 0)).2.2.2.2.2.2.2).bind fun x2 =>
   rec s1 (w64 (s9 + 1)) b0_0 b0_1 b0_2 b0_3 b0_4 b0_5 b0_6 b0_7 b1_0 b1_2 b1_3 b1_4 r2 x2.1 x2.2.1 x2.2.2.1 x2.2.2.2.1 x2.2.2.2.2.1 x2.2.2.2.2.2.1 x2.2.2.2.2.2.2.1 x2.2.2.2.2.2.2.2.1 x2.2.2.2.2.2.2.2.2.1 x2.2.2.2.2.2.2.2.2.2.1 x2.2.2.2.2.2.2.2.2.2.2.1)
  else none)
 else some (b0_0, b0_1, b0_2, b0_3, b0_4, b0_5, b0_6, b0_7, b1_0, b1_2, b1_3, b1_4, r2, b3_0, b3_1, b3_2, b3_3, b3_4, b3_5, b3_6, b3_7, b3_8, b3_9, b3_10)
def girolaw23_CoreRefused_L0 (k : Nat) : Nat → girolaw23_CoreRefused_L0T
 | 0, _, _, _, _, _, _, _, _, _, _, _, _, _, _, _, _, _, _, _, _, _, _, _, _, _, _ => none
 | n + 1, s1, s9, b0_0, b0_1, b0_2, b0_3, b0_4, b0_5, b0_6, b0_7, b1_0, b1_2, b1_3, b1_4, r2, b3_0, b3_1, b3_2, b3_3, b3_4, b3_5, b3_6, b3_7, b3_8, b3_9, b3_10 => girolaw23_CoreRefused_L0b k (girolaw23_CoreRefused_L0 k n) s1 s9 b0_0 b0_1 b0_2 b0_3 b0_4 b0_5 b0_6 b0_7 b1_0 b1_2 b1_3 b1_4 r2 b3_0 b3_1 b3_2 b3_3 b3_4 b3_5 b3_6 b3_7 b3_8 b3_9 b3_10
/-- giro/girolaw23.CoreRefused -/
def girolaw23_CoreRefused (k : Nat) (a0 : Int) (a1 : List K2q) (a2Who : Int) (a2MsgKind : Int) (a2MsgF0 : Int) (a2MsgF1 : Int) (a2MsgF2 : Int) (a2MsgF3 : Int) (a2MsgF4 : Int) (a2MsgF5 : Int) : Option Bool :=
 bif decide ((a1.length : Int) > 100) then some true
 else (girolaw23_rules k a0).bind fun x0 =>
 (core_New k x0.1 x0.2.1 x0.2.2.1 x0.2.2.2.1 x0.2.2.2.2).bind fun x1 =>
 (girolaw23_CoreRefused_L0 k k a1 0 a2Who a2MsgKind a2MsgF0 a2MsgF1 a2MsgF2 a2MsgF3 a2MsgF4 a2MsgF5 x0.1 x0.2.2.1 x0.2.2.2.1 x0.2.2.2.2 x0.2.1 x1.1 x1.2.1 x1.2.2.1 x1.2.2.2.1 x1.2.2.2.2.1 x1.2.2.2.2.2.1 x1.2.2.2.2.2.2.1 x1.2.2.2.2.2.2.2.1 x1.2.2.2.2.2.2.2.2.1 x1.2.2.2.2.2.2.2.2.2.1 x1.2.2.2.2.2.2.2.2.2.2).bind fun z =>
 (core_Do k z.2.2.2.2.2.2.2.2.1 z.2.2.2.2.2.2.2.2.2.2.2.2.1 z.2.2.2.2.2.2.2.2.2.1 z.2.2.2.2.2.2.2.2.2.2.1 z.2.2.2.2.2.2.2.2.2.2.2.1 z.2.2.2.2.2.2.2.2.2.2.2.2.2.1 z.2.2.2.2.2.2.2.2.2.2.2.2.2.2.1 z.2.2.2.2.2.2.2.2.2.2.2.2.2.2.2.1 z.2.2.2.2.2.2.2.2.2.2.2.2.2.2.2.2.1 z.2.2.2.2.2.2.2.2.2.2.2.2.2.2.2.2.2.1 z.2.2.2.2.2.2.2.2.2.2.2.2.2.2.2.2.2.2.1 z.2.2.2.2.2.2.2.2.2.2.2.2.2.2.2.2.2.2.2.1 z.2.2.2.2.2.2.2.2.2.2.2.2.2.2.2.2.2.2.2.2.1 z.2.2.2.2.2.2.2.2.2.2.2.2.2.2.2.2.2.2.2.2.2.1 z.2.2.2.2.2.2.2.2.2.2.2.2.2.2.2.2.2.2.2.2.2.2.1 z.2.2.2.2.2.2.2.2.2.2.2.2.2.2.2.2.2.2.2.2.2.2.2 z.1 z.2.1 z.2.2.1 z.2.2.2.1 z.2.2.2.2.1 z.2.2.2.2.2.1 z.2.2.2.2.2.2.1 z.2.2.2.2.2.2.2.1).bind fun x3 =>
 bif decide (x3.2.2.2.2.2.2.2.2.2.2.2.2 = 0) then ((girolaw23_known k).bind fun x4 =>
  some x4)
 else (giroref24_Same k z.2.2.2.2.2.2.2.2.2.2.2.2.2.1 z.2.2.2.2.2.2.2.2.2.2.2.2.2.2.1 z.2.2.2.2.2.2.2.2.2.2.2.2.2.2.2.1 z.2.2.2.2.2.2.2.2.2.2.2.2.2.2.2.2.1 z.2.2.2.2.2.2.2.2.2.2.2.2.2.2.2.2.2.1 z.2.2.2.2.2.2.2.2.2.2.2.2.2.2.2.2.2.2.1 z.2.2.2.2.2.2.2.2.2.2.2.2.2.2.2.2.2.2.2.1 z.2.2.2.2.2.2.2.2.2.2.2.2.2.2.2.2.2.2.2.2.1 z.2.2.2.2.2.2.2.2.2.2.2.2.2.2.2.2.2.2.2.2.2.1 z.2.2.2.2.2.2.2.2.2.2.2.2.2.2.2.2.2.2.2.2.2.2.1 z.2.2.2.2.2.2.2.2.2.2.2.2.2.2.2.2.2.2.2.2.2.2.2 x3.1 x3.2.1 x3.2.2.1 x3.2.2.2.1 x3.2.2.2.2.1 x3.2.2.2.2.2.1 x3.2.2.2.2.2.2.1 x3.2.2.2.2.2.2.2.1 x3.2.2.2.2.2.2.2.2.1 x3.2.2.2.2.2.2.2.2.2.1 x3.2.2.2.2.2.2.2.2.2.2.1).bind fun x5 =>
 bif x5 then (bif decide ((x3.2.2.2.2.2.2.2.2.2.2.2.1.length : Int) = 0) then ((girolaw23_known k).bind fun x6 =>
   some x6)
  else some false)
 else some false

end Go.Ab.Gi
