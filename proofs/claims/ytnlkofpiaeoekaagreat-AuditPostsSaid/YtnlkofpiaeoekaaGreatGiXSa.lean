/- Shallow functions, printed (abprint.py). -/
import Derived.Test.YtnlkofpiaeoekaaGreatGiAbD
set_option linter.unusedVariables false
set_option maxRecDepth 100000
namespace Go.Ab.Gi

abbrev y0q : Go.Ab.Ty := .pair (.int .i64) (.int .i64)
abbrev K1q : Type := Int × Bool
abbrev K2q : Type := Int × Int × Int × Int × Int × Int × Int × Int
abbrev K3q : Type := Int × Int × Int × Int × Int × Int × Int
abbrev K4q : Type := Int × Int × Int
abbrev K5q : Type := Int × Int
abbrev y6q : Go.Ab.Ty := .pair (.int .i64) y0q
abbrev y7q : Go.Ab.Ty := .pair (.int .i64) y6q
abbrev y8q : Go.Ab.Ty := .pair (.int .i64) y7q
abbrev y9q : Go.Ab.Ty := .pair (.int .i64) y8q
abbrev y10q : Go.Ab.Ty := .pair (.int .i64) y9q

abbrev girolaw27_some_L0X : Type := Int × (List K4q) × (List (List Int)) × (List Int) × (List (List Int))
abbrev girolaw27_some_L0T : Type := List Int → Int → Int → List K4q → List (List Int) → List Int → List (List Int) → Option girolaw27_some_L0X
def girolaw27_some_L0b (k : Nat) (rec : girolaw27_some_L0T) (s0 : List Int) (s1 : Int) (s6 : Int) (r2 : List K4q) (m3 : List (List Int)) (r4 : List Int) (m5 : List (List Int)) : Option girolaw27_some_L0X :=
 bif decide (s6 < 3) then (bif decide (s6 < (s0.length : Int)) then (bif boundOk s6 s0.length then (bif roomB (r2.length + 1) 24 then (rec s0 s1 (w64 (s6 + 1)) (r2 ++ [((band .i64 (s0.getD s6.toNat 0) 63), 0, 0)]) m3 r4 m5)
    else none)
   else none)
  else bif roomB (r2.length + 1) 24 then (rec s0 s1 (w64 (s6 + 1)) (r2 ++ [(0, 0, 0)]) m3 r4 m5)
  else none)
 else some (s1, r2, m3, r4, m5)
def girolaw27_some_L0 (k : Nat) : Nat → girolaw27_some_L0T
 | 0, _, _, _, _, _, _, _ => none
 | n + 1, s0, s1, s6, r2, m3, r4, m5 => girolaw27_some_L0b k (girolaw27_some_L0 k n) s0 s1 s6 r2 m3 r4 m5
/-- giro/girolaw27.some -/
def girolaw27_some (k : Nat) (a0 : List Int) (a1 : Int) : Option ((List K4q) × (List (List Int)) × (List Int) × (List (List Int))) :=
 (girolaw27_some_L0 k k a0 a1 0 [] [[(-1), (-1), (-1)], [(-1), (-1), (-1)], [(-1), (-1), (-1)]] [(-1), (-1), (-1)] [[0, 0, 0], [0, 0, 0], [0, 0, 0]]).bind fun z =>
 bif decide ((band .i64 z.1 1) = 1) then (bif boundOk 0 z.2.1.length then (let y0 : List K4q := (z.2.1.set 0 ((z.2.1.getD 0 (0, 0, 0)).1, 7, (z.2.1.getD 0 (0, 0, 0)).2.2))
   bif boundOk 1 y0.length then (let y1 : List K4q := (y0.set 1 ((y0.getD 1 (0, 0, 0)).1, (y0.getD 1 (0, 0, 0)).2.1, 5))
    bif boundOk 2 y1.length then (let y2 : List K4q := (y1.set 2 ((y1.getD 2 (0, 0, 0)).1, 3, (y1.getD 2 (0, 0, 0)).2.2))
     bif decide ((band .i64 z.1 2) = 2) then (bif boundOk 0 z.2.2.1.length then (bif boundOk 1 z.2.2.1.length then (bif boundOk 1 (z.2.2.1.getD 0 []).length then (let y3 : List (List Int) := (z.2.2.1.set 0 ((z.2.2.1.getD 0 []).set 1 6))
         bif boundOk 2 (y3.getD 1 []).length then (bif boundOk 2 z.2.2.2.1.length then (bif decide ((band .i64 z.1 4) = 4) then (bif boundOk 0 z.2.2.2.2.length then (bif boundOk 1 z.2.2.2.2.length then (bif boundOk 1 (z.2.2.2.2.getD 0 []).length then (let y4 : List (List Int) := (z.2.2.2.2.set 0 ((z.2.2.2.2.getD 0 []).set 1 3))
               bif boundOk 0 (y4.getD 1 []).length then (bif boundOk 2 y2.length then (let y5 : List K4q := (y2.set 2 ((y2.getD 2 (0, 0, 0)).1, (y2.getD 2 (0, 0, 0)).2.1, 9))
                 bif boundOk 0 (z.2.2.2.1.set 2 4).length then some (y5, (y3.set 1 ((y3.getD 1 []).set 2 0)), ((z.2.2.2.1.set 2 4).set 0 8), (y4.set 1 ((y4.getD 1 []).set 0 (-3))))
                 else none)
                else none)
               else none)
              else none)
             else none)
            else none)
           else some (y2, (y3.set 1 ((y3.getD 1 []).set 2 0)), (z.2.2.2.1.set 2 4), z.2.2.2.2))
          else none)
         else none)
        else none)
       else none)
      else none)
     else bif decide ((band .i64 z.1 4) = 4) then (bif boundOk 0 z.2.2.2.2.length then (bif boundOk 1 z.2.2.2.2.length then (bif boundOk 1 (z.2.2.2.2.getD 0 []).length then (let y6 : List (List Int) := (z.2.2.2.2.set 0 ((z.2.2.2.2.getD 0 []).set 1 3))
         bif boundOk 0 (y6.getD 1 []).length then (bif boundOk 2 y2.length then (let y7 : List K4q := (y2.set 2 ((y2.getD 2 (0, 0, 0)).1, (y2.getD 2 (0, 0, 0)).2.1, 9))
           bif boundOk 0 z.2.2.2.1.length then some (y7, z.2.2.1, (z.2.2.2.1.set 0 8), (y6.set 1 ((y6.getD 1 []).set 0 (-3))))
           else none)
          else none)
         else none)
        else none)
       else none)
      else none)
     else some (y2, z.2.2.1, z.2.2.2.1, z.2.2.2.2))
    else none)
   else none)
  else none)
 else bif decide ((band .i64 z.1 2) = 2) then (bif boundOk 0 z.2.2.1.length then (bif boundOk 1 z.2.2.1.length then (bif boundOk 1 (z.2.2.1.getD 0 []).length then (let y8 : List (List Int) := (z.2.2.1.set 0 ((z.2.2.1.getD 0 []).set 1 6))
     bif boundOk 2 (y8.getD 1 []).length then (bif boundOk 2 z.2.2.2.1.length then (bif decide ((band .i64 z.1 4) = 4) then (bif boundOk 0 z.2.2.2.2.length then (bif boundOk 1 z.2.2.2.2.length then (bif boundOk 1 (z.2.2.2.2.getD 0 []).length then (let y9 : List (List Int) := (z.2.2.2.2.set 0 ((z.2.2.2.2.getD 0 []).set 1 3))
           bif boundOk 0 (y9.getD 1 []).length then (bif boundOk 2 z.2.1.length then (let y10 : List K4q := (z.2.1.set 2 ((z.2.1.getD 2 (0, 0, 0)).1, (z.2.1.getD 2 (0, 0, 0)).2.1, 9))
             bif boundOk 0 (z.2.2.2.1.set 2 4).length then some (y10, (y8.set 1 ((y8.getD 1 []).set 2 0)), ((z.2.2.2.1.set 2 4).set 0 8), (y9.set 1 ((y9.getD 1 []).set 0 (-3))))
             else none)
            else none)
           else none)
          else none)
         else none)
        else none)
       else some (z.2.1, (y8.set 1 ((y8.getD 1 []).set 2 0)), (z.2.2.2.1.set 2 4), z.2.2.2.2))
      else none)
     else none)
    else none)
   else none)
  else none)
 else bif decide ((band .i64 z.1 4) = 4) then (bif boundOk 0 z.2.2.2.2.length then (bif boundOk 1 z.2.2.2.2.length then (bif boundOk 1 (z.2.2.2.2.getD 0 []).length then (let y11 : List (List Int) := (z.2.2.2.2.set 0 ((z.2.2.2.2.getD 0 []).set 1 3))
     bif boundOk 0 (y11.getD 1 []).length then (bif boundOk 2 z.2.1.length then (let y12 : List K4q := (z.2.1.set 2 ((z.2.1.getD 2 (0, 0, 0)).1, (z.2.1.getD 2 (0, 0, 0)).2.1, 9))
       bif boundOk 0 z.2.2.2.1.length then some (y12, z.2.2.1, (z.2.2.2.1.set 0 8), (y11.set 1 ((y11.getD 1 []).set 0 (-3))))
       else none)
      else none)
     else none)
    else none)
   else none)
  else none)
 else some (z.2.1, z.2.2.1, z.2.2.2.1, z.2.2.2.2)

abbrev giroref13_Find_L0T : Type := List K3q → Int → Int → Option (Unit ⊕ Int)
def giroref13_Find_L0b (k : Nat) (rec : giroref13_Find_L0T) (s0 : List K3q) (s1 : Int) (s5 : Int) : Option (Unit ⊕ Int) :=
 bif decide (s5 < (s0.length : Int)) then (bif boundOk s5 s0.length then (bif decide ((s0.getD s5.toNat (0, 0, 0, 0, 0, 0, 0)).1 = s1) then some (.inr s5)
   else rec s0 s1 (w64 (s5 + 1)))
  else none)
 else some (.inl ())
def giroref13_Find_L0 (k : Nat) : Nat → giroref13_Find_L0T
 | 0, _, _, _ => none
 | n + 1, s0, s1, s5 => giroref13_Find_L0b k (giroref13_Find_L0 k n) s0 s1 s5
/-- giro/giroref13.Find -/
def giroref13_Find (k : Nat) (a0 : List K3q) (a1 : Int) : Option Int :=
 (giroref13_Find_L0 k k a0 a1 0).bind fun z =>
 match z with
 | .inl z1 => some (-1)
 | .inr z2 => some z2

/-- giro/giroref13.ahead -/
def giroref13_ahead (k : Nat) (a0ID : Int) (a0From : Int) (a0To : Int) (a0Amount : Int) (a0Class : Int) (a0Start : Int) (a0Till : Int) (a1ID : Int) (a1From : Int) (a1To : Int) (a1Amount : Int) (a1Class : Int) (a1Start : Int) (a1Till : Int) : Option Bool :=
 bif decide (a0From < a1From) then some true
 else bif decide (a0From = a1From) then some (decide (a0Class ≤ a1Class))
 else some false

abbrev giroref13_behind_L0T : Type := List K3q → Int → Int → Int → Int → Int → Int → Int → Int → Option Int
def giroref13_behind_L0b (k : Nat) (rec : giroref13_behind_L0T) (s0 : List K3q) (s5 : Int) (b0_0 : Int) (b0_1 : Int) (b0_2 : Int) (b0_3 : Int) (b0_4 : Int) (b0_5 : Int) (b0_6 : Int) : Option Int :=
 bif decide (s5 < (s0.length : Int)) then (bif boundOk s5 s0.length then ((giroref13_ahead k (s0.getD s5.toNat (0, 0, 0, 0, 0, 0, 0)).1 (s0.getD s5.toNat (0, 0, 0, 0, 0, 0, 0)).2.1 (s0.getD s5.toNat (0, 0, 0, 0, 0, 0, 0)).2.2.1 (s0.getD s5.toNat (0, 0, 0, 0, 0, 0, 0)).2.2.2.1 (s0.getD s5.toNat (0, 0, 0, 0, 0, 0, 0)).2.2.2.2.1 (s0.getD s5.toNat (0, 0, 0, 0, 0, 0, 0)).2.2.2.2.2.1 (s0.getD s5.toNat (0, 0, 0, 0, 0, 0, 0)).2.2.2.2.2.2 b0_0 b0_1 b0_2 b0_3 b0_4 b0_5 b0_6).bind fun x0 =>
   bif x0 then (rec s0 (w64 (s5 + 1)) b0_0 b0_1 b0_2 b0_3 b0_4 b0_5 b0_6)
   else some s5)
  else none)
 else some s5
def giroref13_behind_L0 (k : Nat) : Nat → giroref13_behind_L0T
 | 0, _, _, _, _, _, _, _, _, _ => none
 | n + 1, s0, s5, b0_0, b0_1, b0_2, b0_3, b0_4, b0_5, b0_6 => giroref13_behind_L0b k (giroref13_behind_L0 k n) s0 s5 b0_0 b0_1 b0_2 b0_3 b0_4 b0_5 b0_6
/-- giro/giroref13.behind -/
def giroref13_behind (k : Nat) (a0 : List K3q) (a1ID : Int) (a1From : Int) (a1To : Int) (a1Amount : Int) (a1Class : Int) (a1Start : Int) (a1Till : Int) : Option Int :=
 (giroref13_behind_L0 k k a0 0 a1ID a1From a1To a1Amount a1Class a1Start a1Till).bind fun z =>
 some z

/-- giro/giroref13.insert -/
def giroref13_insert (k : Nat) (a0 : List K3q) (a1 : Int) (a2ID : Int) (a2From : Int) (a2To : Int) (a2Amount : Int) (a2Class : Int) (a2Start : Int) (a2Till : Int) : Option (List K3q) :=
 bif (decide (0 ≤ a1)) && (decide (a1 ≤ (a0.length : Int))) then (bif roomB (0 + (List.take a1.toNat a0).length) 56 then (bif roomB ((List.take a1.toNat a0).length + 1) 56 then (let y0 : List K3q := ((List.take a1.toNat a0) ++ [(a2ID, a2From, a2To, a2Amount, a2Class, a2Start, a2Till)])
    bif (decide (0 ≤ a1)) && (decide (a1 ≤ (a0.length : Int))) then (bif roomB (y0.length + (List.drop a1.toNat a0).length) 56 then some (y0 ++ (List.drop a1.toNat a0))
     else none)
    else none)
   else none)
  else none)
 else none

/-- giro/giroref13.Put -/
def giroref13_Put (k : Nat) (a0 : List K3q) (a1ID : Int) (a1From : Int) (a1To : Int) (a1Amount : Int) (a1Class : Int) (a1Start : Int) (a1Till : Int) : Option ((List K3q) × Int) :=
 (giroref13_Find k a0 a1ID).bind fun x0 =>
 bif decide (x0 ≥ 0) then some (a0, 6)
 else bif decide ((a0.length : Int) ≥ 40) then some (a0, 3)
 else (giroref13_behind k a0 a1ID a1From a1To a1Amount a1Class a1Start a1Till).bind fun x1 =>
 (giroref13_insert k a0 x1 a1ID a1From a1To a1Amount a1Class a1Start a1Till).bind fun x2 =>
 some (x2, 0)

abbrev girolaw27_rowed_L0X : Type := List K3q
abbrev girolaw27_rowed_L0T : Type := List K3q → List K3q → Int → Option girolaw27_rowed_L0X
def girolaw27_rowed_L0b (k : Nat) (rec : girolaw27_rowed_L0T) (s0 : List K3q) (s3 : List K3q) (s4 : Int) : Option girolaw27_rowed_L0X :=
 bif decide (s4 < (s0.length : Int)) then (bif boundOk s4 s0.length then (bif decide ((Int.tmod (band .i64 (s0.getD s4.toNat (0, 0, 0, 0, 0, 0, 0)).2.1 255) 3) = (Int.tmod (band .i64 (s0.getD s4.toNat (0, 0, 0, 0, 0, 0, 0)).2.2.1 255) 3)) then ((giroref13_Put k s3 (w64 (s4 + 1)) (Int.tmod (band .i64 (s0.getD s4.toNat (0, 0, 0, 0, 0, 0, 0)).2.1 255) 3) (Int.tmod (w64 ((Int.tmod (band .i64 (s0.getD s4.toNat (0, 0, 0, 0, 0, 0, 0)).2.1 255) 3) + 1)) 3) (w64 (1 + (band .i64 (s0.getD s4.toNat (0, 0, 0, 0, 0, 0, 0)).2.2.2.1 31))) (w64 (1 + (Int.tmod (band .i64 (s0.getD s4.toNat (0, 0, 0, 0, 0, 0, 0)).2.2.2.2.1 255) 3))) (band .i64 (s0.getD s4.toNat (0, 0, 0, 0, 0, 0, 0)).2.2.2.2.2.1 7) (w64 ((band .i64 (s0.getD s4.toNat (0, 0, 0, 0, 0, 0, 0)).2.2.2.2.2.1 7) + (band .i64 (s0.getD s4.toNat (0, 0, 0, 0, 0, 0, 0)).2.2.2.2.2.2 15)))).bind fun x0 =>
    bif decide (x0.2 = 0) then (rec s0 x0.1 (w64 (s4 + 1)))
    else rec s0 s3 (w64 (s4 + 1)))
   else (giroref13_Put k s3 (w64 (s4 + 1)) (Int.tmod (band .i64 (s0.getD s4.toNat (0, 0, 0, 0, 0, 0, 0)).2.1 255) 3) (Int.tmod (band .i64 (s0.getD s4.toNat (0, 0, 0, 0, 0, 0, 0)).2.2.1 255) 3) (w64 (1 + (band .i64 (s0.getD s4.toNat (0, 0, 0, 0, 0, 0, 0)).2.2.2.1 31))) (w64 (1 + (Int.tmod (band .i64 (s0.getD s4.toNat (0, 0, 0, 0, 0, 0, 0)).2.2.2.2.1 255) 3))) (band .i64 (s0.getD s4.toNat (0, 0, 0, 0, 0, 0, 0)).2.2.2.2.2.1 7) (w64 ((band .i64 (s0.getD s4.toNat (0, 0, 0, 0, 0, 0, 0)).2.2.2.2.2.1 7) + (band .i64 (s0.getD s4.toNat (0, 0, 0, 0, 0, 0, 0)).2.2.2.2.2.2 15)))).bind fun x1 =>
   bif decide (x1.2 = 0) then (rec s0 x1.1 (w64 (s4 + 1)))
   else rec s0 s3 (w64 (s4 + 1)))
  else none)
 else some s3
def girolaw27_rowed_L0 (k : Nat) : Nat → girolaw27_rowed_L0T
 | 0, _, _, _ => none
 | n + 1, s0, s3, s4 => girolaw27_rowed_L0b k (girolaw27_rowed_L0 k n) s0 s3 s4
/-- giro/girolaw27.rowed -/
def girolaw27_rowed (k : Nat) (a0 : List K3q) : Option (List K3q) :=
 (girolaw27_rowed_L0 k k a0 [] 0).bind fun z =>
 some z

/-- giro/pay.Ready -/
def pay_Ready (k : Nat) (a0ID : Int) (a0From : Int) (a0To : Int) (a0Amount : Int) (a0Class : Int) (a0Start : Int) (a0Till : Int) (a1 : Int) : Option Bool :=
 bif decide (a1 ≥ a0Start) then some (decide (a1 ≤ a0Till))
 else some false

/-- giro/view.Ready$1 -/
def view_Ready_fn1 (k : Nat) (a0ID : Int) (a0From : Int) (a0To : Int) (a0Amount : Int) (a0Class : Int) (a0Start : Int) (a0Till : Int) (a1 : Int) : Option Bool :=
 (pay_Ready k a0ID a0From a0To a0Amount a0Class a0Start a0Till a1).bind fun x0 =>
 some x0

abbrev view_all__view_Ready_fn1_L0X : Type := List K3q
abbrev view_all__view_Ready_fn1_L0T : Type := List K3q → Int → Int → Int → List K3q → Option view_all__view_Ready_fn1_L0X
def view_all__view_Ready_fn1_L0b (k : Nat) (rec : view_all__view_Ready_fn1_L0T) (s8 : List K3q) (s9 : Int) (s10 : Int) (b0_0 : Int) (r1 : List K3q) : Option view_all__view_Ready_fn1_L0X :=
 bif decide (s10 < s9) then (bif boundOk s10 s8.length then ((view_Ready_fn1 k (s8.getD s10.toNat (0, 0, 0, 0, 0, 0, 0)).1 (s8.getD s10.toNat (0, 0, 0, 0, 0, 0, 0)).2.1 (s8.getD s10.toNat (0, 0, 0, 0, 0, 0, 0)).2.2.1 (s8.getD s10.toNat (0, 0, 0, 0, 0, 0, 0)).2.2.2.1 (s8.getD s10.toNat (0, 0, 0, 0, 0, 0, 0)).2.2.2.2.1 (s8.getD s10.toNat (0, 0, 0, 0, 0, 0, 0)).2.2.2.2.2.1 (s8.getD s10.toNat (0, 0, 0, 0, 0, 0, 0)).2.2.2.2.2.2 b0_0).bind fun x0 =>
   bif x0 then (bif roomB (r1.length + 1) 56 then (let y0 : List K3q := (r1 ++ [(s8.getD s10.toNat (0, 0, 0, 0, 0, 0, 0))])
     rec s8 s9 (w64 (s10 + 1)) b0_0 y0)
    else none)
   else rec s8 s9 (w64 (s10 + 1)) b0_0 r1)
  else none)
 else some r1
def view_all__view_Ready_fn1_L0 (k : Nat) : Nat → view_all__view_Ready_fn1_L0T
 | 0, _, _, _, _, _ => none
 | n + 1, s8, s9, s10, b0_0, r1 => view_all__view_Ready_fn1_L0b k (view_all__view_Ready_fn1_L0 k n) s8 s9 s10 b0_0 r1
/-- giro/view.all -/
def view_all__view_Ready_fn1 (k : Nat) (a0 : List K3q) (a1_0 : Int) : Option (List K3q) :=
 (view_all__view_Ready_fn1_L0 k k a0 (a0.length : Int) 0 a1_0 []).bind fun z =>
 some z

/-- giro/view.Ready -/
def view_Ready (k : Nat) (a0 : List K3q) (a1 : Int) : Option (List K3q) :=
 (view_all__view_Ready_fn1 k a0 a1).bind fun x0 =>
 some x0

/-- giro/view.May$1$1 -/
def view_May_fn1_fn1 (k : Nat) (a0ID : Int) (a0From : Int) (a0To : Int) (a0Amount : Int) (a0Class : Int) (a0Start : Int) (a0Till : Int) (a1ID : Int) (a1From : Int) (a1To : Int) (a1Amount : Int) (a1Class : Int) (a1Start : Int) (a1Till : Int) : Option Bool :=
 bif decide (a0From = a1From) then some (!(decide (a0Class = 3)))
 else some false

abbrev slices_IndexFunc_Pay__view_May_fn1_fn1_L0T : Type := List K3q → Int → Int → Int → Int → Int → Int → Int → Int → Int → Option (Unit ⊕ Int)
def slices_IndexFunc_Pay__view_May_fn1_fn1_L0b (k : Nat) (rec : slices_IndexFunc_Pay__view_May_fn1_fn1_L0T) (s0 : List K3q) (s7 : Int) (s8 : Int) (b0_0 : Int) (b0_1 : Int) (b0_2 : Int) (b0_3 : Int) (b0_4 : Int) (b0_5 : Int) (b0_6 : Int) : Option (Unit ⊕ Int) :=
 bif decide (s8 < s7) then (bif boundOk s8 s0.length then ((view_May_fn1_fn1 k (s0.getD s8.toNat (0, 0, 0, 0, 0, 0, 0)).1 (s0.getD s8.toNat (0, 0, 0, 0, 0, 0, 0)).2.1 (s0.getD s8.toNat (0, 0, 0, 0, 0, 0, 0)).2.2.1 (s0.getD s8.toNat (0, 0, 0, 0, 0, 0, 0)).2.2.2.1 (s0.getD s8.toNat (0, 0, 0, 0, 0, 0, 0)).2.2.2.2.1 (s0.getD s8.toNat (0, 0, 0, 0, 0, 0, 0)).2.2.2.2.2.1 (s0.getD s8.toNat (0, 0, 0, 0, 0, 0, 0)).2.2.2.2.2.2 b0_0 b0_1 b0_2 b0_3 b0_4 b0_5 b0_6).bind fun x0 =>
   bif x0 then some (.inr s8)
   else rec s0 s7 (w64 (s8 + 1)) b0_0 b0_1 b0_2 b0_3 b0_4 b0_5 b0_6)
  else none)
 else some (.inl ())
def slices_IndexFunc_Pay__view_May_fn1_fn1_L0 (k : Nat) : Nat → slices_IndexFunc_Pay__view_May_fn1_fn1_L0T
 | 0, _, _, _, _, _, _, _, _, _, _ => none
 | n + 1, s0, s7, s8, b0_0, b0_1, b0_2, b0_3, b0_4, b0_5, b0_6 => slices_IndexFunc_Pay__view_May_fn1_fn1_L0b k (slices_IndexFunc_Pay__view_May_fn1_fn1_L0 k n) s0 s7 s8 b0_0 b0_1 b0_2 b0_3 b0_4 b0_5 b0_6
/-- slices.IndexFunc[[]giro/api.Pay,giro/api.Pay] -/
def slices_IndexFunc_Pay__view_May_fn1_fn1 (k : Nat) (a0 : List K3q) (a1_0ID : Int) (a1_0From : Int) (a1_0To : Int) (a1_0Amount : Int) (a1_0Class : Int) (a1_0Start : Int) (a1_0Till : Int) : Option Int :=
 (slices_IndexFunc_Pay__view_May_fn1_fn1_L0 k k a0 (a0.length : Int) 0 a1_0ID a1_0From a1_0To a1_0Amount a1_0Class a1_0Start a1_0Till).bind fun z =>
 match z with
 | .inl z1 => some (-1)
 | .inr z2 => some z2

/-- slices.ContainsFunc[[]giro/api.Pay,giro/api.Pay] -/
def slices_ContainsFunc_Pay__view_May_fn1_fn1 (k : Nat) (a0 : List K3q) (a1_0ID : Int) (a1_0From : Int) (a1_0To : Int) (a1_0Amount : Int) (a1_0Class : Int) (a1_0Start : Int) (a1_0Till : Int) : Option Bool :=
 (slices_IndexFunc_Pay__view_May_fn1_fn1 k a0 a1_0ID a1_0From a1_0To a1_0Amount a1_0Class a1_0Start a1_0Till).bind fun x0 =>
 some (decide (x0 ≥ 0))

/-- giro/view.May$1 -/
def view_May_fn1 (k : Nat) (a0ID : Int) (a0From : Int) (a0To : Int) (a0Amount : Int) (a0Class : Int) (a0Start : Int) (a0Till : Int) (a1 : List K1q) (a2 : List K3q) : Option (Bool × (List K1q)) :=
 bif !(Option.getD (List.lookup a0From a1) false) then some (true, ((a0From, true) :: a1))
 else bif decide (a0Class = 3) then ((slices_ContainsFunc_Pay__view_May_fn1_fn1 k a2 a0ID a0From a0To a0Amount a0Class a0Start a0Till).bind fun x0 =>
  some ((!x0), ((a0From, true) :: a1)))
 else some (false, ((a0From, true) :: a1))

abbrev view_all__view_May_fn1_L0X : Type := (List K1q) × (List K3q) × (List K3q)
abbrev view_all__view_May_fn1_L0T : Type := List K3q → Int → Int → List K1q → List K3q → List K3q → Option view_all__view_May_fn1_L0X
def view_all__view_May_fn1_L0b (k : Nat) (rec : view_all__view_May_fn1_L0T) (s8 : List K3q) (s9 : Int) (s10 : Int) (p1 : List K1q) (b2_0 : List K3q) (r3 : List K3q) : Option view_all__view_May_fn1_L0X :=
 bif decide (s10 < s9) then (bif boundOk s10 s8.length then ((view_May_fn1 k (s8.getD s10.toNat (0, 0, 0, 0, 0, 0, 0)).1 (s8.getD s10.toNat (0, 0, 0, 0, 0, 0, 0)).2.1 (s8.getD s10.toNat (0, 0, 0, 0, 0, 0, 0)).2.2.1 (s8.getD s10.toNat (0, 0, 0, 0, 0, 0, 0)).2.2.2.1 (s8.getD s10.toNat (0, 0, 0, 0, 0, 0, 0)).2.2.2.2.1 (s8.getD s10.toNat (0, 0, 0, 0, 0, 0, 0)).2.2.2.2.2.1 (s8.getD s10.toNat (0, 0, 0, 0, 0, 0, 0)).2.2.2.2.2.2 p1 b2_0).bind fun x0 =>
   bif x0.1 then (bif roomB (r3.length + 1) 56 then (let y0 : List K3q := (r3 ++ [(s8.getD s10.toNat (0, 0, 0, 0, 0, 0, 0))])
     rec s8 s9 (w64 (s10 + 1)) x0.2 b2_0 y0)
    else none)
   else rec s8 s9 (w64 (s10 + 1)) x0.2 b2_0 r3)
  else none)
 else some (p1, b2_0, r3)
def view_all__view_May_fn1_L0 (k : Nat) : Nat → view_all__view_May_fn1_L0T
 | 0, _, _, _, _, _, _ => none
 | n + 1, s8, s9, s10, p1, b2_0, r3 => view_all__view_May_fn1_L0b k (view_all__view_May_fn1_L0 k n) s8 s9 s10 p1 b2_0 r3
/-- giro/view.all -/
def view_all__view_May_fn1 (k : Nat) (a0 : List K3q) (a1_0 : List K1q) (a1_1 : List K3q) : Option ((List K3q) × (List K1q)) :=
 (view_all__view_May_fn1_L0 k k a0 (a0.length : Int) 0 a1_0 a1_1 []).bind fun z =>
 some (z.2.2, z.1)

/-- giro/view.May -/
def view_May (k : Nat) (a0 : List K3q) (a1 : Int) : Option (List K3q) :=
 (view_Ready k a0 a1).bind fun x0 =>
 (view_all__view_May_fn1 k x0 [] x0).bind fun x1 =>
 some x1.1

/-- giro/fits.May -/
def fits_May (k : Nat) (a0Accts : List K4q) (a0Bil : List (List Int)) (a0Mul : List Int) (a0Pos : List (List Int)) (a1ID : Int) (a1From : Int) (a1To : Int) (a1Amount : Int) (a1Class : Int) (a1Start : Int) (a1Till : Int) : Option Bool :=
 bif decide (a1From ≥ 0) then (bif decide (a1From < (a0Accts.length : Int)) then (bif decide (a1To ≥ 0) then (bif decide (a1To < (a0Accts.length : Int)) then (bif !(decide (a1From = a1To)) then (bif decide (a1Amount ≥ 1) then (bif decide (a1Amount ≤ 1099511627776) then (bif decide (a1Class ≥ 1) then some (decide (a1Class ≤ 3))
        else some false)
       else some false)
      else some false)
     else some false)
    else some false)
   else some false)
  else some false)
 else some false

/-- giro/fits.Fits$1 -/
def fits_Fits_fn1 (k : Nat) (a0ID : Int) (a0From : Int) (a0To : Int) (a0Amount : Int) (a0Class : Int) (a0Start : Int) (a0Till : Int) (a1Accts : List K4q) (a1Bil : List (List Int)) (a1Mul : List Int) (a1Pos : List (List Int)) : Option Bool :=
 (fits_May k a1Accts a1Bil a1Mul a1Pos a0ID a0From a0To a0Amount a0Class a0Start a0Till).bind fun x0 =>
 some (!x0)

abbrev slices_IndexFunc_Pay__fits_Fits_fn1_L0T : Type := List K3q → Int → Int → List K4q → List (List Int) → List Int → List (List Int) → Option (Unit ⊕ Int)
def slices_IndexFunc_Pay__fits_Fits_fn1_L0b (k : Nat) (rec : slices_IndexFunc_Pay__fits_Fits_fn1_L0T) (s0 : List K3q) (s7 : Int) (s8 : Int) (b0_0 : List K4q) (b0_1 : List (List Int)) (b0_2 : List Int) (b0_3 : List (List Int)) : Option (Unit ⊕ Int) :=
 bif decide (s8 < s7) then (bif boundOk s8 s0.length then ((fits_Fits_fn1 k (s0.getD s8.toNat (0, 0, 0, 0, 0, 0, 0)).1 (s0.getD s8.toNat (0, 0, 0, 0, 0, 0, 0)).2.1 (s0.getD s8.toNat (0, 0, 0, 0, 0, 0, 0)).2.2.1 (s0.getD s8.toNat (0, 0, 0, 0, 0, 0, 0)).2.2.2.1 (s0.getD s8.toNat (0, 0, 0, 0, 0, 0, 0)).2.2.2.2.1 (s0.getD s8.toNat (0, 0, 0, 0, 0, 0, 0)).2.2.2.2.2.1 (s0.getD s8.toNat (0, 0, 0, 0, 0, 0, 0)).2.2.2.2.2.2 b0_0 b0_1 b0_2 b0_3).bind fun x0 =>
   bif x0 then some (.inr s8)
   else rec s0 s7 (w64 (s8 + 1)) b0_0 b0_1 b0_2 b0_3)
  else none)
 else some (.inl ())
def slices_IndexFunc_Pay__fits_Fits_fn1_L0 (k : Nat) : Nat → slices_IndexFunc_Pay__fits_Fits_fn1_L0T
 | 0, _, _, _, _, _, _, _ => none
 | n + 1, s0, s7, s8, b0_0, b0_1, b0_2, b0_3 => slices_IndexFunc_Pay__fits_Fits_fn1_L0b k (slices_IndexFunc_Pay__fits_Fits_fn1_L0 k n) s0 s7 s8 b0_0 b0_1 b0_2 b0_3
/-- slices.IndexFunc[[]giro/api.Pay,giro/api.Pay] -/
def slices_IndexFunc_Pay__fits_Fits_fn1 (k : Nat) (a0 : List K3q) (a1_0Accts : List K4q) (a1_0Bil : List (List Int)) (a1_0Mul : List Int) (a1_0Pos : List (List Int)) : Option Int :=
 (slices_IndexFunc_Pay__fits_Fits_fn1_L0 k k a0 (a0.length : Int) 0 a1_0Accts a1_0Bil a1_0Mul a1_0Pos).bind fun z =>
 match z with
 | .inl z1 => some (-1)
 | .inr z2 => some z2

/-- slices.ContainsFunc[[]giro/api.Pay,giro/api.Pay] -/
def slices_ContainsFunc_Pay__fits_Fits_fn1 (k : Nat) (a0 : List K3q) (a1_0Accts : List K4q) (a1_0Bil : List (List Int)) (a1_0Mul : List Int) (a1_0Pos : List (List Int)) : Option Bool :=
 (slices_IndexFunc_Pay__fits_Fits_fn1 k a0 a1_0Accts a1_0Bil a1_0Mul a1_0Pos).bind fun x0 =>
 some (decide (x0 ≥ 0))

/-- giro/lim.isSize -/
def lim_isSize (k : Nat) (a0 : Int) : Option Bool :=
 bif decide (a0 ≥ 0) then some (decide (a0 ≤ 6))
 else some false

abbrev lim_Row_L0T : Type := Int → Int → Int → List Int → Option (List Int)
def lim_Row_L0b (k : Nat) (rec : lim_Row_L0T) (s1 : Int) (s13 : Int) (s14 : Int) (r0 : List Int) : Option (List Int) :=
 bif decide (s14 < s13) then (bif boundOk s14 r0.length then (rec s1 s13 (w64 (s14 + 1)) (r0.set s14.toNat s1))
  else none)
 else some r0
def lim_Row_L0 (k : Nat) : Nat → lim_Row_L0T
 | 0, _, _, _, _ => none
 | n + 1, s1, s13, s14, r0 => lim_Row_L0b k (lim_Row_L0 k n) s1 s13 s14 r0
/-- giro/lim.Row -/
def lim_Row (k : Nat) (a0 : Int) (a1 : Int) : Option (List Int) :=
 (lim_isSize k a0).bind fun x0 =>
 bif !x0 then some []
 else bif makeOk a0 a0 8 then ((lim_Row_L0 k k a1 ((List.replicate a0.toNat (0 : Int)).length : Int) 0 (List.replicate a0.toNat (0 : Int))).bind fun z =>
  some z)
 else none

abbrev lim_Square_L0T : Type := Int → Int → Int → Int → List (List Int) → Option (List (List Int))
def lim_Square_L0b (k : Nat) (rec : lim_Square_L0T) (s0 : Int) (s1 : Int) (s13 : Int) (s14 : Int) (m0 : List (List Int)) : Option (List (List Int)) :=
 bif decide (s14 < s13) then ((lim_Row k s0 s1).bind fun x1 =>
  bif boundOk s14 m0.length then (rec s0 s1 s13 (w64 (s14 + 1)) (m0.set s14.toNat x1))
  else none)
 else some m0
def lim_Square_L0 (k : Nat) : Nat → lim_Square_L0T
 | 0, _, _, _, _, _ => none
 | n + 1, s0, s1, s13, s14, m0 => lim_Square_L0b k (lim_Square_L0 k n) s0 s1 s13 s14 m0
/-- giro/lim.Square -/
def lim_Square (k : Nat) (a0 : Int) (a1 : Int) : Option (List (List Int)) :=
 (lim_isSize k a0).bind fun x0 =>
 bif !x0 then some []
 else bif makeOk a0 a0 24 then ((lim_Square_L0 k k a0 a1 ((List.replicate a0.toNat ([] : List Int)).length : Int) 0 (List.replicate a0.toNat ([] : List Int))).bind fun z =>
  some z)
 else none

abbrev fits_moved_L0X : Type := (List Int) × (List Int) × (List (List Int))
abbrev fits_moved_L0T : Type := List K3q → Int → Int → List Int → List Int → List (List Int) → Option fits_moved_L0X
def fits_moved_L0b (k : Nat) (rec : fits_moved_L0T) (s15 : List K3q) (s16 : Int) (s17 : Int) (r2 : List Int) (r3 : List Int) (m4 : List (List Int)) : Option fits_moved_L0X :=
 bif decide (s17 < s16) then (bif boundOk s17 s15.length then (bif boundOk (s15.getD s17.toNat (0, 0, 0, 0, 0, 0, 0)).2.1 r2.length then (bif boundOk (s15.getD s17.toNat (0, 0, 0, 0, 0, 0, 0)).2.1 r2.length then (let y0 : List Int := (r2.set (s15.getD s17.toNat (0, 0, 0, 0, 0, 0, 0)).2.1.toNat (w64 ((r2.getD (s15.getD s17.toNat (0, 0, 0, 0, 0, 0, 0)).2.1.toNat 0) - (s15.getD s17.toNat (0, 0, 0, 0, 0, 0, 0)).2.2.2.1)))
     bif boundOk (s15.getD s17.toNat (0, 0, 0, 0, 0, 0, 0)).2.2.1 y0.length then (bif boundOk (s15.getD s17.toNat (0, 0, 0, 0, 0, 0, 0)).2.2.1 y0.length then (let y1 : List Int := (y0.set (s15.getD s17.toNat (0, 0, 0, 0, 0, 0, 0)).2.2.1.toNat (w64 ((y0.getD (s15.getD s17.toNat (0, 0, 0, 0, 0, 0, 0)).2.2.1.toNat 0) + (s15.getD s17.toNat (0, 0, 0, 0, 0, 0, 0)).2.2.2.1)))
       bif boundOk (s15.getD s17.toNat (0, 0, 0, 0, 0, 0, 0)).2.1 m4.length then (bif boundOk (s15.getD s17.toNat (0, 0, 0, 0, 0, 0, 0)).2.2.1 (m4.getD (s15.getD s17.toNat (0, 0, 0, 0, 0, 0, 0)).2.1.toNat []).length then (bif boundOk (s15.getD s17.toNat (0, 0, 0, 0, 0, 0, 0)).2.2.1 (m4.getD (s15.getD s17.toNat (0, 0, 0, 0, 0, 0, 0)).2.1.toNat []).length then (let y2 : List (List Int) := (m4.set (s15.getD s17.toNat (0, 0, 0, 0, 0, 0, 0)).2.1.toNat ((m4.getD (s15.getD s17.toNat (0, 0, 0, 0, 0, 0, 0)).2.1.toNat []).set (s15.getD s17.toNat (0, 0, 0, 0, 0, 0, 0)).2.2.1.toNat (w64 (((m4.getD (s15.getD s17.toNat (0, 0, 0, 0, 0, 0, 0)).2.1.toNat []).getD (s15.getD s17.toNat (0, 0, 0, 0, 0, 0, 0)).2.2.1.toNat 0) + (s15.getD s17.toNat (0, 0, 0, 0, 0, 0, 0)).2.2.2.1))))
          bif boundOk (s15.getD s17.toNat (0, 0, 0, 0, 0, 0, 0)).2.2.1 y2.length then (bif boundOk (s15.getD s17.toNat (0, 0, 0, 0, 0, 0, 0)).2.1 (y2.getD (s15.getD s17.toNat (0, 0, 0, 0, 0, 0, 0)).2.2.1.toNat []).length then (bif boundOk (s15.getD s17.toNat (0, 0, 0, 0, 0, 0, 0)).2.1 (y2.getD (s15.getD s17.toNat (0, 0, 0, 0, 0, 0, 0)).2.2.1.toNat []).length then (let y3 : List (List Int) := (y2.set (s15.getD s17.toNat (0, 0, 0, 0, 0, 0, 0)).2.2.1.toNat ((y2.getD (s15.getD s17.toNat (0, 0, 0, 0, 0, 0, 0)).2.2.1.toNat []).set (s15.getD s17.toNat (0, 0, 0, 0, 0, 0, 0)).2.1.toNat (w64 (((y2.getD (s15.getD s17.toNat (0, 0, 0, 0, 0, 0, 0)).2.2.1.toNat []).getD (s15.getD s17.toNat (0, 0, 0, 0, 0, 0, 0)).2.1.toNat 0) - (s15.getD s17.toNat (0, 0, 0, 0, 0, 0, 0)).2.2.2.1))))
             bif !(decide ((s15.getD s17.toNat (0, 0, 0, 0, 0, 0, 0)).2.2.2.2.1 = 3)) then (bif boundOk (s15.getD s17.toNat (0, 0, 0, 0, 0, 0, 0)).2.1 r3.length then (bif boundOk (s15.getD s17.toNat (0, 0, 0, 0, 0, 0, 0)).2.1 r3.length then (let y4 : List Int := (r3.set (s15.getD s17.toNat (0, 0, 0, 0, 0, 0, 0)).2.1.toNat (w64 ((r3.getD (s15.getD s17.toNat (0, 0, 0, 0, 0, 0, 0)).2.1.toNat 0) + (s15.getD s17.toNat (0, 0, 0, 0, 0, 0, 0)).2.2.2.1)))
                rec s15 s16 (w64 (s17 + 1)) y1 y4 y3)
               else none)
              else none)
             else rec s15 s16 (w64 (s17 + 1)) y1 r3 y3)
            else none)
           else none)
          else none)
         else none)
        else none)
       else none)
      else none)
     else none)
    else none)
   else none)
  else none)
 else some (r2, r3, m4)
def fits_moved_L0 (k : Nat) : Nat → fits_moved_L0T
 | 0, _, _, _, _, _, _ => none
 | n + 1, s15, s16, s17, r2, r3, m4 => fits_moved_L0b k (fits_moved_L0 k n) s15 s16 s17 r2 r3 m4
/-- giro/fits.moved -/
def fits_moved (k : Nat) (a0 : Int) (a1 : List K3q) : Option ((List Int) × (List Int) × (List (List Int))) :=
 (lim_Row k a0 0).bind fun x0 =>
 (lim_Row k a0 0).bind fun x1 =>
 (lim_Square k a0 0).bind fun x2 =>
 (fits_moved_L0 k k a1 (a1.length : Int) 0 x0 x1 x2).bind fun z =>
 some (z.1, z.2.1, z.2.2)

/-- giro/fits.Short$1 -/
def fits_Short_fn1 (k : Nat) (a0ID : Int) (a0From : Int) (a0To : Int) (a0Amount : Int) (a0Class : Int) (a0Start : Int) (a0Till : Int) (a1 : Int) : Option Bool :=
 some (decide (a0From = a1))

abbrev slices_IndexFunc_Pay__fits_Short_fn1_L0T : Type := List K3q → Int → Int → Int → Option (Unit ⊕ Int)
def slices_IndexFunc_Pay__fits_Short_fn1_L0b (k : Nat) (rec : slices_IndexFunc_Pay__fits_Short_fn1_L0T) (s0 : List K3q) (s7 : Int) (s8 : Int) (b0_0 : Int) : Option (Unit ⊕ Int) :=
 bif decide (s8 < s7) then (bif boundOk s8 s0.length then ((fits_Short_fn1 k (s0.getD s8.toNat (0, 0, 0, 0, 0, 0, 0)).1 (s0.getD s8.toNat (0, 0, 0, 0, 0, 0, 0)).2.1 (s0.getD s8.toNat (0, 0, 0, 0, 0, 0, 0)).2.2.1 (s0.getD s8.toNat (0, 0, 0, 0, 0, 0, 0)).2.2.2.1 (s0.getD s8.toNat (0, 0, 0, 0, 0, 0, 0)).2.2.2.2.1 (s0.getD s8.toNat (0, 0, 0, 0, 0, 0, 0)).2.2.2.2.2.1 (s0.getD s8.toNat (0, 0, 0, 0, 0, 0, 0)).2.2.2.2.2.2 b0_0).bind fun x0 =>
   bif x0 then some (.inr s8)
   else rec s0 s7 (w64 (s8 + 1)) b0_0)
  else none)
 else some (.inl ())
def slices_IndexFunc_Pay__fits_Short_fn1_L0 (k : Nat) : Nat → slices_IndexFunc_Pay__fits_Short_fn1_L0T
 | 0, _, _, _, _ => none
 | n + 1, s0, s7, s8, b0_0 => slices_IndexFunc_Pay__fits_Short_fn1_L0b k (slices_IndexFunc_Pay__fits_Short_fn1_L0 k n) s0 s7 s8 b0_0
/-- slices.IndexFunc[[]giro/api.Pay,giro/api.Pay] -/
def slices_IndexFunc_Pay__fits_Short_fn1 (k : Nat) (a0 : List K3q) (a1_0 : Int) : Option Int :=
 (slices_IndexFunc_Pay__fits_Short_fn1_L0 k k a0 (a0.length : Int) 0 a1_0).bind fun z =>
 match z with
 | .inl z1 => some (-1)
 | .inr z2 => some z2

/-- slices.ContainsFunc[[]giro/api.Pay,giro/api.Pay] -/
def slices_ContainsFunc_Pay__fits_Short_fn1 (k : Nat) (a0 : List K3q) (a1_0 : Int) : Option Bool :=
 (slices_IndexFunc_Pay__fits_Short_fn1 k a0 a1_0).bind fun x0 =>
 some (decide (x0 ≥ 0))

def lim_Net_L0b (k : Nat) (rec : Int → List Int → Int → Int → Option Int) (s5 : Int) (s12 : List Int) (s13 : Int) (s14 : Int) : Option Int :=
 bif decide (s14 < s13) then (bif boundOk s14 s12.length then (rec (w64 (s5 + (s12.getD s14.toNat 0))) s12 s13 (w64 (s14 + 1)))
  else none)
 else some s5
def lim_Net_L0 (k : Nat) : Nat → Int → List Int → Int → Int → Option Int
 | 0, _, _, _, _ => none
 | n + 1, s5, s12, s13, s14 => lim_Net_L0b k (lim_Net_L0 k n) s5 s12 s13 s14
/-- giro/lim.Net -/
def lim_Net (k : Nat) (a0Accts : List K4q) (a0Bil : List (List Int)) (a0Mul : List Int) (a0Pos : List (List Int)) (a1 : Int) : Option Int :=
 bif boundOk a1 a0Pos.length then ((lim_Net_L0 k k 0 (a0Pos.getD a1.toNat []) ((a0Pos.getD a1.toNat []).length : Int) 0).bind fun z =>
  some z)
 else none

/-- giro/fits.over -/
def fits_over (k : Nat) (a0 : Int) (a1 : Int) : Option Bool :=
 bif !(decide (a1 = (-1))) then some (decide (a0 > a1))
 else some false

/-- giro/acct.Kept -/
def acct_Kept (k : Nat) (a0Balance : Int) (a0Credit : Int) (a0Reserve : Int) (a1 : Int) : Option Int :=
 some (maxI false (w64 (a0Reserve - a1)) 0)

/-- (giro/fits.move).isShort$1 -/
def fits_move_isShort_fn1 (k : Nat) (a0ID : Int) (a0From : Int) (a0To : Int) (a0Amount : Int) (a0Class : Int) (a0Start : Int) (a0Till : Int) (a1 : Int) (a2Balance : Int) (a2Credit : Int) (a2Reserve : Int) (a3more : List Int) (a3spent : List Int) (a3sent : List (List Int)) (a4 : Int) (a5Accts : List K4q) (a5Bil : List (List Int)) (a5Mul : List Int) (a5Pos : List (List Int)) : Option Bool :=
 bif !(decide (a0From = a1)) then some false
 else bif boundOk a1 a3spent.length then ((acct_Kept k a2Balance a2Credit a2Reserve (a3spent.getD a1.toNat 0)).bind fun x0 =>
  bif decide (a0Class = 3) then (bif decide (a4 < x0) then some true
   else bif boundOk a1 a5Pos.length then (bif boundOk a0To (a5Pos.getD a1.toNat []).length then (bif boundOk a1 a3sent.length then (bif boundOk a0To (a3sent.getD a1.toNat []).length then (bif boundOk a1 a5Bil.length then (bif boundOk a0To (a5Bil.getD a1.toNat []).length then ((fits_over k (w64 (((a5Pos.getD a1.toNat []).getD a0To.toNat 0) + ((a3sent.getD a1.toNat []).getD a0To.toNat 0))) ((a5Bil.getD a1.toNat []).getD a0To.toNat 0)).bind fun x1 =>
         some x1)
        else none)
       else none)
      else none)
     else none)
    else none)
   else none)
  else bif boundOk a1 a5Pos.length then (bif boundOk a0To (a5Pos.getD a1.toNat []).length then (bif boundOk a1 a3sent.length then (bif boundOk a0To (a3sent.getD a1.toNat []).length then (bif boundOk a1 a5Bil.length then (bif boundOk a0To (a5Bil.getD a1.toNat []).length then ((fits_over k (w64 (((a5Pos.getD a1.toNat []).getD a0To.toNat 0) + ((a3sent.getD a1.toNat []).getD a0To.toNat 0))) ((a5Bil.getD a1.toNat []).getD a0To.toNat 0)).bind fun x2 =>
        some x2)
       else none)
      else none)
     else none)
    else none)
   else none)
  else none)
 else none

abbrev slices_IndexFunc_Pay__fits_move_isShort_fn1_L0T : Type := List K3q → Int → Int → Int → Int → Int → Int → List Int → List Int → List (List Int) → Int → List K4q → List (List Int) → List Int → List (List Int) → Option (Unit ⊕ Int)
def slices_IndexFunc_Pay__fits_move_isShort_fn1_L0b (k : Nat) (rec : slices_IndexFunc_Pay__fits_move_isShort_fn1_L0T) (s0 : List K3q) (s7 : Int) (s8 : Int) (b0_0 : Int) (b1_0 : Int) (b1_1 : Int) (b1_2 : Int) (b2_0 : List Int) (b2_1 : List Int) (b2_2 : List (List Int)) (b3_0 : Int) (b4_0 : List K4q) (b4_1 : List (List Int)) (b4_2 : List Int) (b4_3 : List (List Int)) : Option (Unit ⊕ Int) :=
 bif decide (s8 < s7) then (bif boundOk s8 s0.length then ((fits_move_isShort_fn1 k (s0.getD s8.toNat (0, 0, 0, 0, 0, 0, 0)).1 (s0.getD s8.toNat (0, 0, 0, 0, 0, 0, 0)).2.1 (s0.getD s8.toNat (0, 0, 0, 0, 0, 0, 0)).2.2.1 (s0.getD s8.toNat (0, 0, 0, 0, 0, 0, 0)).2.2.2.1 (s0.getD s8.toNat (0, 0, 0, 0, 0, 0, 0)).2.2.2.2.1 (s0.getD s8.toNat (0, 0, 0, 0, 0, 0, 0)).2.2.2.2.2.1 (s0.getD s8.toNat (0, 0, 0, 0, 0, 0, 0)).2.2.2.2.2.2 b0_0 b1_0 b1_1 b1_2 b2_0 b2_1 b2_2 b3_0 b4_0 b4_1 b4_2 b4_3).bind fun x0 =>
   bif x0 then some (.inr s8)
   else rec s0 s7 (w64 (s8 + 1)) b0_0 b1_0 b1_1 b1_2 b2_0 b2_1 b2_2 b3_0 b4_0 b4_1 b4_2 b4_3)
  else none)
 else some (.inl ())
def slices_IndexFunc_Pay__fits_move_isShort_fn1_L0 (k : Nat) : Nat → slices_IndexFunc_Pay__fits_move_isShort_fn1_L0T
 | 0, _, _, _, _, _, _, _, _, _, _, _, _, _, _, _ => none
 | n + 1, s0, s7, s8, b0_0, b1_0, b1_1, b1_2, b2_0, b2_1, b2_2, b3_0, b4_0, b4_1, b4_2, b4_3 => slices_IndexFunc_Pay__fits_move_isShort_fn1_L0b k (slices_IndexFunc_Pay__fits_move_isShort_fn1_L0 k n) s0 s7 s8 b0_0 b1_0 b1_1 b1_2 b2_0 b2_1 b2_2 b3_0 b4_0 b4_1 b4_2 b4_3
/-- slices.IndexFunc[[]giro/api.Pay,giro/api.Pay] -/
def slices_IndexFunc_Pay__fits_move_isShort_fn1 (k : Nat) (a0 : List K3q) (a1_0 : Int) (a1_1Balance : Int) (a1_1Credit : Int) (a1_1Reserve : Int) (a1_2more : List Int) (a1_2spent : List Int) (a1_2sent : List (List Int)) (a1_3 : Int) (a1_4Accts : List K4q) (a1_4Bil : List (List Int)) (a1_4Mul : List Int) (a1_4Pos : List (List Int)) : Option Int :=
 (slices_IndexFunc_Pay__fits_move_isShort_fn1_L0 k k a0 (a0.length : Int) 0 a1_0 a1_1Balance a1_1Credit a1_1Reserve a1_2more a1_2spent a1_2sent a1_3 a1_4Accts a1_4Bil a1_4Mul a1_4Pos).bind fun z =>
 match z with
 | .inl z1 => some (-1)
 | .inr z2 => some z2

/-- slices.ContainsFunc[[]giro/api.Pay,giro/api.Pay] -/
def slices_ContainsFunc_Pay__fits_move_isShort_fn1 (k : Nat) (a0 : List K3q) (a1_0 : Int) (a1_1Balance : Int) (a1_1Credit : Int) (a1_1Reserve : Int) (a1_2more : List Int) (a1_2spent : List Int) (a1_2sent : List (List Int)) (a1_3 : Int) (a1_4Accts : List K4q) (a1_4Bil : List (List Int)) (a1_4Mul : List Int) (a1_4Pos : List (List Int)) : Option Bool :=
 (slices_IndexFunc_Pay__fits_move_isShort_fn1 k a0 a1_0 a1_1Balance a1_1Credit a1_1Reserve a1_2more a1_2spent a1_2sent a1_3 a1_4Accts a1_4Bil a1_4Mul a1_4Pos).bind fun x0 =>
 some (decide (x0 ≥ 0))

abbrev fits_move_isShort_L0X : Type := (List K3q) × Int × (List Int) × (List Int) × (List (List Int)) × (List K4q) × (List (List Int)) × (List Int) × (List (List Int)) × Int × Int × Int × Int × Int
abbrev fits_move_isShort_L0T : Type := List K3q → Int → List Int → Int → Int → List Int → List Int → List (List Int) → List K4q → List (List Int) → List Int → List (List Int) → Int → Int → Int → Int → Int → Option fits_move_isShort_L0X
def fits_move_isShort_L0b (k : Nat) (rec : fits_move_isShort_L0T) (s3 : List K3q) (s11 : Int) (s39 : List Int) (s40 : Int) (s41 : Int) (b0_0 : List Int) (b0_1 : List Int) (b0_2 : List (List Int)) (b1_0 : List K4q) (b1_1 : List (List Int)) (b1_2 : List Int) (b1_3 : List (List Int)) (b2_0 : Int) (b3_0 : Int) (b3_1 : Int) (b3_2 : Int) (b4_0 : Int) : Option fits_move_isShort_L0X :=
 bif decide (s41 < s40) then (bif boundOk s41 s39.length then (rec s3 (w64 (s11 + (s39.getD s41.toNat 0))) s39 s40 (w64 (s41 + 1)) b0_0 b0_1 b0_2 b1_0 b1_1 b1_2 b1_3 b2_0 b3_0 b3_1 b3_2 b4_0)
  else none)
 else some (s3, s11, b0_0, b0_1, b0_2, b1_0, b1_1, b1_2, b1_3, b2_0, b3_0, b3_1, b3_2, b4_0)
def fits_move_isShort_L0 (k : Nat) : Nat → fits_move_isShort_L0T
 | 0, _, _, _, _, _, _, _, _, _, _, _, _, _, _, _, _, _ => none
 | n + 1, s3, s11, s39, s40, s41, b0_0, b0_1, b0_2, b1_0, b1_1, b1_2, b1_3, b2_0, b3_0, b3_1, b3_2, b4_0 => fits_move_isShort_L0b k (fits_move_isShort_L0 k n) s3 s11 s39 s40 s41 b0_0 b0_1 b0_2 b1_0 b1_1 b1_2 b1_3 b2_0 b3_0 b3_1 b3_2 b4_0
/-- (giro/fits.move).isShort -/
def fits_move_isShort (k : Nat) (a0more : List Int) (a0spent : List Int) (a0sent : List (List Int)) (a1Accts : List K4q) (a1Bil : List (List Int)) (a1Mul : List Int) (a1Pos : List (List Int)) (a2 : Int) (a3 : List K3q) : Option Bool :=
 bif boundOk a2 a1Accts.length then (bif boundOk a2 a0more.length then (bif decide ((w64 ((w64 ((a1Accts.getD a2.toNat (0, 0, 0)).1 + (a1Accts.getD a2.toNat (0, 0, 0)).2.1)) + (a0more.getD a2.toNat 0))) < 0) then some true
   else (lim_Net k a1Accts a1Bil a1Mul a1Pos a2).bind fun x0 =>
   bif boundOk a2 a0sent.length then ((fits_move_isShort_L0 k k a3 x0 (a0sent.getD a2.toNat []) ((a0sent.getD a2.toNat []).length : Int) 0 a0more a0spent a0sent a1Accts a1Bil a1Mul a1Pos a2 (a1Accts.getD a2.toNat (0, 0, 0)).1 (a1Accts.getD a2.toNat (0, 0, 0)).2.1 (a1Accts.getD a2.toNat (0, 0, 0)).2.2 (w64 ((w64 ((a1Accts.getD a2.toNat (0, 0, 0)).1 + (a1Accts.getD a2.toNat (0, 0, 0)).2.1)) + (a0more.getD a2.toNat 0)))).bind fun z =>
    bif boundOk z.2.2.2.2.2.2.2.2.2.1 z.2.2.2.2.2.2.2.1.length then ((fits_over k z.2.1 (z.2.2.2.2.2.2.2.1.getD z.2.2.2.2.2.2.2.2.2.1.toNat 0)).bind fun x1 =>
     bif x1 then some true
     else (slices_ContainsFunc_Pay__fits_move_isShort_fn1 k z.1 z.2.2.2.2.2.2.2.2.2.1 z.2.2.2.2.2.2.2.2.2.2.1 z.2.2.2.2.2.2.2.2.2.2.2.1 z.2.2.2.2.2.2.2.2.2.2.2.2.1 z.2.2.1 z.2.2.2.1 z.2.2.2.2.1 z.2.2.2.2.2.2.2.2.2.2.2.2.2 z.2.2.2.2.2.1 z.2.2.2.2.2.2.1 z.2.2.2.2.2.2.2.1 z.2.2.2.2.2.2.2.2.1).bind fun x2 =>
     some x2)
    else none)
   else none)
  else none)
 else none

abbrev fits_Short_L0T : Type := List K3q → Int → Int → List K4q → List (List Int) → List Int → List (List Int) → List Int → List Int → List (List Int) → List Int → Option (List Int)
def fits_Short_L0b (k : Nat) (rec : fits_Short_L0T) (s1 : List K3q) (s16 : Int) (s17 : Int) (b0_0 : List K4q) (b0_1 : List (List Int)) (b0_2 : List Int) (b0_3 : List (List Int)) (r2 : List Int) (r3 : List Int) (m4 : List (List Int)) (r5 : List Int) : Option (List Int) :=
 bif decide (s17 < s16) then ((slices_ContainsFunc_Pay__fits_Short_fn1 k s1 s17).bind fun x1 =>
  bif x1 then ((fits_move_isShort k r2 r3 m4 b0_0 b0_1 b0_2 b0_3 s17 s1).bind fun x2 =>
   bif x2 then (bif roomB (r5.length + 1) 8 then (rec s1 s16 (w64 (s17 + 1)) b0_0 b0_1 b0_2 b0_3 r2 r3 m4 (r5 ++ [s17]))
    else none)
   else rec s1 s16 (w64 (s17 + 1)) b0_0 b0_1 b0_2 b0_3 r2 r3 m4 r5)
  else rec s1 s16 (w64 (s17 + 1)) b0_0 b0_1 b0_2 b0_3 r2 r3 m4 r5)
 else some r5
def fits_Short_L0 (k : Nat) : Nat → fits_Short_L0T
 | 0, _, _, _, _, _, _, _, _, _, _, _ => none
 | n + 1, s1, s16, s17, b0_0, b0_1, b0_2, b0_3, r2, r3, m4, r5 => fits_Short_L0b k (fits_Short_L0 k n) s1 s16 s17 b0_0 b0_1 b0_2 b0_3 r2 r3 m4 r5
/-- giro/fits.Short -/
def fits_Short (k : Nat) (a0Accts : List K4q) (a0Bil : List (List Int)) (a0Mul : List Int) (a0Pos : List (List Int)) (a1 : List K3q) : Option (List Int) :=
 (fits_moved k (a0Accts.length : Int) a1).bind fun x0 =>
 (fits_Short_L0 k k a1 (a0Accts.length : Int) 0 a0Accts a0Bil a0Mul a0Pos x0.1 x0.2.1 x0.2.2 []).bind fun z =>
 some z

/-- giro/fits.Fits -/
def fits_Fits (k : Nat) (a0Accts : List K4q) (a0Bil : List (List Int)) (a0Mul : List Int) (a0Pos : List (List Int)) (a1 : List K3q) : Option Bool :=
 bif decide ((a1.length : Int) ≤ 64) then ((slices_ContainsFunc_Pay__fits_Fits_fn1 k a1 a0Accts a0Bil a0Mul a0Pos).bind fun x0 =>
  bif !x0 then ((fits_Short k a0Accts a0Bil a0Mul a0Pos a1).bind fun x1 =>
   some (decide ((x1.length : Int) = 0)))
  else some false)
 else some false

/-- giro/post.Post$1 -/
def post_Post_fn1 (k : Nat) (a0ID : Int) (a0From : Int) (a0To : Int) (a0Amount : Int) (a0Class : Int) (a0Start : Int) (a0Till : Int) (a1Accts : List K4q) (a1Bil : List (List Int)) (a1Mul : List Int) (a1Pos : List (List Int)) : Option Bool :=
 (fits_May k a1Accts a1Bil a1Mul a1Pos a0ID a0From a0To a0Amount a0Class a0Start a0Till).bind fun x0 =>
 some (!x0)

abbrev slices_IndexFunc_Pay__post_Post_fn1_L0T : Type := List K3q → Int → Int → List K4q → List (List Int) → List Int → List (List Int) → Option (Unit ⊕ Int)
def slices_IndexFunc_Pay__post_Post_fn1_L0b (k : Nat) (rec : slices_IndexFunc_Pay__post_Post_fn1_L0T) (s0 : List K3q) (s7 : Int) (s8 : Int) (b0_0 : List K4q) (b0_1 : List (List Int)) (b0_2 : List Int) (b0_3 : List (List Int)) : Option (Unit ⊕ Int) :=
 bif decide (s8 < s7) then (bif boundOk s8 s0.length then ((post_Post_fn1 k (s0.getD s8.toNat (0, 0, 0, 0, 0, 0, 0)).1 (s0.getD s8.toNat (0, 0, 0, 0, 0, 0, 0)).2.1 (s0.getD s8.toNat (0, 0, 0, 0, 0, 0, 0)).2.2.1 (s0.getD s8.toNat (0, 0, 0, 0, 0, 0, 0)).2.2.2.1 (s0.getD s8.toNat (0, 0, 0, 0, 0, 0, 0)).2.2.2.2.1 (s0.getD s8.toNat (0, 0, 0, 0, 0, 0, 0)).2.2.2.2.2.1 (s0.getD s8.toNat (0, 0, 0, 0, 0, 0, 0)).2.2.2.2.2.2 b0_0 b0_1 b0_2 b0_3).bind fun x0 =>
   bif x0 then some (.inr s8)
   else rec s0 s7 (w64 (s8 + 1)) b0_0 b0_1 b0_2 b0_3)
  else none)
 else some (.inl ())
def slices_IndexFunc_Pay__post_Post_fn1_L0 (k : Nat) : Nat → slices_IndexFunc_Pay__post_Post_fn1_L0T
 | 0, _, _, _, _, _, _, _ => none
 | n + 1, s0, s7, s8, b0_0, b0_1, b0_2, b0_3 => slices_IndexFunc_Pay__post_Post_fn1_L0b k (slices_IndexFunc_Pay__post_Post_fn1_L0 k n) s0 s7 s8 b0_0 b0_1 b0_2 b0_3
/-- slices.IndexFunc[[]giro/api.Pay,giro/api.Pay] -/
def slices_IndexFunc_Pay__post_Post_fn1 (k : Nat) (a0 : List K3q) (a1_0Accts : List K4q) (a1_0Bil : List (List Int)) (a1_0Mul : List Int) (a1_0Pos : List (List Int)) : Option Int :=
 (slices_IndexFunc_Pay__post_Post_fn1_L0 k k a0 (a0.length : Int) 0 a1_0Accts a1_0Bil a1_0Mul a1_0Pos).bind fun z =>
 match z with
 | .inl z1 => some (-1)
 | .inr z2 => some z2

/-- slices.ContainsFunc[[]giro/api.Pay,giro/api.Pay] -/
def slices_ContainsFunc_Pay__post_Post_fn1 (k : Nat) (a0 : List K3q) (a1_0Accts : List K4q) (a1_0Bil : List (List Int)) (a1_0Mul : List Int) (a1_0Pos : List (List Int)) : Option Bool :=
 (slices_IndexFunc_Pay__post_Post_fn1 k a0 a1_0Accts a1_0Bil a1_0Mul a1_0Pos).bind fun x0 =>
 some (decide (x0 ≥ 0))

/-- slices.Clone[[]giro/api.Acct,giro/api.Acct] -/
def slices_Clone_Acct (k : Nat) (a0 : List K4q) : Option (List K4q) :=
 bif roomB (0 + a0.length) 24 then some a0
 else none

/-- slices.Clone[[][]int64,[]int64] -/
def slices_Clone_Rowint64 (k : Nat) (a0 : List (List Int)) : Option Nat :=
 bif roomB (0 + a0.length) 24 then some a0.length
 else none

/-- slices.Clone[[]int64,int64] -/
def slices_Clone_int64 (k : Nat) (a0 : List Int) : Option (List Int) :=
 bif roomB (0 + a0.length) 8 then some a0
 else none

abbrev lim_copied_L0T : Type := List (List Int) → Int → Int → List (List Int) → Nat → Option ((List (List Int)) × Nat)
def lim_copied_L0b (k : Nat) (rec : lim_copied_L0T) (s8 : List (List Int)) (s9 : Int) (s10 : Int) (m0 : List (List Int)) (n0 : Nat) : Option ((List (List Int)) × Nat) :=
 bif decide (s10 < s9) then (bif boundOk s10 s8.length then ((slices_Clone_int64 k (s8.getD s10.toNat [])).bind fun x1 =>
   bif boundOk s10 n0 then (bif Nat.beq s10.toNat m0.length then (rec s8 s9 (w64 (s10 + 1)) (m0 ++ [x1]) n0)
    else none)
   else none)
  else none)
 else some (m0, n0)
def lim_copied_L0 (k : Nat) : Nat → lim_copied_L0T
 | 0, _, _, _, _, _ => none
 | n + 1, s8, s9, s10, m0, n0 => lim_copied_L0b k (lim_copied_L0 k n) s8 s9 s10 m0 n0
/-- giro/lim.copied -/
def lim_copied (k : Nat) (a0 : List (List Int)) : Option (List (List Int)) :=
 (slices_Clone_Rowint64 k a0).bind fun x0 =>
 (lim_copied_L0 k k a0 (a0.length : Int) 0 [] x0).bind fun z =>
 pmatEnd z.1 z.2

/-- giro/lim.Copy -/
def lim_Copy (k : Nat) (a0Accts : List K4q) (a0Bil : List (List Int)) (a0Mul : List Int) (a0Pos : List (List Int)) : Option ((List K4q) × (List (List Int)) × (List Int) × (List (List Int))) :=
 (slices_Clone_Acct k a0Accts).bind fun x0 =>
 (lim_copied k a0Bil).bind fun x1 =>
 (slices_Clone_int64 k a0Mul).bind fun x2 =>
 (lim_copied k a0Pos).bind fun x3 =>
 some (x0, x1, x2, x3)

/-- giro/acct.Is -/
def acct_Is (k : Nat) (a0Balance : Int) (a0Credit : Int) (a0Reserve : Int) : Option Bool :=
 bif decide (a0Balance > (-4611686018427387904)) then (bif decide (a0Balance < 4611686018427387904) then (bif decide (a0Credit ≥ 0) then (bif decide (a0Credit ≤ 2305843009213693952) then (bif decide (a0Reserve ≥ 0) then some (decide (a0Reserve ≤ 2305843009213693952))
     else some false)
    else some false)
   else some false)
  else some false)
 else some false

/-- giro/lim.Is$1 -/
def lim_Is_fn1 (k : Nat) (a0Balance : Int) (a0Credit : Int) (a0Reserve : Int) : Option Bool :=
 (acct_Is k a0Balance a0Credit a0Reserve).bind fun x0 =>
 some (!x0)

abbrev slices_IndexFunc_Acct__lim_Is_fn1_L0T : Type := List K4q → Int → Int → Option (Unit ⊕ Int)
def slices_IndexFunc_Acct__lim_Is_fn1_L0b (k : Nat) (rec : slices_IndexFunc_Acct__lim_Is_fn1_L0T) (s0 : List K4q) (s7 : Int) (s8 : Int) : Option (Unit ⊕ Int) :=
 bif decide (s8 < s7) then (bif boundOk s8 s0.length then ((lim_Is_fn1 k (s0.getD s8.toNat (0, 0, 0)).1 (s0.getD s8.toNat (0, 0, 0)).2.1 (s0.getD s8.toNat (0, 0, 0)).2.2).bind fun x0 =>
   bif x0 then some (.inr s8)
   else rec s0 s7 (w64 (s8 + 1)))
  else none)
 else some (.inl ())
def slices_IndexFunc_Acct__lim_Is_fn1_L0 (k : Nat) : Nat → slices_IndexFunc_Acct__lim_Is_fn1_L0T
 | 0, _, _, _ => none
 | n + 1, s0, s7, s8 => slices_IndexFunc_Acct__lim_Is_fn1_L0b k (slices_IndexFunc_Acct__lim_Is_fn1_L0 k n) s0 s7 s8
/-- slices.IndexFunc[[]giro/api.Acct,giro/api.Acct] -/
def slices_IndexFunc_Acct__lim_Is_fn1 (k : Nat) (a0 : List K4q) : Option Int :=
 (slices_IndexFunc_Acct__lim_Is_fn1_L0 k k a0 (a0.length : Int) 0).bind fun z =>
 match z with
 | .inl z1 => some (-1)
 | .inr z2 => some z2

/-- slices.ContainsFunc[[]giro/api.Acct,giro/api.Acct] -/
def slices_ContainsFunc_Acct__lim_Is_fn1 (k : Nat) (a0 : List K4q) : Option Bool :=
 (slices_IndexFunc_Acct__lim_Is_fn1 k a0).bind fun x0 =>
 some (decide (x0 ≥ 0))

/-- giro/lim.isLimit -/
def lim_isLimit (k : Nat) (a0 : Int) : Option Bool :=
 bif decide (a0 ≥ (-1)) then some (decide (a0 ≤ 2305843009213693952))
 else some false

/-- giro/lim.isRow$1 -/
def lim_isRow_fn1__lim_isLimit (k : Nat) (a0 : Int) : Option Bool :=
 (lim_isLimit k a0).bind fun x0 =>
 some (!x0)

abbrev slices_IndexFunc_int64__lim_isRow_fn1__lim_isLimit_L0T : Type := List Int → Int → Int → Option (Unit ⊕ Int)
def slices_IndexFunc_int64__lim_isRow_fn1__lim_isLimit_L0b (k : Nat) (rec : slices_IndexFunc_int64__lim_isRow_fn1__lim_isLimit_L0T) (s0 : List Int) (s7 : Int) (s8 : Int) : Option (Unit ⊕ Int) :=
 bif decide (s8 < s7) then (bif boundOk s8 s0.length then ((lim_isRow_fn1__lim_isLimit k (s0.getD s8.toNat 0)).bind fun x0 =>
   bif x0 then some (.inr s8)
   else rec s0 s7 (w64 (s8 + 1)))
  else none)
 else some (.inl ())
def slices_IndexFunc_int64__lim_isRow_fn1__lim_isLimit_L0 (k : Nat) : Nat → slices_IndexFunc_int64__lim_isRow_fn1__lim_isLimit_L0T
 | 0, _, _, _ => none
 | n + 1, s0, s7, s8 => slices_IndexFunc_int64__lim_isRow_fn1__lim_isLimit_L0b k (slices_IndexFunc_int64__lim_isRow_fn1__lim_isLimit_L0 k n) s0 s7 s8
/-- slices.IndexFunc[[]int64,int64] -/
def slices_IndexFunc_int64__lim_isRow_fn1__lim_isLimit (k : Nat) (a0 : List Int) : Option Int :=
 (slices_IndexFunc_int64__lim_isRow_fn1__lim_isLimit_L0 k k a0 (a0.length : Int) 0).bind fun z =>
 match z with
 | .inl z1 => some (-1)
 | .inr z2 => some z2

/-- slices.ContainsFunc[[]int64,int64] -/
def slices_ContainsFunc_int64__lim_isRow_fn1__lim_isLimit (k : Nat) (a0 : List Int) : Option Bool :=
 (slices_IndexFunc_int64__lim_isRow_fn1__lim_isLimit k a0).bind fun x0 =>
 some (decide (x0 ≥ 0))

/-- giro/lim.isRow -/
def lim_isRow__lim_isLimit (k : Nat) (a0 : List Int) (a1 : Int) : Option Bool :=
 bif decide ((a0.length : Int) = a1) then ((slices_ContainsFunc_int64__lim_isRow_fn1__lim_isLimit k a0).bind fun x0 =>
  some (!x0))
 else some false

abbrev lim_isSquare__lim_isLimit_L0T : Type := Int → List (List Int) → Int → Int → Option (Unit ⊕ Bool)
def lim_isSquare__lim_isLimit_L0b (k : Nat) (rec : lim_isSquare__lim_isLimit_L0T) (s1 : Int) (s13 : List (List Int)) (s14 : Int) (s15 : Int) : Option (Unit ⊕ Bool) :=
 bif decide (s15 < s14) then (bif boundOk s15 s13.length then ((lim_isRow__lim_isLimit k (s13.getD s15.toNat []) s1).bind fun x0 =>
   bif !x0 then some (.inr false)
   else rec s1 s13 s14 (w64 (s15 + 1)))
  else none)
 else some (.inl ())
def lim_isSquare__lim_isLimit_L0 (k : Nat) : Nat → lim_isSquare__lim_isLimit_L0T
 | 0, _, _, _, _ => none
 | n + 1, s1, s13, s14, s15 => lim_isSquare__lim_isLimit_L0b k (lim_isSquare__lim_isLimit_L0 k n) s1 s13 s14 s15
/-- giro/lim.isSquare -/
def lim_isSquare__lim_isLimit (k : Nat) (a0 : List (List Int)) (a1 : Int) : Option Bool :=
 bif !(decide ((a0.length : Int) = a1)) then some false
 else (lim_isSquare__lim_isLimit_L0 k k a1 a0 (a0.length : Int) 0).bind fun z =>
 match z with
 | .inl z1 => some true
 | .inr z2 => some z2

/-- giro/lim.isNet -/
def lim_isNet (k : Nat) (a0 : Int) : Option Bool :=
 bif decide (a0 > (-72057594037927936)) then some (decide (a0 < 72057594037927936))
 else some false

/-- giro/lim.isRow$1 -/
def lim_isRow_fn1__lim_isNet (k : Nat) (a0 : Int) : Option Bool :=
 (lim_isNet k a0).bind fun x0 =>
 some (!x0)

abbrev slices_IndexFunc_int64__lim_isRow_fn1__lim_isNet_L0T : Type := List Int → Int → Int → Option (Unit ⊕ Int)
def slices_IndexFunc_int64__lim_isRow_fn1__lim_isNet_L0b (k : Nat) (rec : slices_IndexFunc_int64__lim_isRow_fn1__lim_isNet_L0T) (s0 : List Int) (s7 : Int) (s8 : Int) : Option (Unit ⊕ Int) :=
 bif decide (s8 < s7) then (bif boundOk s8 s0.length then ((lim_isRow_fn1__lim_isNet k (s0.getD s8.toNat 0)).bind fun x0 =>
   bif x0 then some (.inr s8)
   else rec s0 s7 (w64 (s8 + 1)))
  else none)
 else some (.inl ())
def slices_IndexFunc_int64__lim_isRow_fn1__lim_isNet_L0 (k : Nat) : Nat → slices_IndexFunc_int64__lim_isRow_fn1__lim_isNet_L0T
 | 0, _, _, _ => none
 | n + 1, s0, s7, s8 => slices_IndexFunc_int64__lim_isRow_fn1__lim_isNet_L0b k (slices_IndexFunc_int64__lim_isRow_fn1__lim_isNet_L0 k n) s0 s7 s8
/-- slices.IndexFunc[[]int64,int64] -/
def slices_IndexFunc_int64__lim_isRow_fn1__lim_isNet (k : Nat) (a0 : List Int) : Option Int :=
 (slices_IndexFunc_int64__lim_isRow_fn1__lim_isNet_L0 k k a0 (a0.length : Int) 0).bind fun z =>
 match z with
 | .inl z1 => some (-1)
 | .inr z2 => some z2

/-- slices.ContainsFunc[[]int64,int64] -/
def slices_ContainsFunc_int64__lim_isRow_fn1__lim_isNet (k : Nat) (a0 : List Int) : Option Bool :=
 (slices_IndexFunc_int64__lim_isRow_fn1__lim_isNet k a0).bind fun x0 =>
 some (decide (x0 ≥ 0))

/-- giro/lim.isRow -/
def lim_isRow__lim_isNet (k : Nat) (a0 : List Int) (a1 : Int) : Option Bool :=
 bif decide ((a0.length : Int) = a1) then ((slices_ContainsFunc_int64__lim_isRow_fn1__lim_isNet k a0).bind fun x0 =>
  some (!x0))
 else some false

abbrev lim_isSquare__lim_isNet_L0T : Type := Int → List (List Int) → Int → Int → Option (Unit ⊕ Bool)
def lim_isSquare__lim_isNet_L0b (k : Nat) (rec : lim_isSquare__lim_isNet_L0T) (s1 : Int) (s13 : List (List Int)) (s14 : Int) (s15 : Int) : Option (Unit ⊕ Bool) :=
 bif decide (s15 < s14) then (bif boundOk s15 s13.length then ((lim_isRow__lim_isNet k (s13.getD s15.toNat []) s1).bind fun x0 =>
   bif !x0 then some (.inr false)
   else rec s1 s13 s14 (w64 (s15 + 1)))
  else none)
 else some (.inl ())
def lim_isSquare__lim_isNet_L0 (k : Nat) : Nat → lim_isSquare__lim_isNet_L0T
 | 0, _, _, _, _ => none
 | n + 1, s1, s13, s14, s15 => lim_isSquare__lim_isNet_L0b k (lim_isSquare__lim_isNet_L0 k n) s1 s13 s14 s15
/-- giro/lim.isSquare -/
def lim_isSquare__lim_isNet (k : Nat) (a0 : List (List Int)) (a1 : Int) : Option Bool :=
 bif !(decide ((a0.length : Int) = a1)) then some false
 else (lim_isSquare__lim_isNet_L0 k k a1 a0 (a0.length : Int) 0).bind fun z =>
 match z with
 | .inl z1 => some true
 | .inr z2 => some z2

abbrev lim_isTurned_L1X : Type := ((List (List Int)) × (List (List Int)) × Int × Int) ⊕ Bool
abbrev lim_isTurned_L1T : Type := List (List Int) → Int → List (List Int) → Int → Int → List Int → Int → Int → Option lim_isTurned_L1X
def lim_isTurned_L1b (k : Nat) (rec : lim_isTurned_L1T) (s0 : List (List Int)) (s3 : Int) (s7 : List (List Int)) (s8 : Int) (s9 : Int) (s14 : List Int) (s15 : Int) (s16 : Int) : Option lim_isTurned_L1X :=
 bif decide (s16 < s15) then (bif boundOk s16 s14.length then (bif boundOk s16 s0.length then (bif boundOk s3 (s0.getD s16.toNat []).length then (bif !(decide (((s0.getD s16.toNat []).getD s3.toNat 0) = (w64 (0 - (s14.getD s16.toNat 0))))) then some (.inr false)
     else rec s0 s3 s7 s8 s9 s14 s15 (w64 (s16 + 1)))
    else none)
   else none)
  else none)
 else some (.inl (s0, s7, s8, s9))
def lim_isTurned_L1 (k : Nat) : Nat → lim_isTurned_L1T
 | 0, _, _, _, _, _, _, _, _ => none
 | n + 1, s0, s3, s7, s8, s9, s14, s15, s16 => lim_isTurned_L1b k (lim_isTurned_L1 k n) s0 s3 s7 s8 s9 s14 s15 s16
abbrev lim_isTurned_L0T : Type := List (List Int) → List (List Int) → Int → Int → Option (Unit ⊕ Bool)
def lim_isTurned_L0b (k : Nat) (rec : lim_isTurned_L0T) (s0 : List (List Int)) (s7 : List (List Int)) (s8 : Int) (s9 : Int) : Option (Unit ⊕ Bool) :=
 bif decide (s9 < s8) then (bif boundOk s9 s7.length then ((lim_isTurned_L1 k k s0 s9 s7 s8 s9 (s7.getD s9.toNat []) ((s7.getD s9.toNat []).length : Int) 0).bind fun z =>
   match z with
   | .inl z1 => rec z1.1 z1.2.1 z1.2.2.1 (w64 (z1.2.2.2 + 1))
   | .inr z2 => some (.inr z2))
  else none)
 else some (.inl ())
def lim_isTurned_L0 (k : Nat) : Nat → lim_isTurned_L0T
 | 0, _, _, _, _ => none
 | n + 1, s0, s7, s8, s9 => lim_isTurned_L0b k (lim_isTurned_L0 k n) s0 s7 s8 s9
/-- giro/lim.isTurned -/
def lim_isTurned (k : Nat) (a0 : List (List Int)) : Option Bool :=
 (lim_isTurned_L0 k k a0 a0 (a0.length : Int) 0).bind fun z3 =>
 match z3 with
 | .inl z4 => some true
 | .inr z5 => some z5

/-- giro/lim.Is -/
def lim_Is (k : Nat) (a0Accts : List K4q) (a0Bil : List (List Int)) (a0Mul : List Int) (a0Pos : List (List Int)) : Option Bool :=
 bif decide ((a0Accts.length : Int) < 1) then some false
 else bif decide ((a0Accts.length : Int) > 6) then some false
 else (slices_ContainsFunc_Acct__lim_Is_fn1 k a0Accts).bind fun x0 =>
 bif x0 then some false
 else (lim_isSquare__lim_isLimit k a0Bil (a0Accts.length : Int)).bind fun x1 =>
 bif x1 then ((lim_isRow__lim_isLimit k a0Mul (a0Accts.length : Int)).bind fun x2 =>
  bif x2 then ((lim_isSquare__lim_isNet k a0Pos (a0Accts.length : Int)).bind fun x3 =>
   bif x3 then ((lim_isTurned k a0Pos).bind fun x4 =>
    some x4)
   else some false)
  else some false)
 else some false

abbrev post_Post_L0X : Type := (List K4q) × (List (List Int)) × (List Int) × (List (List Int)) × (List K4q) × (List (List Int)) × (List Int) × (List (List Int))
abbrev post_Post_L0T : Type := List K3q → Int → Int → List K4q → List (List Int) → List Int → List (List Int) → List K4q → List (List Int) → List Int → List (List Int) → Option post_Post_L0X
def post_Post_L0b (k : Nat) (rec : post_Post_L0T) (s24 : List K3q) (s25 : Int) (s26 : Int) (b0_0 : List K4q) (b0_1 : List (List Int)) (b0_2 : List Int) (b0_3 : List (List Int)) (r3 : List K4q) (m4 : List (List Int)) (r5 : List Int) (m6 : List (List Int)) : Option post_Post_L0X :=
 bif decide (s26 < s25) then (bif boundOk s26 s24.length then (bif boundOk (s24.getD s26.toNat (0, 0, 0, 0, 0, 0, 0)).2.1 r3.length then (bif boundOk (s24.getD s26.toNat (0, 0, 0, 0, 0, 0, 0)).2.2.1 r3.length then (let y0 : List K4q := (r3.set (s24.getD s26.toNat (0, 0, 0, 0, 0, 0, 0)).2.1.toNat ((w64 ((r3.getD (s24.getD s26.toNat (0, 0, 0, 0, 0, 0, 0)).2.1.toNat (0, 0, 0)).1 - (s24.getD s26.toNat (0, 0, 0, 0, 0, 0, 0)).2.2.2.1)), (r3.getD (s24.getD s26.toNat (0, 0, 0, 0, 0, 0, 0)).2.1.toNat (0, 0, 0)).2))
     let y1 : List K4q := (y0.set (s24.getD s26.toNat (0, 0, 0, 0, 0, 0, 0)).2.2.1.toNat ((w64 ((y0.getD (s24.getD s26.toNat (0, 0, 0, 0, 0, 0, 0)).2.2.1.toNat (0, 0, 0)).1 + (s24.getD s26.toNat (0, 0, 0, 0, 0, 0, 0)).2.2.2.1)), (y0.getD (s24.getD s26.toNat (0, 0, 0, 0, 0, 0, 0)).2.2.1.toNat (0, 0, 0)).2))
     bif !(decide ((s24.getD s26.toNat (0, 0, 0, 0, 0, 0, 0)).2.2.2.2.1 = 3)) then ((acct_Kept k (y1.getD (s24.getD s26.toNat (0, 0, 0, 0, 0, 0, 0)).2.1.toNat (0, 0, 0)).1 (y1.getD (s24.getD s26.toNat (0, 0, 0, 0, 0, 0, 0)).2.1.toNat (0, 0, 0)).2.1 (y1.getD (s24.getD s26.toNat (0, 0, 0, 0, 0, 0, 0)).2.1.toNat (0, 0, 0)).2.2 (s24.getD s26.toNat (0, 0, 0, 0, 0, 0, 0)).2.2.2.1).bind fun x2 =>
      let y2 : List K4q := (y1.set (s24.getD s26.toNat (0, 0, 0, 0, 0, 0, 0)).2.1.toNat ((y1.getD (s24.getD s26.toNat (0, 0, 0, 0, 0, 0, 0)).2.1.toNat (0, 0, 0)).1, (y1.getD (s24.getD s26.toNat (0, 0, 0, 0, 0, 0, 0)).2.1.toNat (0, 0, 0)).2.1, x2))
      bif boundOk (s24.getD s26.toNat (0, 0, 0, 0, 0, 0, 0)).2.1 m6.length then (bif boundOk (s24.getD s26.toNat (0, 0, 0, 0, 0, 0, 0)).2.2.1 (m6.getD (s24.getD s26.toNat (0, 0, 0, 0, 0, 0, 0)).2.1.toNat []).length then (bif boundOk (s24.getD s26.toNat (0, 0, 0, 0, 0, 0, 0)).2.2.1 (m6.getD (s24.getD s26.toNat (0, 0, 0, 0, 0, 0, 0)).2.1.toNat []).length then (let y3 : List (List Int) := (m6.set (s24.getD s26.toNat (0, 0, 0, 0, 0, 0, 0)).2.1.toNat ((m6.getD (s24.getD s26.toNat (0, 0, 0, 0, 0, 0, 0)).2.1.toNat []).set (s24.getD s26.toNat (0, 0, 0, 0, 0, 0, 0)).2.2.1.toNat (w64 (((m6.getD (s24.getD s26.toNat (0, 0, 0, 0, 0, 0, 0)).2.1.toNat []).getD (s24.getD s26.toNat (0, 0, 0, 0, 0, 0, 0)).2.2.1.toNat 0) + (s24.getD s26.toNat (0, 0, 0, 0, 0, 0, 0)).2.2.2.1))))
         bif boundOk (s24.getD s26.toNat (0, 0, 0, 0, 0, 0, 0)).2.2.1 y3.length then (bif boundOk (s24.getD s26.toNat (0, 0, 0, 0, 0, 0, 0)).2.1 (y3.getD (s24.getD s26.toNat (0, 0, 0, 0, 0, 0, 0)).2.2.1.toNat []).length then (bif boundOk (s24.getD s26.toNat (0, 0, 0, 0, 0, 0, 0)).2.1 (y3.getD (s24.getD s26.toNat (0, 0, 0, 0, 0, 0, 0)).2.2.1.toNat []).length then (let y4 : List (List Int) := (y3.set (s24.getD s26.toNat (0, 0, 0, 0, 0, 0, 0)).2.2.1.toNat ((y3.getD (s24.getD s26.toNat (0, 0, 0, 0, 0, 0, 0)).2.2.1.toNat []).set (s24.getD s26.toNat (0, 0, 0, 0, 0, 0, 0)).2.1.toNat (w64 (((y3.getD (s24.getD s26.toNat (0, 0, 0, 0, 0, 0, 0)).2.2.1.toNat []).getD (s24.getD s26.toNat (0, 0, 0, 0, 0, 0, 0)).2.1.toNat 0) - (s24.getD s26.toNat (0, 0, 0, 0, 0, 0, 0)).2.2.2.1))))
            rec s24 s25 (w64 (s26 + 1)) b0_0 b0_1 b0_2 b0_3 y2 m4 r5 y4)
           else none)
          else none)
         else none)
        else none)
       else none)
      else none)
     else bif boundOk (s24.getD s26.toNat (0, 0, 0, 0, 0, 0, 0)).2.1 m6.length then (bif boundOk (s24.getD s26.toNat (0, 0, 0, 0, 0, 0, 0)).2.2.1 (m6.getD (s24.getD s26.toNat (0, 0, 0, 0, 0, 0, 0)).2.1.toNat []).length then (bif boundOk (s24.getD s26.toNat (0, 0, 0, 0, 0, 0, 0)).2.2.1 (m6.getD (s24.getD s26.toNat (0, 0, 0, 0, 0, 0, 0)).2.1.toNat []).length then (let y5 : List (List Int) := (m6.set (s24.getD s26.toNat (0, 0, 0, 0, 0, 0, 0)).2.1.toNat ((m6.getD (s24.getD s26.toNat (0, 0, 0, 0, 0, 0, 0)).2.1.toNat []).set (s24.getD s26.toNat (0, 0, 0, 0, 0, 0, 0)).2.2.1.toNat (w64 (((m6.getD (s24.getD s26.toNat (0, 0, 0, 0, 0, 0, 0)).2.1.toNat []).getD (s24.getD s26.toNat (0, 0, 0, 0, 0, 0, 0)).2.2.1.toNat 0) + (s24.getD s26.toNat (0, 0, 0, 0, 0, 0, 0)).2.2.2.1))))
        bif boundOk (s24.getD s26.toNat (0, 0, 0, 0, 0, 0, 0)).2.2.1 y5.length then (bif boundOk (s24.getD s26.toNat (0, 0, 0, 0, 0, 0, 0)).2.1 (y5.getD (s24.getD s26.toNat (0, 0, 0, 0, 0, 0, 0)).2.2.1.toNat []).length then (bif boundOk (s24.getD s26.toNat (0, 0, 0, 0, 0, 0, 0)).2.1 (y5.getD (s24.getD s26.toNat (0, 0, 0, 0, 0, 0, 0)).2.2.1.toNat []).length then (let y6 : List (List Int) := (y5.set (s24.getD s26.toNat (0, 0, 0, 0, 0, 0, 0)).2.2.1.toNat ((y5.getD (s24.getD s26.toNat (0, 0, 0, 0, 0, 0, 0)).2.2.1.toNat []).set (s24.getD s26.toNat (0, 0, 0, 0, 0, 0, 0)).2.1.toNat (w64 (((y5.getD (s24.getD s26.toNat (0, 0, 0, 0, 0, 0, 0)).2.2.1.toNat []).getD (s24.getD s26.toNat (0, 0, 0, 0, 0, 0, 0)).2.1.toNat 0) - (s24.getD s26.toNat (0, 0, 0, 0, 0, 0, 0)).2.2.2.1))))
           rec s24 s25 (w64 (s26 + 1)) b0_0 b0_1 b0_2 b0_3 y1 m4 r5 y6)
          else none)
         else none)
        else none)
       else none)
      else none)
     else none)
    else none)
   else none)
  else none)
 else some (b0_0, b0_1, b0_2, b0_3, r3, m4, r5, m6)
def post_Post_L0 (k : Nat) : Nat → post_Post_L0T
 | 0, _, _, _, _, _, _, _, _, _, _, _ => none
 | n + 1, s24, s25, s26, b0_0, b0_1, b0_2, b0_3, r3, m4, r5, m6 => post_Post_L0b k (post_Post_L0 k n) s24 s25 s26 b0_0 b0_1 b0_2 b0_3 r3 m4 r5 m6
/-- giro/post.Post -/
def post_Post (k : Nat) (a0Accts : List K4q) (a0Bil : List (List Int)) (a0Mul : List Int) (a0Pos : List (List Int)) (a1 : List K3q) : Option ((List K4q) × (List (List Int)) × (List Int) × (List (List Int)) × Int) :=
 bif decide ((a1.length : Int) > 64) then some (a0Accts, a0Bil, a0Mul, a0Pos, 1)
 else (slices_ContainsFunc_Pay__post_Post_fn1 k a1 a0Accts a0Bil a0Mul a0Pos).bind fun x0 =>
 bif x0 then some (a0Accts, a0Bil, a0Mul, a0Pos, 1)
 else (lim_Copy k a0Accts a0Bil a0Mul a0Pos).bind fun x1 =>
 (post_Post_L0 k k a1 (a1.length : Int) 0 a0Accts a0Bil a0Mul a0Pos x1.1 x1.2.1 x1.2.2.1 x1.2.2.2).bind fun z =>
 (lim_Is k z.2.2.2.2.1 z.2.2.2.2.2.1 z.2.2.2.2.2.2.1 z.2.2.2.2.2.2.2).bind fun x3 =>
 bif !x3 then some (z.1, z.2.1, z.2.2.1, z.2.2.2.1, 8)
 else some (z.2.2.2.2.1, z.2.2.2.2.2.1, z.2.2.2.2.2.2.1, z.2.2.2.2.2.2.2, 0)

abbrev free_next_L0X : Type := ((List K4q) × (List (List Int)) × (List Int) × (List (List Int)) × Int × Int × Int × Int × Int × Int × Int) ⊕ (Bool × Int × Int × Int × Int × Int × Int × Int × (List K4q) × (List (List Int)) × (List Int) × (List (List Int)))
abbrev free_next_L0T : Type := Int → Int → List K4q → List (List Int) → List Int → List (List Int) → Int → Int → Int → Int → Int → Int → Int → List K3q → Option free_next_L0X
def free_next_L0b (k : Nat) (rec : free_next_L0T) (s16 : Int) (s17 : Int) (b0_0 : List K4q) (b0_1 : List (List Int)) (b0_2 : List Int) (b0_3 : List (List Int)) (b1_0 : Int) (b1_1 : Int) (b1_2 : Int) (b1_3 : Int) (b1_4 : Int) (b1_5 : Int) (b1_6 : Int) (r3 : List K3q) : Option free_next_L0X :=
 bif decide (s17 < s16) then (bif boundOk s17 r3.length then ((fits_Fits k b0_0 b0_1 b0_2 b0_3 [(r3.getD s17.toNat (0, 0, 0, 0, 0, 0, 0))]).bind fun x1 =>
   bif !x1 then (rec s16 (w64 (s17 + 1)) b0_0 b0_1 b0_2 b0_3 b1_0 b1_1 b1_2 b1_3 b1_4 b1_5 b1_6 r3)
   else (post_Post k b0_0 b0_1 b0_2 b0_3 [(r3.getD s17.toNat (0, 0, 0, 0, 0, 0, 0))]).bind fun x2 =>
   bif decide (x2.2.2.2.2 = 0) then some (.inr (true, (r3.getD s17.toNat (0, 0, 0, 0, 0, 0, 0)).1, (r3.getD s17.toNat (0, 0, 0, 0, 0, 0, 0)).2.1, (r3.getD s17.toNat (0, 0, 0, 0, 0, 0, 0)).2.2.1, (r3.getD s17.toNat (0, 0, 0, 0, 0, 0, 0)).2.2.2.1, (r3.getD s17.toNat (0, 0, 0, 0, 0, 0, 0)).2.2.2.2.1, (r3.getD s17.toNat (0, 0, 0, 0, 0, 0, 0)).2.2.2.2.2.1, (r3.getD s17.toNat (0, 0, 0, 0, 0, 0, 0)).2.2.2.2.2.2, x2.1, x2.2.1, x2.2.2.1, x2.2.2.2.1))
   else rec s16 (w64 (s17 + 1)) b0_0 b0_1 b0_2 b0_3 b1_0 b1_1 b1_2 b1_3 b1_4 b1_5 b1_6 r3)
  else none)
 else some (.inl (b0_0, b0_1, b0_2, b0_3, b1_0, b1_1, b1_2, b1_3, b1_4, b1_5, b1_6))
def free_next_L0 (k : Nat) : Nat → free_next_L0T
 | 0, _, _, _, _, _, _, _, _, _, _, _, _, _, _ => none
 | n + 1, s16, s17, b0_0, b0_1, b0_2, b0_3, b1_0, b1_1, b1_2, b1_3, b1_4, b1_5, b1_6, r3 => free_next_L0b k (free_next_L0 k n) s16 s17 b0_0 b0_1 b0_2 b0_3 b1_0 b1_1 b1_2 b1_3 b1_4 b1_5 b1_6 r3
/-- giro/free.next -/
def free_next (k : Nat) (a0Accts : List K4q) (a0Bil : List (List Int)) (a0Mul : List Int) (a0Pos : List (List Int)) (a1 : List K3q) (a2 : Int) : Option (Int × Int × Int × Int × Int × Int × Int × (List K4q) × (List (List Int)) × (List Int) × (List (List Int)) × Bool) :=
 (view_May k a1 a2).bind fun x0 =>
 (free_next_L0 k k (x0.length : Int) 0 a0Accts a0Bil a0Mul a0Pos 0 0 0 0 0 0 0 x0).bind fun z =>
 match z with
 | .inl z1 => some (0, 0, 0, 0, 0, 0, 0, z1.1, z1.2.1, z1.2.2.1, z1.2.2.2.1, false)
 | .inr z2 => some (z2.2.1, z2.2.2.1, z2.2.2.2.1, z2.2.2.2.2.1, z2.2.2.2.2.2.1, z2.2.2.2.2.2.2.1, z2.2.2.2.2.2.2.2.1, z2.2.2.2.2.2.2.2.2.1, z2.2.2.2.2.2.2.2.2.2.1, z2.2.2.2.2.2.2.2.2.2.2.1, z2.2.2.2.2.2.2.2.2.2.2.2, z2.1)

/-- giro/free.Next -/
def free_Next (k : Nat) (a0Accts : List K4q) (a0Bil : List (List Int)) (a0Mul : List Int) (a0Pos : List (List Int)) (a1 : List K3q) (a2 : Int) : Option (Int × Int × Int × Int × Int × Int × Int × Bool) :=
 (free_next k a0Accts a0Bil a0Mul a0Pos a1 a2).bind fun x0 =>
 some (x0.1, x0.2.1, x0.2.2.1, x0.2.2.2.1, x0.2.2.2.2.1, x0.2.2.2.2.2.1, x0.2.2.2.2.2.2.1, x0.2.2.2.2.2.2.2.2.2.2.2)

/-- giro/audit.Stuck -/
def audit_Stuck (k : Nat) (a0Tick : Int) (a0BooksAccts : List K4q) (a0BooksBil : List (List Int)) (a0BooksMul : List Int) (a0BooksPos : List (List Int)) (a0Prices : List Int) (a0Holds : List (List Int)) (a0Pays : List K3q) (a0IDs : List Int) (a0Total : Int) (a0Over : Bool) : Option Bool :=
 (free_Next k a0BooksAccts a0BooksBil a0BooksMul a0BooksPos a0Pays a0Tick).bind fun x0 =>
 some (!x0.2.2.2.2.2.2.2)

/-- giro/giroref11.Ready -/
def giroref11_Ready (k : Nat) (a0ID : Int) (a0From : Int) (a0To : Int) (a0Amount : Int) (a0Class : Int) (a0Start : Int) (a0Till : Int) (a1 : Int) : Option Bool :=
 bif decide (a1 ≥ a0Start) then some (decide (a1 ≤ a0Till))
 else some false

abbrev giroref14_Ready_L0X : Type := List K3q
abbrev giroref14_Ready_L0T : Type := List K3q → Int → Int → List K3q → Option giroref14_Ready_L0X
def giroref14_Ready_L0b (k : Nat) (rec : giroref14_Ready_L0T) (s0 : List K3q) (s1 : Int) (s6 : Int) (r0 : List K3q) : Option giroref14_Ready_L0X :=
 bif decide (s6 < (s0.length : Int)) then (bif boundOk s6 s0.length then ((giroref11_Ready k (s0.getD s6.toNat (0, 0, 0, 0, 0, 0, 0)).1 (s0.getD s6.toNat (0, 0, 0, 0, 0, 0, 0)).2.1 (s0.getD s6.toNat (0, 0, 0, 0, 0, 0, 0)).2.2.1 (s0.getD s6.toNat (0, 0, 0, 0, 0, 0, 0)).2.2.2.1 (s0.getD s6.toNat (0, 0, 0, 0, 0, 0, 0)).2.2.2.2.1 (s0.getD s6.toNat (0, 0, 0, 0, 0, 0, 0)).2.2.2.2.2.1 (s0.getD s6.toNat (0, 0, 0, 0, 0, 0, 0)).2.2.2.2.2.2 s1).bind fun x0 =>
   bif x0 then (bif boundOk s6 s0.length then (bif roomB (r0.length + 1) 56 then (let y0 : List K3q := (r0 ++ [(s0.getD s6.toNat (0, 0, 0, 0, 0, 0, 0))])
      rec s0 s1 (w64 (s6 + 1)) y0)
     else none)
    else none)
   else rec s0 s1 (w64 (s6 + 1)) r0)
  else none)
 else some r0
def giroref14_Ready_L0 (k : Nat) : Nat → giroref14_Ready_L0T
 | 0, _, _, _, _ => none
 | n + 1, s0, s1, s6, r0 => giroref14_Ready_L0b k (giroref14_Ready_L0 k n) s0 s1 s6 r0
/-- giro/giroref14.Ready -/
def giroref14_Ready (k : Nat) (a0 : List K3q) (a1 : Int) : Option (List K3q) :=
 (giroref14_Ready_L0 k k a0 a1 0 []).bind fun z =>
 some z

abbrev giroref14_Of_L0X : Type := List K3q
abbrev giroref14_Of_L0T : Type := List K3q → Int → Int → List K3q → Option giroref14_Of_L0X
def giroref14_Of_L0b (k : Nat) (rec : giroref14_Of_L0T) (s0 : List K3q) (s1 : Int) (s6 : Int) (r0 : List K3q) : Option giroref14_Of_L0X :=
 bif decide (s6 < (s0.length : Int)) then (bif boundOk s6 s0.length then (bif decide ((s0.getD s6.toNat (0, 0, 0, 0, 0, 0, 0)).2.1 = s1) then (bif boundOk s6 s0.length then (bif roomB (r0.length + 1) 56 then (let y0 : List K3q := (r0 ++ [(s0.getD s6.toNat (0, 0, 0, 0, 0, 0, 0))])
      rec s0 s1 (w64 (s6 + 1)) y0)
     else none)
    else none)
   else rec s0 s1 (w64 (s6 + 1)) r0)
  else none)
 else some r0
def giroref14_Of_L0 (k : Nat) : Nat → giroref14_Of_L0T
 | 0, _, _, _, _ => none
 | n + 1, s0, s1, s6, r0 => giroref14_Of_L0b k (giroref14_Of_L0 k n) s0 s1 s6 r0
/-- giro/giroref14.Of -/
def giroref14_Of (k : Nat) (a0 : List K3q) (a1 : Int) : Option (List K3q) :=
 (giroref14_Of_L0 k k a0 a1 0 []).bind fun z =>
 some z

abbrev giroref14_May_L1X : Type := Int × Bool × (List K3q) × (List K3q) × (List K3q)
abbrev giroref14_May_L1T : Type := Int → Bool → Int → List K3q → List K3q → List K3q → Option giroref14_May_L1X
def giroref14_May_L1b (k : Nat) (rec : giroref14_May_L1T) (s7 : Int) (s9 : Bool) (s10 : Int) (r0 : List K3q) (r1 : List K3q) (r2 : List K3q) : Option giroref14_May_L1X :=
 bif decide (s10 < (r2.length : Int)) then (bif s9 then (bif boundOk s10 r2.length then (rec s7 (decide ((r2.getD s10.toNat (0, 0, 0, 0, 0, 0, 0)).2.2.2.2.1 = 3)) (w64 (s10 + 1)) r0 r1 r2)
   else none)
  else rec s7 false (w64 (s10 + 1)) r0 r1 r2)
 else some (s7, s9, r0, r1, r2)
def giroref14_May_L1 (k : Nat) : Nat → giroref14_May_L1T
 | 0, _, _, _, _, _, _ => none
 | n + 1, s7, s9, s10, r0, r1, r2 => giroref14_May_L1b k (giroref14_May_L1 k n) s7 s9 s10 r0 r1 r2
abbrev giroref14_May_L0X : Type := List K3q
abbrev giroref14_May_L0T : Type := Int → List K3q → List K3q → Option giroref14_May_L0X
def giroref14_May_L0b (k : Nat) (rec : giroref14_May_L0T) (s7 : Int) (r0 : List K3q) (r1 : List K3q) : Option giroref14_May_L0X :=
 bif decide (s7 < (r0.length : Int)) then (bif boundOk s7 r0.length then ((giroref14_Of k r0 (r0.getD s7.toNat (0, 0, 0, 0, 0, 0, 0)).2.1).bind fun x1 =>
   (giroref14_May_L1 k k s7 true 0 r0 r1 x1).bind fun z =>
   bif boundOk 0 z.2.2.2.2.length then (bif boundOk z.1 z.2.2.1.length then (bif (decide ((z.2.2.2.2.getD 0 (0, 0, 0, 0, 0, 0, 0)).1 = (z.2.2.1.getD z.1.toNat (0, 0, 0, 0, 0, 0, 0)).1)) && ((decide ((z.2.2.2.2.getD 0 (0, 0, 0, 0, 0, 0, 0)).2.1 = (z.2.2.1.getD z.1.toNat (0, 0, 0, 0, 0, 0, 0)).2.1)) && ((decide ((z.2.2.2.2.getD 0 (0, 0, 0, 0, 0, 0, 0)).2.2.1 = (z.2.2.1.getD z.1.toNat (0, 0, 0, 0, 0, 0, 0)).2.2.1)) && ((decide ((z.2.2.2.2.getD 0 (0, 0, 0, 0, 0, 0, 0)).2.2.2.1 = (z.2.2.1.getD z.1.toNat (0, 0, 0, 0, 0, 0, 0)).2.2.2.1)) && ((decide ((z.2.2.2.2.getD 0 (0, 0, 0, 0, 0, 0, 0)).2.2.2.2.1 = (z.2.2.1.getD z.1.toNat (0, 0, 0, 0, 0, 0, 0)).2.2.2.2.1)) && ((decide ((z.2.2.2.2.getD 0 (0, 0, 0, 0, 0, 0, 0)).2.2.2.2.2.1 = (z.2.2.1.getD z.1.toNat (0, 0, 0, 0, 0, 0, 0)).2.2.2.2.2.1)) && (decide ((z.2.2.2.2.getD 0 (0, 0, 0, 0, 0, 0, 0)).2.2.2.2.2.2 = (z.2.2.1.getD z.1.toNat (0, 0, 0, 0, 0, 0, 0)).2.2.2.2.2.2))))))) then (bif boundOk z.1 z.2.2.1.length then (bif roomB (z.2.2.2.1.length + 1) 56 then (let y0 : List K3q := (z.2.2.2.1 ++ [(z.2.2.1.getD z.1.toNat (0, 0, 0, 0, 0, 0, 0))])
        rec (w64 (z.1 + 1)) z.2.2.1 y0)
       else none)
      else none)
     else bif z.2.1 then (bif boundOk z.1 z.2.2.1.length then (bif roomB (z.2.2.2.1.length + 1) 56 then (let y1 : List K3q := (z.2.2.2.1 ++ [(z.2.2.1.getD z.1.toNat (0, 0, 0, 0, 0, 0, 0))])
        rec (w64 (z.1 + 1)) z.2.2.1 y1)
       else none)
      else none)
     else rec (w64 (z.1 + 1)) z.2.2.1 z.2.2.2.1)
    else none)
   else none)
  else none)
 else some r1
def giroref14_May_L0 (k : Nat) : Nat → giroref14_May_L0T
 | 0, _, _, _ => none
 | n + 1, s7, r0, r1 => giroref14_May_L0b k (giroref14_May_L0 k n) s7 r0 r1
/-- giro/giroref14.May -/
def giroref14_May (k : Nat) (a0 : List K3q) (a1 : Int) : Option (List K3q) :=
 (giroref14_Ready k a0 a1).bind fun x0 =>
 (giroref14_May_L0 k k 0 x0 []).bind fun z1 =>
 some z1

/-- giro/giroref15.May -/
def giroref15_May (k : Nat) (a0Accts : List K4q) (a0Bil : List (List Int)) (a0Mul : List Int) (a0Pos : List (List Int)) (a1ID : Int) (a1From : Int) (a1To : Int) (a1Amount : Int) (a1Class : Int) (a1Start : Int) (a1Till : Int) : Option Bool :=
 bif decide (a1From ≥ 0) then (bif decide (a1From < (a0Accts.length : Int)) then (bif decide (a1To ≥ 0) then (bif decide (a1To < (a0Accts.length : Int)) then (bif !(decide (a1From = a1To)) then (bif decide (a1Amount ≥ 1) then (bif decide (a1Amount ≤ 1099511627776) then (bif decide (a1Class ≥ 1) then some (decide (a1Class ≤ 3))
        else some false)
       else some false)
      else some false)
     else some false)
    else some false)
   else some false)
  else some false)
 else some false

abbrev giroref15_All_L0X : Type := (List K3q) ⊕ Bool
abbrev giroref15_All_L0T : Type := List K3q → Int → List K4q → List (List Int) → List Int → List (List Int) → Option giroref15_All_L0X
def giroref15_All_L0b (k : Nat) (rec : giroref15_All_L0T) (s1 : List K3q) (s5 : Int) (b0_0 : List K4q) (b0_1 : List (List Int)) (b0_2 : List Int) (b0_3 : List (List Int)) : Option giroref15_All_L0X :=
 bif decide (s5 < (s1.length : Int)) then (bif boundOk s5 s1.length then ((giroref15_May k b0_0 b0_1 b0_2 b0_3 (s1.getD s5.toNat (0, 0, 0, 0, 0, 0, 0)).1 (s1.getD s5.toNat (0, 0, 0, 0, 0, 0, 0)).2.1 (s1.getD s5.toNat (0, 0, 0, 0, 0, 0, 0)).2.2.1 (s1.getD s5.toNat (0, 0, 0, 0, 0, 0, 0)).2.2.2.1 (s1.getD s5.toNat (0, 0, 0, 0, 0, 0, 0)).2.2.2.2.1 (s1.getD s5.toNat (0, 0, 0, 0, 0, 0, 0)).2.2.2.2.2.1 (s1.getD s5.toNat (0, 0, 0, 0, 0, 0, 0)).2.2.2.2.2.2).bind fun x0 =>
   bif !x0 then some (.inr false)
   else rec s1 (w64 (s5 + 1)) b0_0 b0_1 b0_2 b0_3)
  else none)
 else some (.inl s1)
def giroref15_All_L0 (k : Nat) : Nat → giroref15_All_L0T
 | 0, _, _, _, _, _, _ => none
 | n + 1, s1, s5, b0_0, b0_1, b0_2, b0_3 => giroref15_All_L0b k (giroref15_All_L0 k n) s1 s5 b0_0 b0_1 b0_2 b0_3
/-- giro/giroref15.All -/
def giroref15_All (k : Nat) (a0Accts : List K4q) (a0Bil : List (List Int)) (a0Mul : List Int) (a0Pos : List (List Int)) (a1 : List K3q) : Option Bool :=
 (giroref15_All_L0 k k a1 0 a0Accts a0Bil a0Mul a0Pos).bind fun z =>
 match z with
 | .inl z1 => some (decide ((z1.length : Int) ≤ 64))
 | .inr z2 => some z2

abbrev giroref10_rows_L0T : Type := List (List Int) → Int → List (List Int) → Option (List (List Int))
def giroref10_rows_L0b (k : Nat) (rec : giroref10_rows_L0T) (s0 : List (List Int)) (s4 : Int) (m0 : List (List Int)) : Option (List (List Int)) :=
 bif decide (s4 < (s0.length : Int)) then (bif boundOk s4 s0.length then (bif roomB (0 + (s0.getD s4.toNat []).length) 8 then (bif roomB (m0.length + 1) 24 then (rec s0 (w64 (s4 + 1)) (m0 ++ [(s0.getD s4.toNat [])]))
    else none)
   else none)
  else none)
 else some m0
def giroref10_rows_L0 (k : Nat) : Nat → giroref10_rows_L0T
 | 0, _, _, _ => none
 | n + 1, s0, s4, m0 => giroref10_rows_L0b k (giroref10_rows_L0 k n) s0 s4 m0
/-- giro/giroref10.rows -/
def giroref10_rows (k : Nat) (a0 : List (List Int)) : Option (List (List Int)) :=
 (giroref10_rows_L0 k k a0 0 []).bind fun z =>
 some z

/-- giro/giroref10.Copy -/
def giroref10_Copy (k : Nat) (a0Accts : List K4q) (a0Bil : List (List Int)) (a0Mul : List Int) (a0Pos : List (List Int)) : Option ((List K4q) × (List (List Int)) × (List Int) × (List (List Int))) :=
 bif roomB (0 + a0Accts.length) 24 then ((giroref10_rows k a0Bil).bind fun x0 =>
  bif roomB (0 + a0Mul.length) 8 then ((giroref10_rows k a0Pos).bind fun x1 =>
   some (a0Accts, x0, a0Mul, x1))
  else none)
 else none

abbrev giroref15_classed_L0T : Type := List K3q → Int → Int → Int → Int → Option K5q
def giroref15_classed_L0b (k : Nat) (rec : giroref15_classed_L0T) (s0 : List K3q) (s1 : Int) (s6 : Int) (s7 : Int) (s8 : Int) : Option K5q :=
 bif decide (s8 < (s0.length : Int)) then (bif boundOk s8 s0.length then (bif !(decide ((s0.getD s8.toNat (0, 0, 0, 0, 0, 0, 0)).2.1 = s1)) then (rec s0 s1 s6 s7 (w64 (s8 + 1)))
   else bif boundOk s8 s0.length then (bif decide ((s0.getD s8.toNat (0, 0, 0, 0, 0, 0, 0)).2.2.2.2.1 = 3) then (bif boundOk s8 s0.length then (rec s0 s1 (w64 (s6 + (s0.getD s8.toNat (0, 0, 0, 0, 0, 0, 0)).2.2.2.1)) s7 (w64 (s8 + 1)))
     else none)
    else bif boundOk s8 s0.length then (rec s0 s1 s6 (w64 (s7 + (s0.getD s8.toNat (0, 0, 0, 0, 0, 0, 0)).2.2.2.1)) (w64 (s8 + 1)))
    else none)
   else none)
  else none)
 else some (s6, s7)
def giroref15_classed_L0 (k : Nat) : Nat → giroref15_classed_L0T
 | 0, _, _, _, _, _ => none
 | n + 1, s0, s1, s6, s7, s8 => giroref15_classed_L0b k (giroref15_classed_L0 k n) s0 s1 s6 s7 s8
/-- giro/giroref15.classed -/
def giroref15_classed (k : Nat) (a0 : List K3q) (a1 : Int) : Option K5q :=
 (giroref15_classed_L0 k k a0 a1 0 0 0).bind fun z =>
 some (z.1, z.2)

/-- giro/giroref15.Spent -/
def giroref15_Spent (k : Nat) (a0 : List K3q) (a1 : Int) : Option Int :=
 (giroref15_classed k a0 a1).bind fun x0 =>
 some x0.2

/-- giro/giroref9.Kept -/
def giroref9_Kept (k : Nat) (a0Balance : Int) (a0Credit : Int) (a0Reserve : Int) (a1 : Int) : Option Int :=
 bif decide (a1 ≥ a0Reserve) then some 0
 else some (w64 (a0Reserve - a1))

abbrev giroref15_sent_L0T : Type := List K3q → Int → Int → Int → Int → Option Int
def giroref15_sent_L0b (k : Nat) (rec : giroref15_sent_L0T) (s0 : List K3q) (s1 : Int) (s2 : Int) (s7 : Int) (s8 : Int) : Option Int :=
 bif decide (s8 < (s0.length : Int)) then (bif boundOk s8 s0.length then (bif decide ((s0.getD s8.toNat (0, 0, 0, 0, 0, 0, 0)).2.1 = s1) then (bif boundOk s8 s0.length then (bif decide ((s0.getD s8.toNat (0, 0, 0, 0, 0, 0, 0)).2.2.1 = s2) then (bif boundOk s8 s0.length then (rec s0 s1 s2 (w64 (s7 + (s0.getD s8.toNat (0, 0, 0, 0, 0, 0, 0)).2.2.2.1)) (w64 (s8 + 1)))
      else none)
     else rec s0 s1 s2 s7 (w64 (s8 + 1)))
    else none)
   else rec s0 s1 s2 s7 (w64 (s8 + 1)))
  else none)
 else some s7
def giroref15_sent_L0 (k : Nat) : Nat → giroref15_sent_L0T
 | 0, _, _, _, _, _ => none
 | n + 1, s0, s1, s2, s7, s8 => giroref15_sent_L0b k (giroref15_sent_L0 k n) s0 s1 s2 s7 s8
/-- giro/giroref15.sent -/
def giroref15_sent (k : Nat) (a0 : List K3q) (a1 : Int) (a2 : Int) : Option Int :=
 (giroref15_sent_L0 k k a0 a1 a2 0 0).bind fun z =>
 some z

/-- giro/giroref15.Sent -/
def giroref15_Sent (k : Nat) (a0 : List K3q) (a1 : Int) (a2 : Int) : Option Int :=
 (giroref15_sent k a0 a1 a2).bind fun x0 =>
 (giroref15_sent k a0 a2 a1).bind fun x1 =>
 some (w64 (x0 - x1))

abbrev giroref10_square_L0T : Type := List (List Int) → Int → Int → Option (Unit ⊕ Bool)
def giroref10_square_L0b (k : Nat) (rec : giroref10_square_L0T) (s0 : List (List Int)) (s1 : Int) (s5 : Int) : Option (Unit ⊕ Bool) :=
 bif decide (s5 < s1) then (bif boundOk s5 s0.length then (bif !(decide (((s0.getD s5.toNat []).length : Int) = s1)) then some (.inr false)
   else rec s0 s1 (w64 (s5 + 1)))
  else none)
 else some (.inl ())
def giroref10_square_L0 (k : Nat) : Nat → giroref10_square_L0T
 | 0, _, _, _ => none
 | n + 1, s0, s1, s5 => giroref10_square_L0b k (giroref10_square_L0 k n) s0 s1 s5
/-- giro/giroref10.square -/
def giroref10_square (k : Nat) (a0 : List (List Int)) (a1 : Int) : Option Bool :=
 bif !(decide ((a0.length : Int) = a1)) then some false
 else (giroref10_square_L0 k k a0 a1 0).bind fun z =>
 match z with
 | .inl z1 => some true
 | .inr z2 => some z2

/-- giro/giroref9.Is -/
def giroref9_Is (k : Nat) (a0Balance : Int) (a0Credit : Int) (a0Reserve : Int) : Option Bool :=
 bif decide (a0Balance > (-4611686018427387904)) then (bif decide (a0Balance < 4611686018427387904) then (bif decide (a0Credit ≥ 0) then (bif decide (a0Credit ≤ 2305843009213693952) then (bif decide (a0Reserve ≥ 0) then some (decide (a0Reserve ≤ 2305843009213693952))
     else some false)
    else some false)
   else some false)
  else some false)
 else some false

/-- giro/giroref10.limit -/
def giroref10_limit (k : Nat) (a0 : Int) : Option Bool :=
 bif decide (a0 ≥ (-1)) then some (decide (a0 ≤ 2305843009213693952))
 else some false

abbrev giroref10_Is_L1X : Type := (Int × Int × (List K4q) × (List (List Int)) × (List Int) × (List (List Int))) ⊕ Bool
abbrev giroref10_Is_L1T : Type := Int → Int → Int → List K4q → List (List Int) → List Int → List (List Int) → Option giroref10_Is_L1X
def giroref10_Is_L1b (k : Nat) (rec : giroref10_Is_L1T) (s3 : Int) (s4 : Int) (s5 : Int) (b0_0 : List K4q) (b0_1 : List (List Int)) (b0_2 : List Int) (b0_3 : List (List Int)) : Option giroref10_Is_L1X :=
 bif decide (s5 < s3) then (bif boundOk s4 b0_1.length then (bif boundOk s5 (b0_1.getD s4.toNat []).length then ((giroref10_limit k ((b0_1.getD s4.toNat []).getD s5.toNat 0)).bind fun x4 =>
    bif !x4 then some (.inr false)
    else bif boundOk s4 b0_3.length then (bif boundOk s5 (b0_3.getD s4.toNat []).length then (bif decide (((b0_3.getD s4.toNat []).getD s5.toNat 0) ≤ (-72057594037927936)) then some (.inr false)
      else bif boundOk s4 b0_3.length then (bif boundOk s5 (b0_3.getD s4.toNat []).length then (bif decide (((b0_3.getD s4.toNat []).getD s5.toNat 0) ≥ 72057594037927936) then some (.inr false)
        else bif boundOk s4 b0_3.length then (bif boundOk s5 (b0_3.getD s4.toNat []).length then (bif boundOk s5 b0_3.length then (bif boundOk s4 (b0_3.getD s5.toNat []).length then (bif !(decide (((b0_3.getD s4.toNat []).getD s5.toNat 0) = (w64 (0 - ((b0_3.getD s5.toNat []).getD s4.toNat 0))))) then some (.inr false)
            else rec s3 s4 (w64 (s5 + 1)) b0_0 b0_1 b0_2 b0_3)
           else none)
          else none)
         else none)
        else none)
       else none)
      else none)
     else none)
    else none)
   else none)
  else none)
 else some (.inl (s3, s4, b0_0, b0_1, b0_2, b0_3))
def giroref10_Is_L1 (k : Nat) : Nat → giroref10_Is_L1T
 | 0, _, _, _, _, _, _, _ => none
 | n + 1, s3, s4, s5, b0_0, b0_1, b0_2, b0_3 => giroref10_Is_L1b k (giroref10_Is_L1 k n) s3 s4 s5 b0_0 b0_1 b0_2 b0_3
abbrev giroref10_Is_L0T : Type := Int → Int → List K4q → List (List Int) → List Int → List (List Int) → Option (Unit ⊕ Bool)
def giroref10_Is_L0b (k : Nat) (rec : giroref10_Is_L0T) (s3 : Int) (s4 : Int) (b0_0 : List K4q) (b0_1 : List (List Int)) (b0_2 : List Int) (b0_3 : List (List Int)) : Option (Unit ⊕ Bool) :=
 bif decide (s4 < s3) then (bif boundOk s4 b0_0.length then ((giroref9_Is k (b0_0.getD s4.toNat (0, 0, 0)).1 (b0_0.getD s4.toNat (0, 0, 0)).2.1 (b0_0.getD s4.toNat (0, 0, 0)).2.2).bind fun x2 =>
   bif !x2 then some (.inr false)
   else bif boundOk s4 b0_2.length then ((giroref10_limit k (b0_2.getD s4.toNat 0)).bind fun x3 =>
    bif !x3 then some (.inr false)
    else (giroref10_Is_L1 k k s3 s4 0 b0_0 b0_1 b0_2 b0_3).bind fun z =>
    match z with
    | .inl z1 => rec z1.1 (w64 (z1.2.1 + 1)) z1.2.2.1 z1.2.2.2.1 z1.2.2.2.2.1 z1.2.2.2.2.2
    | .inr z2 => some (.inr z2))
   else none)
  else none)
 else some (.inl ())
def giroref10_Is_L0 (k : Nat) : Nat → giroref10_Is_L0T
 | 0, _, _, _, _, _, _ => none
 | n + 1, s3, s4, b0_0, b0_1, b0_2, b0_3 => giroref10_Is_L0b k (giroref10_Is_L0 k n) s3 s4 b0_0 b0_1 b0_2 b0_3
/-- giro/giroref10.Is -/
def giroref10_Is (k : Nat) (a0Accts : List K4q) (a0Bil : List (List Int)) (a0Mul : List Int) (a0Pos : List (List Int)) : Option Bool :=
 bif decide ((a0Accts.length : Int) < 1) then some false
 else bif decide ((a0Accts.length : Int) > 6) then some false
 else (giroref10_square k a0Bil (a0Accts.length : Int)).bind fun x0 =>
 bif !x0 then some false
 else (giroref10_square k a0Pos (a0Accts.length : Int)).bind fun x1 =>
 bif !x1 then some false
 else bif !(decide ((a0Mul.length : Int) = (a0Accts.length : Int))) then some false
 else (giroref10_Is_L0 k k (a0Accts.length : Int) 0 a0Accts a0Bil a0Mul a0Pos).bind fun z3 =>
 match z3 with
 | .inl z4 => some true
 | .inr z5 => some z5

abbrev giroref16_Post_L1X : Type := (List K3q) × Int × (List K4q) × (List (List Int)) × (List Int) × (List (List Int)) × (List K4q) × (List (List Int)) × (List Int) × (List (List Int))
abbrev giroref16_Post_L1T : Type := List K3q → Int → Int → List K4q → List (List Int) → List Int → List (List Int) → List K4q → List (List Int) → List Int → List (List Int) → Option giroref16_Post_L1X
def giroref16_Post_L1b (k : Nat) (rec : giroref16_Post_L1T) (s1 : List K3q) (s7 : Int) (s8 : Int) (b0_0 : List K4q) (b0_1 : List (List Int)) (b0_2 : List Int) (b0_3 : List (List Int)) (r3 : List K4q) (m4 : List (List Int)) (r5 : List Int) (m6 : List (List Int)) : Option giroref16_Post_L1X :=
 bif decide (s8 < (r3.length : Int)) then ((giroref15_Sent k s1 s7 s8).bind fun x4 =>
  bif boundOk s7 r3.length then (bif boundOk s7 r3.length then (let y1 : List K4q := (r3.set s7.toNat ((w64 ((r3.getD s7.toNat (0, 0, 0)).1 - x4)), (r3.getD s7.toNat (0, 0, 0)).2))
    bif boundOk s7 m6.length then (bif boundOk s7 m6.length then (bif boundOk s8 (m6.getD s7.toNat []).length then (bif boundOk s8 (m6.getD s7.toNat []).length then (let y2 : List (List Int) := (m6.set s7.toNat ((m6.getD s7.toNat []).set s8.toNat (w64 (((m6.getD s7.toNat []).getD s8.toNat 0) + x4))))
        rec s1 s7 (w64 (s8 + 1)) b0_0 b0_1 b0_2 b0_3 y1 m4 r5 y2)
       else none)
      else none)
     else none)
    else none)
   else none)
  else none)
 else some (s1, s7, b0_0, b0_1, b0_2, b0_3, r3, m4, r5, m6)
def giroref16_Post_L1 (k : Nat) : Nat → giroref16_Post_L1T
 | 0, _, _, _, _, _, _, _, _, _, _, _ => none
 | n + 1, s1, s7, s8, b0_0, b0_1, b0_2, b0_3, r3, m4, r5, m6 => giroref16_Post_L1b k (giroref16_Post_L1 k n) s1 s7 s8 b0_0 b0_1 b0_2 b0_3 r3 m4 r5 m6
abbrev giroref16_Post_L0X : Type := (List K4q) × (List (List Int)) × (List Int) × (List (List Int)) × (List K4q) × (List (List Int)) × (List Int) × (List (List Int))
abbrev giroref16_Post_L0T : Type := List K3q → Int → List K4q → List (List Int) → List Int → List (List Int) → List K4q → List (List Int) → List Int → List (List Int) → Option giroref16_Post_L0X
def giroref16_Post_L0b (k : Nat) (rec : giroref16_Post_L0T) (s1 : List K3q) (s7 : Int) (b0_0 : List K4q) (b0_1 : List (List Int)) (b0_2 : List Int) (b0_3 : List (List Int)) (r3 : List K4q) (m4 : List (List Int)) (r5 : List Int) (m6 : List (List Int)) : Option giroref16_Post_L0X :=
 bif decide (s7 < (r3.length : Int)) then (bif boundOk s7 r3.length then ((giroref15_Spent k s1 s7).bind fun x2 =>
   (giroref9_Kept k (r3.getD s7.toNat (0, 0, 0)).1 (r3.getD s7.toNat (0, 0, 0)).2.1 (r3.getD s7.toNat (0, 0, 0)).2.2 x2).bind fun x3 =>
   bif boundOk s7 r3.length then (let y0 : List K4q := (r3.set s7.toNat ((r3.getD s7.toNat (0, 0, 0)).1, (r3.getD s7.toNat (0, 0, 0)).2.1, x3))
    (giroref16_Post_L1 k k s1 s7 0 b0_0 b0_1 b0_2 b0_3 y0 m4 r5 m6).bind fun z =>
    rec z.1 (w64 (z.2.1 + 1)) z.2.2.1 z.2.2.2.1 z.2.2.2.2.1 z.2.2.2.2.2.1 z.2.2.2.2.2.2.1 z.2.2.2.2.2.2.2.1 z.2.2.2.2.2.2.2.2.1 z.2.2.2.2.2.2.2.2.2)
   else none)
  else none)
 else some (b0_0, b0_1, b0_2, b0_3, r3, m4, r5, m6)
def giroref16_Post_L0 (k : Nat) : Nat → giroref16_Post_L0T
 | 0, _, _, _, _, _, _, _, _, _, _ => none
 | n + 1, s1, s7, b0_0, b0_1, b0_2, b0_3, r3, m4, r5, m6 => giroref16_Post_L0b k (giroref16_Post_L0 k n) s1 s7 b0_0 b0_1 b0_2 b0_3 r3 m4 r5 m6
/-- giro/giroref16.Post -/
def giroref16_Post (k : Nat) (a0Accts : List K4q) (a0Bil : List (List Int)) (a0Mul : List Int) (a0Pos : List (List Int)) (a1 : List K3q) : Option ((List K4q) × (List (List Int)) × (List Int) × (List (List Int)) × Int) :=
 (giroref15_All k a0Accts a0Bil a0Mul a0Pos a1).bind fun x0 =>
 bif !x0 then some (a0Accts, a0Bil, a0Mul, a0Pos, 1)
 else (giroref10_Copy k a0Accts a0Bil a0Mul a0Pos).bind fun x1 =>
 (giroref16_Post_L0 k k a1 0 a0Accts a0Bil a0Mul a0Pos x1.1 x1.2.1 x1.2.2.1 x1.2.2.2).bind fun z1 =>
 (giroref10_Is k z1.2.2.2.2.1 z1.2.2.2.2.2.1 z1.2.2.2.2.2.2.1 z1.2.2.2.2.2.2.2).bind fun x5 =>
 bif !x5 then some (z1.1, z1.2.1, z1.2.2.1, z1.2.2.2.1, 8)
 else some (z1.2.2.2.2.1, z1.2.2.2.2.2.1, z1.2.2.2.2.2.2.1, z1.2.2.2.2.2.2.2, 0)

abbrev giroref10_Net_L0T : Type := Int → Int → Int → List K4q → List (List Int) → List Int → List (List Int) → Option Int
def giroref10_Net_L0b (k : Nat) (rec : giroref10_Net_L0T) (s1 : Int) (s5 : Int) (s6 : Int) (b0_0 : List K4q) (b0_1 : List (List Int)) (b0_2 : List Int) (b0_3 : List (List Int)) : Option Int :=
 bif boundOk s1 b0_3.length then (bif decide (s6 < ((b0_3.getD s1.toNat []).length : Int)) then (bif boundOk s1 b0_3.length then (bif boundOk s6 (b0_3.getD s1.toNat []).length then (rec s1 (w64 (s5 + ((b0_3.getD s1.toNat []).getD s6.toNat 0))) (w64 (s6 + 1)) b0_0 b0_1 b0_2 b0_3)
    else none)
   else none)
  else some s5)
 else none
def giroref10_Net_L0 (k : Nat) : Nat → giroref10_Net_L0T
 | 0, _, _, _, _, _, _, _ => none
 | n + 1, s1, s5, s6, b0_0, b0_1, b0_2, b0_3 => giroref10_Net_L0b k (giroref10_Net_L0 k n) s1 s5 s6 b0_0 b0_1 b0_2 b0_3
/-- giro/giroref10.Net -/
def giroref10_Net (k : Nat) (a0Accts : List K4q) (a0Bil : List (List Int)) (a0Mul : List Int) (a0Pos : List (List Int)) (a1 : Int) : Option Int :=
 (giroref10_Net_L0 k k a1 0 0 a0Accts a0Bil a0Mul a0Pos).bind fun z =>
 some z

abbrev giroref15_short_L0X : Type := (Int × Int × Int × Int × Int × (List K4q) × (List (List Int)) × (List Int) × (List (List Int))) ⊕ Bool
abbrev giroref15_short_L0T : Type := List K3q → Int → Int → Int → Int → Int → Int → List K4q → List (List Int) → List Int → List (List Int) → Option giroref15_short_L0X
def giroref15_short_L0b (k : Nat) (rec : giroref15_short_L0T) (s1 : List K3q) (s2 : Int) (s7 : Int) (s8 : Int) (s9 : Int) (s10 : Int) (s11 : Int) (b0_0 : List K4q) (b0_1 : List (List Int)) (b0_2 : List Int) (b0_3 : List (List Int)) : Option giroref15_short_L0X :=
 bif decide (s11 < (b0_0.length : Int)) then ((giroref15_sent k s1 s2 s11).bind fun x2 =>
  (giroref15_sent k s1 s11 s2).bind fun x3 =>
  (giroref15_sent k s1 s2 s11).bind fun x4 =>
  bif decide (x4 > 0) then (bif boundOk s2 b0_1.length then (bif boundOk s11 (b0_1.getD s2.toNat []).length then (bif !(decide (((b0_1.getD s2.toNat []).getD s11.toNat 0) = (-1))) then (bif boundOk s2 b0_3.length then (bif boundOk s11 (b0_3.getD s2.toNat []).length then (bif boundOk s2 b0_1.length then (bif boundOk s11 (b0_1.getD s2.toNat []).length then (bif decide ((w64 (((b0_3.getD s2.toNat []).getD s11.toNat 0) + (w64 (x2 - x3)))) > ((b0_1.getD s2.toNat []).getD s11.toNat 0)) then some (.inr true)
          else rec s1 s2 s7 s8 (w64 (s9 - (w64 (x2 - x3)))) (w64 (s10 + (w64 (x2 - x3)))) (w64 (s11 + 1)) b0_0 b0_1 b0_2 b0_3)
         else none)
        else none)
       else none)
      else none)
     else rec s1 s2 s7 s8 (w64 (s9 - (w64 (x2 - x3)))) (w64 (s10 + (w64 (x2 - x3)))) (w64 (s11 + 1)) b0_0 b0_1 b0_2 b0_3)
    else none)
   else none)
  else rec s1 s2 s7 s8 (w64 (s9 - (w64 (x2 - x3)))) (w64 (s10 + (w64 (x2 - x3)))) (w64 (s11 + 1)) b0_0 b0_1 b0_2 b0_3)
 else some (.inl (s2, s7, s8, s9, s10, b0_0, b0_1, b0_2, b0_3))
def giroref15_short_L0 (k : Nat) : Nat → giroref15_short_L0T
 | 0, _, _, _, _, _, _, _, _, _, _, _ => none
 | n + 1, s1, s2, s7, s8, s9, s10, s11, b0_0, b0_1, b0_2, b0_3 => giroref15_short_L0b k (giroref15_short_L0 k n) s1 s2 s7 s8 s9 s10 s11 b0_0 b0_1 b0_2 b0_3
/-- giro/giroref15.short -/
def giroref15_short (k : Nat) (a0Accts : List K4q) (a0Bil : List (List Int)) (a0Mul : List Int) (a0Pos : List (List Int)) (a1 : List K3q) (a2 : Int) : Option Bool :=
 (giroref15_classed k a1 a2).bind fun x0 =>
 bif decide ((w64 (x0.1 + x0.2)) = 0) then some false
 else bif boundOk a2 a0Accts.length then (bif boundOk a2 a0Accts.length then ((giroref10_Net k a0Accts a0Bil a0Mul a0Pos a2).bind fun x1 =>
   (giroref15_short_L0 k k a1 a2 x0.1 x0.2 (w64 ((a0Accts.getD a2.toNat (0, 0, 0)).1 + (a0Accts.getD a2.toNat (0, 0, 0)).2.1)) x1 0 a0Accts a0Bil a0Mul a0Pos).bind fun z =>
   match z with
   | .inl z1 => bif decide (z1.2.2.2.1 < 0) then some true
    else bif decide (z1.2.1 > 0) then (bif boundOk z1.1 z1.2.2.2.2.2.1.length then ((giroref9_Kept k (z1.2.2.2.2.2.1.getD z1.1.toNat (0, 0, 0)).1 (z1.2.2.2.2.2.1.getD z1.1.toNat (0, 0, 0)).2.1 (z1.2.2.2.2.2.1.getD z1.1.toNat (0, 0, 0)).2.2 z1.2.2.1).bind fun x5 =>
      bif decide (z1.2.2.2.1 < x5) then some true
      else bif boundOk z1.1 z1.2.2.2.2.2.2.2.1.length then (bif !(decide ((z1.2.2.2.2.2.2.2.1.getD z1.1.toNat 0) = (-1))) then (bif boundOk z1.1 z1.2.2.2.2.2.2.2.1.length then some (decide (z1.2.2.2.2.1 > (z1.2.2.2.2.2.2.2.1.getD z1.1.toNat 0)))
        else none)
       else some false)
      else none)
     else none)
    else bif boundOk z1.1 z1.2.2.2.2.2.2.2.1.length then (bif !(decide ((z1.2.2.2.2.2.2.2.1.getD z1.1.toNat 0) = (-1))) then (bif boundOk z1.1 z1.2.2.2.2.2.2.2.1.length then some (decide (z1.2.2.2.2.1 > (z1.2.2.2.2.2.2.2.1.getD z1.1.toNat 0)))
      else none)
     else some false)
    else none
   | .inr z2 => some z2)
  else none)
 else none

abbrev giroref15_Short_L0T : Type := List K3q → Int → List K4q → List (List Int) → List Int → List (List Int) → List Int → Option (List Int)
def giroref15_Short_L0b (k : Nat) (rec : giroref15_Short_L0T) (s1 : List K3q) (s6 : Int) (b0_0 : List K4q) (b0_1 : List (List Int)) (b0_2 : List Int) (b0_3 : List (List Int)) (r1 : List Int) : Option (List Int) :=
 bif decide (s6 < (b0_0.length : Int)) then ((giroref15_short k b0_0 b0_1 b0_2 b0_3 s1 s6).bind fun x0 =>
  bif x0 then (bif roomB (r1.length + 1) 8 then (rec s1 (w64 (s6 + 1)) b0_0 b0_1 b0_2 b0_3 (r1 ++ [s6]))
   else none)
  else rec s1 (w64 (s6 + 1)) b0_0 b0_1 b0_2 b0_3 r1)
 else some r1
def giroref15_Short_L0 (k : Nat) : Nat → giroref15_Short_L0T
 | 0, _, _, _, _, _, _, _ => none
 | n + 1, s1, s6, b0_0, b0_1, b0_2, b0_3, r1 => giroref15_Short_L0b k (giroref15_Short_L0 k n) s1 s6 b0_0 b0_1 b0_2 b0_3 r1
/-- giro/giroref15.Short -/
def giroref15_Short (k : Nat) (a0Accts : List K4q) (a0Bil : List (List Int)) (a0Mul : List Int) (a0Pos : List (List Int)) (a1 : List K3q) : Option (List Int) :=
 (giroref15_Short_L0 k k a1 0 a0Accts a0Bil a0Mul a0Pos []).bind fun z =>
 some z

/-- giro/giroref15.Fits -/
def giroref15_Fits (k : Nat) (a0Accts : List K4q) (a0Bil : List (List Int)) (a0Mul : List Int) (a0Pos : List (List Int)) (a1 : List K3q) : Option Bool :=
 (giroref15_All k a0Accts a0Bil a0Mul a0Pos a1).bind fun x0 =>
 bif x0 then ((giroref15_Short k a0Accts a0Bil a0Mul a0Pos a1).bind fun x1 =>
  some (decide ((x1.length : Int) = 0)))
 else some false

/-- giro/giroref18.Goes -/
def giroref18_Goes (k : Nat) (a0Accts : List K4q) (a0Bil : List (List Int)) (a0Mul : List Int) (a0Pos : List (List Int)) (a1 : List K3q) : Option ((List K4q) × (List (List Int)) × (List Int) × (List (List Int)) × Bool) :=
 (giroref16_Post k a0Accts a0Bil a0Mul a0Pos a1).bind fun x0 =>
 bif decide (x0.2.2.2.2 = 0) then ((giroref15_Fits k a0Accts a0Bil a0Mul a0Pos a1).bind fun x1 =>
  some (x0.1, x0.2.1, x0.2.2.1, x0.2.2.2.1, x1))
 else some (x0.1, x0.2.1, x0.2.2.1, x0.2.2.2.1, false)

abbrev giroref18_Next_L0X : Type := K3q ⊕ (Bool × Int × Int × Int × Int × Int × Int × Int)
abbrev giroref18_Next_L0T : Type := Int → List K4q → List (List Int) → List Int → List (List Int) → Int → Int → Int → Int → Int → Int → Int → List K3q → Option giroref18_Next_L0X
def giroref18_Next_L0b (k : Nat) (rec : giroref18_Next_L0T) (s9 : Int) (b0_0 : List K4q) (b0_1 : List (List Int)) (b0_2 : List Int) (b0_3 : List (List Int)) (b1_0 : Int) (b1_1 : Int) (b1_2 : Int) (b1_3 : Int) (b1_4 : Int) (b1_5 : Int) (b1_6 : Int) (r2 : List K3q) : Option giroref18_Next_L0X :=
 bif decide (s9 < (r2.length : Int)) then (bif ((decide (0 ≤ s9)) && (decide (s9 ≤ (w64 (s9 + 1))))) && (decide ((w64 (s9 + 1)) ≤ (r2.length : Int))) then ((giroref18_Goes k b0_0 b0_1 b0_2 b0_3 (slc r2 (0 + s9.toNat) ((w64 (s9 + 1)).toNat - s9.toNat))).bind fun x1 =>
   bif x1.2.2.2.2 then (bif boundOk s9 r2.length then some (.inr (true, (r2.getD s9.toNat (0, 0, 0, 0, 0, 0, 0)).1, (r2.getD s9.toNat (0, 0, 0, 0, 0, 0, 0)).2.1, (r2.getD s9.toNat (0, 0, 0, 0, 0, 0, 0)).2.2.1, (r2.getD s9.toNat (0, 0, 0, 0, 0, 0, 0)).2.2.2.1, (r2.getD s9.toNat (0, 0, 0, 0, 0, 0, 0)).2.2.2.2.1, (r2.getD s9.toNat (0, 0, 0, 0, 0, 0, 0)).2.2.2.2.2.1, (r2.getD s9.toNat (0, 0, 0, 0, 0, 0, 0)).2.2.2.2.2.2))
    else none)
   else rec (w64 (s9 + 1)) b0_0 b0_1 b0_2 b0_3 b1_0 b1_1 b1_2 b1_3 b1_4 b1_5 b1_6 r2)
  else none)
 else some (.inl (b1_0, b1_1, b1_2, b1_3, b1_4, b1_5, b1_6))
def giroref18_Next_L0 (k : Nat) : Nat → giroref18_Next_L0T
 | 0, _, _, _, _, _, _, _, _, _, _, _, _, _ => none
 | n + 1, s9, b0_0, b0_1, b0_2, b0_3, b1_0, b1_1, b1_2, b1_3, b1_4, b1_5, b1_6, r2 => giroref18_Next_L0b k (giroref18_Next_L0 k n) s9 b0_0 b0_1 b0_2 b0_3 b1_0 b1_1 b1_2 b1_3 b1_4 b1_5 b1_6 r2
/-- giro/giroref18.Next -/
def giroref18_Next (k : Nat) (a0Accts : List K4q) (a0Bil : List (List Int)) (a0Mul : List Int) (a0Pos : List (List Int)) (a1 : List K3q) (a2 : Int) : Option (Int × Int × Int × Int × Int × Int × Int × Bool) :=
 (giroref14_May k a1 a2).bind fun x0 =>
 (giroref18_Next_L0 k k 0 a0Accts a0Bil a0Mul a0Pos 0 0 0 0 0 0 0 x0).bind fun z =>
 match z with
 | .inl z1 => some (0, 0, 0, 0, 0, 0, 0, false)
 | .inr z2 => some (z2.2.1, z2.2.2.1, z2.2.2.2.1, z2.2.2.2.2.1, z2.2.2.2.2.2.1, z2.2.2.2.2.2.2.1, z2.2.2.2.2.2.2.2, z2.1)

/-- giro/giroref27.Stuck -/
def giroref27_Stuck (k : Nat) (a0Tick : Int) (a0BooksAccts : List K4q) (a0BooksBil : List (List Int)) (a0BooksMul : List Int) (a0BooksPos : List (List Int)) (a0Prices : List Int) (a0Holds : List (List Int)) (a0Pays : List K3q) (a0IDs : List Int) (a0Total : Int) (a0Over : Bool) : Option Bool :=
 (giroref18_Next k a0BooksAccts a0BooksBil a0BooksMul a0BooksPos a0Pays a0Tick).bind fun x0 =>
 some (!x0.2.2.2.2.2.2.2)

/-- giro/girolaw27.rules -/
def girolaw27_rules (k : Nat) (a0 : Int) : Option (Int × (List K5q) × Int × Int × Int) :=
 bif decide ((band .i64 a0 3) = 1) then some (4, [(100, 1000), (7, 0)], 12, 20, 100)
 else bif decide ((band .i64 a0 3) = 2) then some (3, [], 20, 20, 4)
 else bif decide ((band .i64 a0 3) = 3) then some (3, [(100, 1000), (7, 0)], 0, 6, 1)
 else some (3, [(100, 1000), (7, 0)], 12, 20, 4)

abbrev core_New_L0X : Type := Int × Int × (List K5q) × Int × Int × Int × Int × Int × Bool × Int × Int × Bool × (List K4q) × (List (List Int)) × (List Int) × (List (List Int)) × (List Int)
abbrev core_New_L0T : Type := Int → List K5q → Int → Int → Int → List K5q → Int → Int → Int → Int → Int → Bool → Int → Int → Bool → List K4q → List (List Int) → List Int → List (List Int) → List Int → Option core_New_L0X
def core_New_L0b (k : Nat) (rec : core_New_L0T) (s3 : Int) (s20 : List K5q) (s21 : Int) (s22 : Int) (b0_0 : Int) (b0_1 : List K5q) (b0_2 : Int) (b0_3 : Int) (b0_4 : Int) (b1_0 : Int) (b1_9 : Int) (b1_10 : Bool) (b2_0 : Int) (b2_9 : Int) (b2_10 : Bool) (r3 : List K4q) (m4 : List (List Int)) (r5 : List Int) (m6 : List (List Int)) (r7 : List Int) : Option core_New_L0X :=
 bif decide (s22 < s21) then (bif boundOk s22 s20.length then (bif roomB (r7.length + 1) 8 then (rec s3 s20 s21 (w64 (s22 + 1)) b0_0 b0_1 b0_2 b0_3 b0_4 b1_0 b1_9 b1_10 b2_0 b2_9 b2_10 r3 m4 r5 m6 (r7 ++ [(s20.getD s22.toNat (0, 0)).1]))
   else none)
  else none)
 else some (s3, b0_0, b0_1, b0_2, b0_3, b0_4, b1_0, b1_9, b1_10, b2_0, b2_9, b2_10, r3, m4, r5, m6, r7)
def core_New_L0 (k : Nat) : Nat → core_New_L0T
 | 0, _, _, _, _, _, _, _, _, _, _, _, _, _, _, _, _, _, _, _, _ => none
 | n + 1, s3, s20, s21, s22, b0_0, b0_1, b0_2, b0_3, b0_4, b1_0, b1_9, b1_10, b2_0, b2_9, b2_10, r3, m4, r5, m6, r7 => core_New_L0b k (core_New_L0 k n) s3 s20 s21 s22 b0_0 b0_1 b0_2 b0_3 b0_4 b1_0 b1_9 b1_10 b2_0 b2_9 b2_10 r3 m4 r5 m6 r7
abbrev core_New_L1X : Type := Int × Int × Bool × Int × Int × Bool × (List K4q) × (List (List Int)) × (List Int) × (List (List Int)) × (List Int) × (List (List Int))
abbrev core_New_L1T : Type := Int → Int → Int → List K5q → Int → Int → Int → Int → Int → Bool → Int → Int → Bool → List K4q → List (List Int) → List Int → List (List Int) → List Int → List (List Int) → Option core_New_L1X
def core_New_L1b (k : Nat) (rec : core_New_L1T) (s34 : Int) (s35 : Int) (b0_0 : Int) (b0_1 : List K5q) (b0_2 : Int) (b0_3 : Int) (b0_4 : Int) (b1_0 : Int) (b1_9 : Int) (b1_10 : Bool) (b2_0 : Int) (b2_9 : Int) (b2_10 : Bool) (r3 : List K4q) (m4 : List (List Int)) (r5 : List Int) (m6 : List (List Int)) (r7 : List Int) (m8 : List (List Int)) : Option core_New_L1X :=
 bif decide (s35 < s34) then (bif makeOk (b0_1.length : Int) (b0_1.length : Int) 8 then (bif roomB (m8.length + 1) 24 then (rec s34 (w64 (s35 + 1)) b0_0 b0_1 b0_2 b0_3 b0_4 b1_0 b1_9 b1_10 b2_0 b2_9 b2_10 r3 m4 r5 m6 r7 (m8 ++ [(List.replicate b0_1.length (0 : Int))]))
   else none)
  else none)
 else some (b1_0, b1_9, b1_10, b2_0, b2_9, b2_10, r3, m4, r5, m6, r7, m8)
def core_New_L1 (k : Nat) : Nat → core_New_L1T
 | 0, _, _, _, _, _, _, _, _, _, _, _, _, _, _, _, _, _, _, _ => none
 | n + 1, s34, s35, b0_0, b0_1, b0_2, b0_3, b0_4, b1_0, b1_9, b1_10, b2_0, b2_9, b2_10, r3, m4, r5, m6, r7, m8 => core_New_L1b k (core_New_L1 k n) s34 s35 b0_0 b0_1 b0_2 b0_3 b0_4 b1_0 b1_9 b1_10 b2_0 b2_9 b2_10 r3 m4 r5 m6 r7 m8
/-- giro/core.New -/
def core_New (k : Nat) (a0Parties : Int) (a0Assets : List K5q) (a0Cutoff : Int) (a0Close : Int) (a0Period : Int) : Option (Int × (List K4q) × (List (List Int)) × (List Int) × (List (List Int)) × (List Int) × (List (List Int)) × (List K3q) × (List Int) × Int × Bool) :=
 bif makeOk a0Parties a0Parties 24 then ((lim_Square k a0Parties (-1)).bind fun x0 =>
  (lim_Row k a0Parties (-1)).bind fun x1 =>
  (lim_Square k a0Parties 0).bind fun x2 =>
  (core_New_L0 k k a0Parties a0Assets (a0Assets.length : Int) 0 a0Parties a0Assets a0Cutoff a0Close a0Period 0 0 false 0 0 false (List.replicate a0Parties.toNat ((0, 0, 0) : Int × Int × Int)) x0 x1 x2 []).bind fun z =>
  (core_New_L1 k k z.1 0 z.2.1 z.2.2.1 z.2.2.2.1 z.2.2.2.2.1 z.2.2.2.2.2.1 z.2.2.2.2.2.2.1 z.2.2.2.2.2.2.2.1 z.2.2.2.2.2.2.2.2.1 z.2.2.2.2.2.2.2.2.2.1 z.2.2.2.2.2.2.2.2.2.2.1 z.2.2.2.2.2.2.2.2.2.2.2.1 z.2.2.2.2.2.2.2.2.2.2.2.2.1 z.2.2.2.2.2.2.2.2.2.2.2.2.2.1 z.2.2.2.2.2.2.2.2.2.2.2.2.2.2.1 z.2.2.2.2.2.2.2.2.2.2.2.2.2.2.2.1 z.2.2.2.2.2.2.2.2.2.2.2.2.2.2.2.2 []).bind fun z1 =>
  some (z1.2.2.2.1, z1.2.2.2.2.2.2.1, z1.2.2.2.2.2.2.2.1, z1.2.2.2.2.2.2.2.2.1, z1.2.2.2.2.2.2.2.2.2.1, z1.2.2.2.2.2.2.2.2.2.2.1, z1.2.2.2.2.2.2.2.2.2.2.2, [], [], z1.2.2.2.2.1, z1.2.2.2.2.2.1))
 else none

/-- giro/core.in -/
def core_in (k : Nat) (a0 : Int) (a1 : Int) (a2 : Int) : Option Bool :=
 bif decide (a0 ≥ a1) then some (decide (a0 ≤ a2))
 else some false

/-- giro/core.isHeld$1 -/
def core_isHeld_fn1 (k : Nat) (a0 : Int) : Option Bool :=
 (core_in k a0 0 1048576).bind fun x0 =>
 some (!x0)

abbrev slices_IndexFunc_int64__core_isHeld_fn1_L0T : Type := List Int → Int → Int → Option (Unit ⊕ Int)
def slices_IndexFunc_int64__core_isHeld_fn1_L0b (k : Nat) (rec : slices_IndexFunc_int64__core_isHeld_fn1_L0T) (s0 : List Int) (s7 : Int) (s8 : Int) : Option (Unit ⊕ Int) :=
 bif decide (s8 < s7) then (bif boundOk s8 s0.length then ((core_isHeld_fn1 k (s0.getD s8.toNat 0)).bind fun x0 =>
   bif x0 then some (.inr s8)
   else rec s0 s7 (w64 (s8 + 1)))
  else none)
 else some (.inl ())
def slices_IndexFunc_int64__core_isHeld_fn1_L0 (k : Nat) : Nat → slices_IndexFunc_int64__core_isHeld_fn1_L0T
 | 0, _, _, _ => none
 | n + 1, s0, s7, s8 => slices_IndexFunc_int64__core_isHeld_fn1_L0b k (slices_IndexFunc_int64__core_isHeld_fn1_L0 k n) s0 s7 s8
/-- slices.IndexFunc[[]int64,int64] -/
def slices_IndexFunc_int64__core_isHeld_fn1 (k : Nat) (a0 : List Int) : Option Int :=
 (slices_IndexFunc_int64__core_isHeld_fn1_L0 k k a0 (a0.length : Int) 0).bind fun z =>
 match z with
 | .inl z1 => some (-1)
 | .inr z2 => some z2

/-- slices.ContainsFunc[[]int64,int64] -/
def slices_ContainsFunc_int64__core_isHeld_fn1 (k : Nat) (a0 : List Int) : Option Bool :=
 (slices_IndexFunc_int64__core_isHeld_fn1 k a0).bind fun x0 =>
 some (decide (x0 ≥ 0))

/-- giro/cash.isCut -/
def cash_isCut (k : Nat) (a0 : Int) : Option Bool :=
 bif decide (a0 ≥ 0) then some (decide (a0 ≤ 10000))
 else some false

/-- math/bits.Mul64 -/
def math_bits_Mul64 (k : Nat) (a0 : Int) (a1 : Int) : Option K5q :=
 some ((IntKind.wrap .u64 ((IntKind.wrap .u64 ((IntKind.wrap .u64 ((shr .u64 a0 32) * (shr .u64 a1 32))) + (shr .u64 (IntKind.wrap .u64 ((IntKind.wrap .u64 ((shr .u64 a0 32) * (band .u64 a1 4294967295))) + (shr .u64 (IntKind.wrap .u64 ((band .u64 a0 4294967295) * (band .u64 a1 4294967295))) 32))) 32))) + (shr .u64 (IntKind.wrap .u64 ((band .u64 (IntKind.wrap .u64 ((IntKind.wrap .u64 ((shr .u64 a0 32) * (band .u64 a1 4294967295))) + (shr .u64 (IntKind.wrap .u64 ((band .u64 a0 4294967295) * (band .u64 a1 4294967295))) 32))) 4294967295) + (IntKind.wrap .u64 ((band .u64 a0 4294967295) * (shr .u64 a1 32))))) 32))), (IntKind.wrap .u64 (a0 * a1)))

/-- math/bits.Len64 -/
def math_bits_Len64 (k : Nat) (a0 : Int) : Option Int :=
 bif decide (a0 ≥ 4294967296) then (bif decide ((shr .u64 a0 32) ≥ 65536) then (bif decide ((shr .u64 (shr .u64 a0 32) 16) ≥ 256) then none
   else none)
  else bif decide ((shr .u64 a0 32) ≥ 256) then none
  else none)
 else bif decide (a0 ≥ 65536) then (bif decide ((shr .u64 a0 16) ≥ 256) then none
  else none)
 else bif decide (a0 ≥ 256) then none
 else none

/-- math/bits.LeadingZeros64 -/
def math_bits_LeadingZeros64 (k : Nat) (a0 : Int) : Option Int :=
 (math_bits_Len64 k a0).bind fun x0 =>
 some (w64 (64 - x0))

abbrev math_bits_Div64_L0X : Type := Int × Int × Int × Int × Int × Int × Int × Int
abbrev math_bits_Div64_L0T : Type := Int → Int → Int → Int → Int → Int → Int → Int → Int → Option math_bits_Div64_L0X
def math_bits_Div64_L0b (k : Nat) (rec : math_bits_Div64_L0T) (s2 : Int) (s8 : Int) (s9 : Int) (s10 : Int) (s11 : Int) (s13 : Int) (s14 : Int) (s15 : Int) (s16 : Int) : Option math_bits_Div64_L0X :=
 bif decide (s15 ≥ 4294967296) then (bif decide ((IntKind.wrap .u64 (s16 + s9)) ≥ 4294967296) then some (s2, s8, s9, s10, s11, s13, s14, (IntKind.wrap .u64 (s15 - 1)))
  else rec s2 s8 s9 s10 s11 s13 s14 (IntKind.wrap .u64 (s15 - 1)) (IntKind.wrap .u64 (s16 + s9)))
 else bif decide ((IntKind.wrap .u64 (s15 * s10)) > (IntKind.wrap .u64 ((IntKind.wrap .u64 (4294967296 * s16)) + s13))) then (bif decide ((IntKind.wrap .u64 (s16 + s9)) ≥ 4294967296) then some (s2, s8, s9, s10, s11, s13, s14, (IntKind.wrap .u64 (s15 - 1)))
  else rec s2 s8 s9 s10 s11 s13 s14 (IntKind.wrap .u64 (s15 - 1)) (IntKind.wrap .u64 (s16 + s9)))
 else some (s2, s8, s9, s10, s11, s13, s14, s15)
def math_bits_Div64_L0 (k : Nat) : Nat → math_bits_Div64_L0T
 | 0, _, _, _, _, _, _, _, _, _ => none
 | n + 1, s2, s8, s9, s10, s11, s13, s14, s15, s16 => math_bits_Div64_L0b k (math_bits_Div64_L0 k n) s2 s8 s9 s10 s11 s13 s14 s15 s16
abbrev math_bits_Div64_L1X : Type := Int × Int × Int × Int × Int × Int
abbrev math_bits_Div64_L1T : Type := Int → Int → Int → Int → Int → Int → Int → Int → Int → Option math_bits_Div64_L1X
def math_bits_Div64_L1b (k : Nat) (rec : math_bits_Div64_L1T) (s2 : Int) (s8 : Int) (s9 : Int) (s10 : Int) (s14 : Int) (s15 : Int) (s16 : Int) (s17 : Int) (s18 : Int) : Option math_bits_Div64_L1X :=
 bif decide (s18 ≥ 4294967296) then (bif decide ((IntKind.wrap .u64 (s16 + s9)) ≥ 4294967296) then some (s2, s8, s14, s15, s17, (IntKind.wrap .u64 (s18 - 1)))
  else rec s2 s8 s9 s10 s14 s15 (IntKind.wrap .u64 (s16 + s9)) s17 (IntKind.wrap .u64 (s18 - 1)))
 else bif decide ((IntKind.wrap .u64 (s18 * s10)) > (IntKind.wrap .u64 ((IntKind.wrap .u64 (4294967296 * s16)) + s14))) then (bif decide ((IntKind.wrap .u64 (s16 + s9)) ≥ 4294967296) then some (s2, s8, s14, s15, s17, (IntKind.wrap .u64 (s18 - 1)))
  else rec s2 s8 s9 s10 s14 s15 (IntKind.wrap .u64 (s16 + s9)) s17 (IntKind.wrap .u64 (s18 - 1)))
 else some (s2, s8, s14, s15, s17, s18)
def math_bits_Div64_L1 (k : Nat) : Nat → math_bits_Div64_L1T
 | 0, _, _, _, _, _, _, _, _, _ => none
 | n + 1, s2, s8, s9, s10, s14, s15, s16, s17, s18 => math_bits_Div64_L1b k (math_bits_Div64_L1 k n) s2 s8 s9 s10 s14 s15 s16 s17 s18
/-- math/bits.Div64 -/
def math_bits_Div64 (k : Nat) (a0 : Int) (a1 : Int) (a2 : Int) : Option K5q :=
 bif decide (a2 = 0) then none
 else bif decide (a2 ≤ a0) then none
 else bif decide (a0 = 0) then (bif !(decide (a2 = 0)) then (bif !(decide (a2 = 0)) then some ((IntKind.wrap .u64 (Int.tdiv a1 a2)), (Int.tmod a1 a2))
   else none)
  else none)
 else (math_bits_LeadingZeros64 k a2).bind fun x0 =>
 bif !(decide ((IntKind.wrap .u64 (x0)) < 0)) then (bif !(decide ((IntKind.wrap .u64 (x0)) < 0)) then (bif !(decide ((IntKind.wrap .u64 (64 - (IntKind.wrap .u64 (x0)))) < 0)) then (bif !(decide ((IntKind.wrap .u64 (x0)) < 0)) then (bif !(decide ((shr .u64 (shl .u64 a2 (IntKind.wrap .u64 (x0))) 32) = 0)) then ((math_bits_Div64_L0 k k (shl .u64 a2 (IntKind.wrap .u64 (x0))) (IntKind.wrap .u64 (x0)) (shr .u64 (shl .u64 a2 (IntKind.wrap .u64 (x0))) 32) (band .u64 (shl .u64 a2 (IntKind.wrap .u64 (x0))) 4294967295) (bor .u64 (shl .u64 a0 (IntKind.wrap .u64 (x0))) (shr .u64 a1 (IntKind.wrap .u64 (64 - (IntKind.wrap .u64 (x0)))))) (shr .u64 (shl .u64 a1 (IntKind.wrap .u64 (x0))) 32) (band .u64 (shl .u64 a1 (IntKind.wrap .u64 (x0))) 4294967295) (IntKind.wrap .u64 (Int.tdiv (bor .u64 (shl .u64 a0 (IntKind.wrap .u64 (x0))) (shr .u64 a1 (IntKind.wrap .u64 (64 - (IntKind.wrap .u64 (x0)))))) (shr .u64 (shl .u64 a2 (IntKind.wrap .u64 (x0))) 32))) (IntKind.wrap .u64 ((bor .u64 (shl .u64 a0 (IntKind.wrap .u64 (x0))) (shr .u64 a1 (IntKind.wrap .u64 (64 - (IntKind.wrap .u64 (x0)))))) - (IntKind.wrap .u64 ((IntKind.wrap .u64 (Int.tdiv (bor .u64 (shl .u64 a0 (IntKind.wrap .u64 (x0))) (shr .u64 a1 (IntKind.wrap .u64 (64 - (IntKind.wrap .u64 (x0)))))) (shr .u64 (shl .u64 a2 (IntKind.wrap .u64 (x0))) 32))) * (shr .u64 (shl .u64 a2 (IntKind.wrap .u64 (x0))) 32)))))).bind fun z =>
      bif !(decide (z.2.2.1 = 0)) then ((math_bits_Div64_L1 k k z.1 z.2.1 z.2.2.1 z.2.2.2.1 z.2.2.2.2.2.2.1 z.2.2.2.2.2.2.2 (IntKind.wrap .u64 ((IntKind.wrap .u64 ((IntKind.wrap .u64 ((IntKind.wrap .u64 (z.2.2.2.2.1 * 4294967296)) + z.2.2.2.2.2.1)) - (IntKind.wrap .u64 (z.2.2.2.2.2.2.2 * z.1)))) - (IntKind.wrap .u64 ((IntKind.wrap .u64 (Int.tdiv (IntKind.wrap .u64 ((IntKind.wrap .u64 ((IntKind.wrap .u64 (z.2.2.2.2.1 * 4294967296)) + z.2.2.2.2.2.1)) - (IntKind.wrap .u64 (z.2.2.2.2.2.2.2 * z.1)))) z.2.2.1)) * z.2.2.1)))) (IntKind.wrap .u64 ((IntKind.wrap .u64 ((IntKind.wrap .u64 (z.2.2.2.2.1 * 4294967296)) + z.2.2.2.2.2.1)) - (IntKind.wrap .u64 (z.2.2.2.2.2.2.2 * z.1)))) (IntKind.wrap .u64 (Int.tdiv (IntKind.wrap .u64 ((IntKind.wrap .u64 ((IntKind.wrap .u64 (z.2.2.2.2.1 * 4294967296)) + z.2.2.2.2.2.1)) - (IntKind.wrap .u64 (z.2.2.2.2.2.2.2 * z.1)))) z.2.2.1))).bind fun z1 =>
       bif !(decide (z1.2.1 < 0)) then some ((IntKind.wrap .u64 ((IntKind.wrap .u64 (z1.2.2.2.1 * 4294967296)) + z1.2.2.2.2.2)), (shr .u64 (IntKind.wrap .u64 ((IntKind.wrap .u64 ((IntKind.wrap .u64 (z1.2.2.2.2.1 * 4294967296)) + z1.2.2.1)) - (IntKind.wrap .u64 (z1.2.2.2.2.2 * z1.1)))) z1.2.1))
       else none)
      else none)
     else none)
    else none)
   else none)
  else none)
 else none



/-- giro/cash.Worth -/
def cash_Worth (k : Nat) (a0 : Int) (a1 : Int) (a2 : Int) : Option K1q :=
 bif decide (a0 < 0) then some (0, false)
 else bif decide (a1 < 0) then some (0, false)
 else (cash_isCut k a2).bind fun x0 =>
 bif !x0 then some (0, false)
 else (math_bits_Mul64 k (IntKind.wrap .u64 (a0)) (IntKind.wrap .u64 (a1))).bind fun x1 =>
 (math_bits_Div64 k (Int.tmod x1.1 10000) x1.2 10000).bind fun x2 =>
 (math_bits_Mul64 k x2.1 (IntKind.wrap .u64 ((w64 (10000 - a2))))).bind fun x3 =>
 (add64 k x3.2 (IntKind.wrap .u64 (Int.tdiv (IntKind.wrap .u64 (x2.2 * (IntKind.wrap .u64 ((w64 (10000 - a2)))))) 10000)) 0).bind fun x4 =>
 bif decide ((IntKind.wrap .u64 (Int.tdiv x1.1 10000)) > 0) then (bif decide ((IntKind.wrap .u64 ((w64 (10000 - a2)))) > 0) then some (0, false)
  else bif decide ((IntKind.wrap .u64 (x3.1 + x4.2)) > 0) then some (0, false)
  else bif decide (x4.1 > 9223372036854775807) then some (0, false)
  else some ((w64 (x4.1)), true))
 else bif decide ((IntKind.wrap .u64 (x3.1 + x4.2)) > 0) then some (0, false)
 else bif decide (x4.1 > 9223372036854775807) then some (0, false)
 else some ((w64 (x4.1)), true)

abbrev cash_Sum_L0T : Type := Int → Int → List Int → Int → Int → Option K5q
def cash_Sum_L0b (k : Nat) (rec : cash_Sum_L0T) (s4 : Int) (s5 : Int) (s9 : List Int) (s10 : Int) (s11 : Int) : Option K5q :=
 bif decide (s11 < s10) then (bif boundOk s11 s9.length then ((add64 k s5 (IntKind.wrap .u64 ((s9.getD s11.toNat 0))) 0).bind fun x0 =>
   rec (w64 (s4 + (w64 ((shr .i64 (s9.getD s11.toNat 0) 63) + (w64 (x0.2)))))) x0.1 s9 s10 (w64 (s11 + 1)))
  else none)
 else some (s4, s5)
def cash_Sum_L0 (k : Nat) : Nat → cash_Sum_L0T
 | 0, _, _, _, _, _ => none
 | n + 1, s4, s5, s9, s10, s11 => cash_Sum_L0b k (cash_Sum_L0 k n) s4 s5 s9 s10 s11
/-- giro/cash.Sum -/
def cash_Sum (k : Nat) (a0 : List Int) : Option K1q :=
 (cash_Sum_L0 k k 0 0 a0 (a0.length : Int) 0).bind fun z =>
 bif !(decide (z.1 = (shr .i64 (w64 (z.2)) 63))) then some (0, false)
 else some ((w64 (z.2)), true)

abbrev pool_Value_L0T : Type := List Int → List Int → List K5q → Int → Int → List Int → Option ((List Int) ⊕ K1q)
def pool_Value_L0b (k : Nat) (rec : pool_Value_L0T) (s1 : List Int) (s2 : List Int) (s25 : List K5q) (s26 : Int) (s27 : Int) (r0 : List Int) : Option ((List Int) ⊕ K1q) :=
 bif decide (s27 < s26) then (bif boundOk s27 s25.length then (bif boundOk s27 s1.length then (bif boundOk s27 s2.length then ((cash_Worth k (s1.getD s27.toNat 0) (s2.getD s27.toNat 0) (s25.getD s27.toNat (0, 0)).2).bind fun x0 =>
     bif !x0.2 then some (.inr (0, false))
     else bif roomB (r0.length + 1) 8 then (rec s1 s2 s25 s26 (w64 (s27 + 1)) (r0 ++ [x0.1]))
     else none)
    else none)
   else none)
  else none)
 else some (.inl r0)
def pool_Value_L0 (k : Nat) : Nat → pool_Value_L0T
 | 0, _, _, _, _, _, _ => none
 | n + 1, s1, s2, s25, s26, s27, r0 => pool_Value_L0b k (pool_Value_L0 k n) s1 s2 s25 s26 s27 r0
/-- giro/pool.Value -/
def pool_Value (k : Nat) (a0 : List K5q) (a1 : List Int) (a2 : List Int) : Option K1q :=
 bif !(decide ((a1.length : Int) = (a0.length : Int))) then some (0, false)
 else bif !(decide ((a2.length : Int) = (a0.length : Int))) then some (0, false)
 else (pool_Value_L0 k k a1 a2 a0 (a0.length : Int) 0 []).bind fun z =>
 match z with
 | .inl z1 => (cash_Sum k z1).bind fun x1 =>
  some (x1.1, x1.2)
 | .inr z2 => some (z2.1, z2.2)

/-- giro/core.isHeld$2 -/
def core_isHeld_fn2 (k : Nat) (a0 : Int) : Option Bool :=
 some (decide (a0 > 1099511627776))

abbrev slices_IndexFunc_int64__core_isHeld_fn2_L0T : Type := List Int → Int → Int → Option (Unit ⊕ Int)
def slices_IndexFunc_int64__core_isHeld_fn2_L0b (k : Nat) (rec : slices_IndexFunc_int64__core_isHeld_fn2_L0T) (s0 : List Int) (s7 : Int) (s8 : Int) : Option (Unit ⊕ Int) :=
 bif decide (s8 < s7) then (bif boundOk s8 s0.length then ((core_isHeld_fn2 k (s0.getD s8.toNat 0)).bind fun x0 =>
   bif x0 then some (.inr s8)
   else rec s0 s7 (w64 (s8 + 1)))
  else none)
 else some (.inl ())
def slices_IndexFunc_int64__core_isHeld_fn2_L0 (k : Nat) : Nat → slices_IndexFunc_int64__core_isHeld_fn2_L0T
 | 0, _, _, _ => none
 | n + 1, s0, s7, s8 => slices_IndexFunc_int64__core_isHeld_fn2_L0b k (slices_IndexFunc_int64__core_isHeld_fn2_L0 k n) s0 s7 s8
/-- slices.IndexFunc[[]int64,int64] -/
def slices_IndexFunc_int64__core_isHeld_fn2 (k : Nat) (a0 : List Int) : Option Int :=
 (slices_IndexFunc_int64__core_isHeld_fn2_L0 k k a0 (a0.length : Int) 0).bind fun z =>
 match z with
 | .inl z1 => some (-1)
 | .inr z2 => some z2

/-- slices.ContainsFunc[[]int64,int64] -/
def slices_ContainsFunc_int64__core_isHeld_fn2 (k : Nat) (a0 : List Int) : Option Bool :=
 (slices_IndexFunc_int64__core_isHeld_fn2 k a0).bind fun x0 =>
 some (decide (x0 ≥ 0))

abbrev core_isHeld_L0T : Type := List (List Int) → Int → Int → Int → List K5q → Int → Int → Int → Int → List K4q → List (List Int) → List Int → List (List Int) → List Int → List (List Int) → List K3q → List Int → Int → Bool → Option (Unit ⊕ Bool)
def core_isHeld_L0b (k : Nat) (rec : core_isHeld_L0T) (s28 : List (List Int)) (s29 : Int) (s30 : Int) (b0_0 : Int) (b0_1 : List K5q) (b0_2 : Int) (b0_3 : Int) (b0_4 : Int) (b1_0 : Int) (b1_1 : List K4q) (b1_2 : List (List Int)) (b1_3 : List Int) (b1_4 : List (List Int)) (b1_5 : List Int) (b1_6 : List (List Int)) (b1_7 : List K3q) (b1_8 : List Int) (b1_9 : Int) (b1_10 : Bool) : Option (Unit ⊕ Bool) :=
 bif decide (s30 < s29) then (bif boundOk s30 s28.length then ((pool_Value k b0_1 b1_5 (s28.getD s30.toNat [])).bind fun x1 =>
   bif !x1.2 then some (.inr false)
   else bif decide (x1.1 > 1152921504606846976) then some (.inr false)
   else bif boundOk s30 b1_1.length then (bif !(decide (x1.1 = (b1_1.getD s30.toNat (0, 0, 0)).2.1)) then some (.inr false)
    else (slices_ContainsFunc_int64__core_isHeld_fn2 k (s28.getD s30.toNat [])).bind fun x2 =>
    bif x2 then some (.inr false)
    else rec s28 s29 (w64 (s30 + 1)) b0_0 b0_1 b0_2 b0_3 b0_4 b1_0 b1_1 b1_2 b1_3 b1_4 b1_5 b1_6 b1_7 b1_8 b1_9 b1_10)
   else none)
  else none)
 else some (.inl ())
def core_isHeld_L0 (k : Nat) : Nat → core_isHeld_L0T
 | 0, _, _, _, _, _, _, _, _, _, _, _, _, _, _, _, _, _, _, _ => none
 | n + 1, s28, s29, s30, b0_0, b0_1, b0_2, b0_3, b0_4, b1_0, b1_1, b1_2, b1_3, b1_4, b1_5, b1_6, b1_7, b1_8, b1_9, b1_10 => core_isHeld_L0b k (core_isHeld_L0 k n) s28 s29 s30 b0_0 b0_1 b0_2 b0_3 b0_4 b1_0 b1_1 b1_2 b1_3 b1_4 b1_5 b1_6 b1_7 b1_8 b1_9 b1_10
/-- giro/core.isHeld -/
def core_isHeld (k : Nat) (a0Parties : Int) (a0Assets : List K5q) (a0Cutoff : Int) (a0Close : Int) (a0Period : Int) (a1Tick : Int) (a1BooksAccts : List K4q) (a1BooksBil : List (List Int)) (a1BooksMul : List Int) (a1BooksPos : List (List Int)) (a1Prices : List Int) (a1Holds : List (List Int)) (a1Pays : List K3q) (a1IDs : List Int) (a1Total : Int) (a1Over : Bool) : Option Bool :=
 bif !(decide ((a1Prices.length : Int) = (a0Assets.length : Int))) then some false
 else bif !(decide ((a1Holds.length : Int) = a0Parties)) then some false
 else (slices_ContainsFunc_int64__core_isHeld_fn1 k a1Prices).bind fun x0 =>
 bif x0 then some false
 else (core_isHeld_L0 k k a1Holds (a1Holds.length : Int) 0 a0Parties a0Assets a0Cutoff a0Close a0Period a1Tick a1BooksAccts a1BooksBil a1BooksMul a1BooksPos a1Prices a1Holds a1Pays a1IDs a1Total a1Over).bind fun z =>
 match z with
 | .inl z1 => some true
 | .inr z2 => some z2

/-- giro/row.Find$1 -/
def row_Find_fn1 (k : Nat) (a0ID : Int) (a0From : Int) (a0To : Int) (a0Amount : Int) (a0Class : Int) (a0Start : Int) (a0Till : Int) (a1 : Int) : Option Bool :=
 some (decide (a0ID = a1))

abbrev slices_IndexFunc_Pay__row_Find_fn1_L0T : Type := List K3q → Int → Int → Int → Option (Unit ⊕ Int)
def slices_IndexFunc_Pay__row_Find_fn1_L0b (k : Nat) (rec : slices_IndexFunc_Pay__row_Find_fn1_L0T) (s0 : List K3q) (s7 : Int) (s8 : Int) (b0_0 : Int) : Option (Unit ⊕ Int) :=
 bif decide (s8 < s7) then (bif boundOk s8 s0.length then ((row_Find_fn1 k (s0.getD s8.toNat (0, 0, 0, 0, 0, 0, 0)).1 (s0.getD s8.toNat (0, 0, 0, 0, 0, 0, 0)).2.1 (s0.getD s8.toNat (0, 0, 0, 0, 0, 0, 0)).2.2.1 (s0.getD s8.toNat (0, 0, 0, 0, 0, 0, 0)).2.2.2.1 (s0.getD s8.toNat (0, 0, 0, 0, 0, 0, 0)).2.2.2.2.1 (s0.getD s8.toNat (0, 0, 0, 0, 0, 0, 0)).2.2.2.2.2.1 (s0.getD s8.toNat (0, 0, 0, 0, 0, 0, 0)).2.2.2.2.2.2 b0_0).bind fun x0 =>
   bif x0 then some (.inr s8)
   else rec s0 s7 (w64 (s8 + 1)) b0_0)
  else none)
 else some (.inl ())
def slices_IndexFunc_Pay__row_Find_fn1_L0 (k : Nat) : Nat → slices_IndexFunc_Pay__row_Find_fn1_L0T
 | 0, _, _, _, _ => none
 | n + 1, s0, s7, s8, b0_0 => slices_IndexFunc_Pay__row_Find_fn1_L0b k (slices_IndexFunc_Pay__row_Find_fn1_L0 k n) s0 s7 s8 b0_0
/-- slices.IndexFunc[[]giro/api.Pay,giro/api.Pay] -/
def slices_IndexFunc_Pay__row_Find_fn1 (k : Nat) (a0 : List K3q) (a1_0 : Int) : Option Int :=
 (slices_IndexFunc_Pay__row_Find_fn1_L0 k k a0 (a0.length : Int) 0 a1_0).bind fun z =>
 match z with
 | .inl z1 => some (-1)
 | .inr z2 => some z2

/-- giro/row.Find -/
def row_Find (k : Nat) (a0 : List K3q) (a1 : Int) : Option Int :=
 (slices_IndexFunc_Pay__row_Find_fn1 k a0 a1).bind fun x0 =>
 some x0

/-- cmp.isNaN[int] -/
def cmp_isNaN_int (k : Nat) (a0 : Int) : Option Bool :=
 some (!(decide (a0 = a0)))

/-- cmp.Compare[int] -/
def cmp_Compare_int (k : Nat) (a0 : Int) (a1 : Int) : Option Int :=
 (cmp_isNaN_int k a0).bind fun x0 =>
 (cmp_isNaN_int k a1).bind fun x1 =>
 bif x0 then (bif x1 then some 0
  else some (-1))
 else bif x1 then some 1
 else bif decide (a0 < a1) then some (-1)
 else bif decide (a0 > a1) then some 1
 else some 0

abbrev cmp_Or_int_L0T : Type := Int → List Int → Int → Int → Option (Int ⊕ Int)
def cmp_Or_int_L0b (k : Nat) (rec : cmp_Or_int_L0T) (s3 : Int) (s6 : List Int) (s7 : Int) (s8 : Int) : Option (Int ⊕ Int) :=
 bif decide (s8 < s7) then (bif boundOk s8 s6.length then (bif !(decide ((s6.getD s8.toNat 0) = s3)) then some (.inr (s6.getD s8.toNat 0))
   else rec s3 s6 s7 (w64 (s8 + 1)))
  else none)
 else some (.inl s3)
def cmp_Or_int_L0 (k : Nat) : Nat → cmp_Or_int_L0T
 | 0, _, _, _, _ => none
 | n + 1, s3, s6, s7, s8 => cmp_Or_int_L0b k (cmp_Or_int_L0 k n) s3 s6 s7 s8
/-- cmp.Or[int] -/
def cmp_Or_int (k : Nat) (a0 : List Int) : Option Int :=
 (cmp_Or_int_L0 k k 0 a0 (a0.length : Int) 0).bind fun z =>
 match z with
 | .inl z1 => some z1
 | .inr z2 => some z2

/-- giro/row.order -/
def row_order (k : Nat) (a0ID : Int) (a0From : Int) (a0To : Int) (a0Amount : Int) (a0Class : Int) (a0Start : Int) (a0Till : Int) (a1ID : Int) (a1From : Int) (a1To : Int) (a1Amount : Int) (a1Class : Int) (a1Start : Int) (a1Till : Int) : Option Int :=
 (cmp_Compare_int k a0From a1From).bind fun x0 =>
 (cmp_Compare_int k a0Class a1Class).bind fun x1 =>
 (cmp_Or_int k [x0, x1]).bind fun x2 =>
 some x2

abbrev slices_IsSortedFunc_Pay__row_order_L0T : Type := List K3q → Int → Option (Unit ⊕ Bool)
def slices_IsSortedFunc_Pay__row_order_L0b (k : Nat) (rec : slices_IsSortedFunc_Pay__row_order_L0T) (s0 : List K3q) (s5 : Int) : Option (Unit ⊕ Bool) :=
 bif decide (s5 > 0) then (bif boundOk s5 s0.length then (bif boundOk (w64 (s5 - 1)) s0.length then ((row_order k (s0.getD s5.toNat (0, 0, 0, 0, 0, 0, 0)).1 (s0.getD s5.toNat (0, 0, 0, 0, 0, 0, 0)).2.1 (s0.getD s5.toNat (0, 0, 0, 0, 0, 0, 0)).2.2.1 (s0.getD s5.toNat (0, 0, 0, 0, 0, 0, 0)).2.2.2.1 (s0.getD s5.toNat (0, 0, 0, 0, 0, 0, 0)).2.2.2.2.1 (s0.getD s5.toNat (0, 0, 0, 0, 0, 0, 0)).2.2.2.2.2.1 (s0.getD s5.toNat (0, 0, 0, 0, 0, 0, 0)).2.2.2.2.2.2 (s0.getD (w64 (s5 - 1)).toNat (0, 0, 0, 0, 0, 0, 0)).1 (s0.getD (w64 (s5 - 1)).toNat (0, 0, 0, 0, 0, 0, 0)).2.1 (s0.getD (w64 (s5 - 1)).toNat (0, 0, 0, 0, 0, 0, 0)).2.2.1 (s0.getD (w64 (s5 - 1)).toNat (0, 0, 0, 0, 0, 0, 0)).2.2.2.1 (s0.getD (w64 (s5 - 1)).toNat (0, 0, 0, 0, 0, 0, 0)).2.2.2.2.1 (s0.getD (w64 (s5 - 1)).toNat (0, 0, 0, 0, 0, 0, 0)).2.2.2.2.2.1 (s0.getD (w64 (s5 - 1)).toNat (0, 0, 0, 0, 0, 0, 0)).2.2.2.2.2.2).bind fun x0 =>
    bif decide (x0 < 0) then some (.inr false)
    else rec s0 (w64 (s5 - 1)))
   else none)
  else none)
 else some (.inl ())
def slices_IsSortedFunc_Pay__row_order_L0 (k : Nat) : Nat → slices_IsSortedFunc_Pay__row_order_L0T
 | 0, _, _ => none
 | n + 1, s0, s5 => slices_IsSortedFunc_Pay__row_order_L0b k (slices_IsSortedFunc_Pay__row_order_L0 k n) s0 s5
/-- slices.IsSortedFunc[[]giro/api.Pay,giro/api.Pay] -/
def slices_IsSortedFunc_Pay__row_order (k : Nat) (a0 : List K3q) : Option Bool :=
 (slices_IsSortedFunc_Pay__row_order_L0 k k a0 (w64 ((a0.length : Int) - 1))).bind fun z =>
 match z with
 | .inl z1 => some true
 | .inr z2 => some z2

abbrev row_Is_L0X : Type := (List K3q) ⊕ Bool
abbrev row_Is_L0T : Type := List K3q → List K3q → Int → Int → Option row_Is_L0X
def row_Is_L0b (k : Nat) (rec : row_Is_L0T) (s0 : List K3q) (s5 : List K3q) (s6 : Int) (s7 : Int) : Option row_Is_L0X :=
 bif decide (s7 < s6) then (bif boundOk s7 s5.length then ((row_Find k s0 (s5.getD s7.toNat (0, 0, 0, 0, 0, 0, 0)).1).bind fun x0 =>
   bif !(decide (x0 = s7)) then some (.inr false)
   else rec s0 s5 s6 (w64 (s7 + 1)))
  else none)
 else some (.inl s0)
def row_Is_L0 (k : Nat) : Nat → row_Is_L0T
 | 0, _, _, _, _ => none
 | n + 1, s0, s5, s6, s7 => row_Is_L0b k (row_Is_L0 k n) s0 s5 s6 s7
/-- giro/row.Is -/
def row_Is (k : Nat) (a0 : List K3q) : Option Bool :=
 (row_Is_L0 k k a0 a0 (a0.length : Int) 0).bind fun z =>
 match z with
 | .inl z1 => bif decide ((z1.length : Int) ≤ 40) then ((slices_IsSortedFunc_Pay__row_order k z1).bind fun x1 =>
   some x1)
  else some false
 | .inr z2 => some z2

abbrev ids_Is_L0T : Type := List Int → Int → List Int → Int → Int → Option ((List Int) ⊕ Bool)
def ids_Is_L0b (k : Nat) (rec : ids_Is_L0T) (s0 : List Int) (s3 : Int) (s6 : List Int) (s7 : Int) (s8 : Int) : Option ((List Int) ⊕ Bool) :=
 bif decide (s8 < s7) then (bif boundOk s8 s6.length then (bif decide ((s6.getD s8.toNat 0) ≤ s3) then some (.inr false)
   else rec s0 (s6.getD s8.toNat 0) s6 s7 (w64 (s8 + 1)))
  else none)
 else some (.inl s0)
def ids_Is_L0 (k : Nat) : Nat → ids_Is_L0T
 | 0, _, _, _, _, _ => none
 | n + 1, s0, s3, s6, s7, s8 => ids_Is_L0b k (ids_Is_L0 k n) s0 s3 s6 s7 s8
/-- giro/ids.Is -/
def ids_Is (k : Nat) (a0 : List Int) : Option Bool :=
 (ids_Is_L0 k k a0 0 a0 (a0.length : Int) 0).bind fun z =>
 match z with
 | .inl z1 => some (decide ((z1.length : Int) ≤ 200))
 | .inr z2 => some z2

/-- cmp.isNaN[int64] -/
def cmp_isNaN_int64 (k : Nat) (a0 : Int) : Option Bool :=
 some (!(decide (a0 = a0)))

/-- cmp.Less[int64] -/
def cmp_Less_int64 (k : Nat) (a0 : Int) (a1 : Int) : Option Bool :=
 (cmp_isNaN_int64 k a0).bind fun x0 =>
 bif x0 then ((cmp_isNaN_int64 k a1).bind fun x1 =>
  bif !x1 then some true
  else some (decide (a0 < a1)))
 else some (decide (a0 < a1))

/-- slices.isNaN[int64] -/
def slices_isNaN_int64 (k : Nat) (a0 : Int) : Option Bool :=
 some (!(decide (a0 = a0)))

abbrev slices_BinarySearch_int64_L0X : Type := (List Int) × Int × Int × Int
abbrev slices_BinarySearch_int64_L0T : Type := List Int → Int → Int → Int → Int → Option slices_BinarySearch_int64_L0X
def slices_BinarySearch_int64_L0b (k : Nat) (rec : slices_BinarySearch_int64_L0T) (s0 : List Int) (s1 : Int) (s6 : Int) (s7 : Int) (s8 : Int) : Option slices_BinarySearch_int64_L0X :=
 bif decide (s7 < s8) then (bif boundOk (w64 ((shr .u64 (IntKind.wrap .u64 ((w64 (s7 + s8)))) 1))) s0.length then ((cmp_Less_int64 k (s0.getD (w64 ((shr .u64 (IntKind.wrap .u64 ((w64 (s7 + s8)))) 1))).toNat 0) s1).bind fun x0 =>
   bif x0 then (rec s0 s1 s6 (w64 ((w64 ((shr .u64 (IntKind.wrap .u64 ((w64 (s7 + s8)))) 1))) + 1)) s8)
   else rec s0 s1 s6 s7 (w64 ((shr .u64 (IntKind.wrap .u64 ((w64 (s7 + s8)))) 1))))
  else none)
 else some (s0, s1, s6, s7)
def slices_BinarySearch_int64_L0 (k : Nat) : Nat → slices_BinarySearch_int64_L0T
 | 0, _, _, _, _, _ => none
 | n + 1, s0, s1, s6, s7, s8 => slices_BinarySearch_int64_L0b k (slices_BinarySearch_int64_L0 k n) s0 s1 s6 s7 s8
/-- slices.BinarySearch[[]int64,int64] -/
def slices_BinarySearch_int64 (k : Nat) (a0 : List Int) (a1 : Int) : Option K1q :=
 (slices_BinarySearch_int64_L0 k k a0 a1 (a0.length : Int) 0 (a0.length : Int)).bind fun z =>
 bif decide (z.2.2.2 < z.2.2.1) then (bif boundOk z.2.2.2 z.1.length then (bif decide ((z.1.getD z.2.2.2.toNat 0) = z.2.1) then some (z.2.2.2, true)
   else bif boundOk z.2.2.2 z.1.length then ((slices_isNaN_int64 k (z.1.getD z.2.2.2.toNat 0)).bind fun x1 =>
    bif x1 then ((slices_isNaN_int64 k z.2.1).bind fun x2 =>
     some (z.2.2.2, x2))
    else some (z.2.2.2, false))
   else none)
  else none)
 else some (z.2.2.2, false)

/-- giro/ids.Has -/
def ids_Has (k : Nat) (a0 : List Int) (a1 : Int) : Option Bool :=
 (slices_BinarySearch_int64 k a0 a1).bind fun x0 =>
 some x0.2

/-- giro/core.isWaiting$1 -/
def core_isWaiting_fn1 (k : Nat) (a0ID : Int) (a0From : Int) (a0To : Int) (a0Amount : Int) (a0Class : Int) (a0Start : Int) (a0Till : Int) (a1Tick : Int) (a1BooksAccts : List K4q) (a1BooksBil : List (List Int)) (a1BooksMul : List Int) (a1BooksPos : List (List Int)) (a1Prices : List Int) (a1Holds : List (List Int)) (a1Pays : List K3q) (a1IDs : List Int) (a1Total : Int) (a1Over : Bool) : Option Bool :=
 (fits_May k a1BooksAccts a1BooksBil a1BooksMul a1BooksPos a0ID a0From a0To a0Amount a0Class a0Start a0Till).bind fun x0 =>
 bif !x0 then some true
 else bif decide (a0Start < 0) then some true
 else (core_in k a0Till a0Start 1048576).bind fun x1 =>
 bif !x1 then some true
 else (ids_Has k a1IDs a0ID).bind fun x2 =>
 some (!x2)

abbrev slices_IndexFunc_Pay__core_isWaiting_fn1_L0T : Type := List K3q → Int → Int → Int → List K4q → List (List Int) → List Int → List (List Int) → List Int → List (List Int) → List K3q → List Int → Int → Bool → Option (Unit ⊕ Int)
def slices_IndexFunc_Pay__core_isWaiting_fn1_L0b (k : Nat) (rec : slices_IndexFunc_Pay__core_isWaiting_fn1_L0T) (s0 : List K3q) (s7 : Int) (s8 : Int) (b0_0 : Int) (b0_1 : List K4q) (b0_2 : List (List Int)) (b0_3 : List Int) (b0_4 : List (List Int)) (b0_5 : List Int) (b0_6 : List (List Int)) (b0_7 : List K3q) (b0_8 : List Int) (b0_9 : Int) (b0_10 : Bool) : Option (Unit ⊕ Int) :=
 bif decide (s8 < s7) then (bif boundOk s8 s0.length then ((core_isWaiting_fn1 k (s0.getD s8.toNat (0, 0, 0, 0, 0, 0, 0)).1 (s0.getD s8.toNat (0, 0, 0, 0, 0, 0, 0)).2.1 (s0.getD s8.toNat (0, 0, 0, 0, 0, 0, 0)).2.2.1 (s0.getD s8.toNat (0, 0, 0, 0, 0, 0, 0)).2.2.2.1 (s0.getD s8.toNat (0, 0, 0, 0, 0, 0, 0)).2.2.2.2.1 (s0.getD s8.toNat (0, 0, 0, 0, 0, 0, 0)).2.2.2.2.2.1 (s0.getD s8.toNat (0, 0, 0, 0, 0, 0, 0)).2.2.2.2.2.2 b0_0 b0_1 b0_2 b0_3 b0_4 b0_5 b0_6 b0_7 b0_8 b0_9 b0_10).bind fun x0 =>
   bif x0 then some (.inr s8)
   else rec s0 s7 (w64 (s8 + 1)) b0_0 b0_1 b0_2 b0_3 b0_4 b0_5 b0_6 b0_7 b0_8 b0_9 b0_10)
  else none)
 else some (.inl ())
def slices_IndexFunc_Pay__core_isWaiting_fn1_L0 (k : Nat) : Nat → slices_IndexFunc_Pay__core_isWaiting_fn1_L0T
 | 0, _, _, _, _, _, _, _, _, _, _, _, _, _, _ => none
 | n + 1, s0, s7, s8, b0_0, b0_1, b0_2, b0_3, b0_4, b0_5, b0_6, b0_7, b0_8, b0_9, b0_10 => slices_IndexFunc_Pay__core_isWaiting_fn1_L0b k (slices_IndexFunc_Pay__core_isWaiting_fn1_L0 k n) s0 s7 s8 b0_0 b0_1 b0_2 b0_3 b0_4 b0_5 b0_6 b0_7 b0_8 b0_9 b0_10
/-- slices.IndexFunc[[]giro/api.Pay,giro/api.Pay] -/
def slices_IndexFunc_Pay__core_isWaiting_fn1 (k : Nat) (a0 : List K3q) (a1_0Tick : Int) (a1_0BooksAccts : List K4q) (a1_0BooksBil : List (List Int)) (a1_0BooksMul : List Int) (a1_0BooksPos : List (List Int)) (a1_0Prices : List Int) (a1_0Holds : List (List Int)) (a1_0Pays : List K3q) (a1_0IDs : List Int) (a1_0Total : Int) (a1_0Over : Bool) : Option Int :=
 (slices_IndexFunc_Pay__core_isWaiting_fn1_L0 k k a0 (a0.length : Int) 0 a1_0Tick a1_0BooksAccts a1_0BooksBil a1_0BooksMul a1_0BooksPos a1_0Prices a1_0Holds a1_0Pays a1_0IDs a1_0Total a1_0Over).bind fun z =>
 match z with
 | .inl z1 => some (-1)
 | .inr z2 => some z2

/-- slices.ContainsFunc[[]giro/api.Pay,giro/api.Pay] -/
def slices_ContainsFunc_Pay__core_isWaiting_fn1 (k : Nat) (a0 : List K3q) (a1_0Tick : Int) (a1_0BooksAccts : List K4q) (a1_0BooksBil : List (List Int)) (a1_0BooksMul : List Int) (a1_0BooksPos : List (List Int)) (a1_0Prices : List Int) (a1_0Holds : List (List Int)) (a1_0Pays : List K3q) (a1_0IDs : List Int) (a1_0Total : Int) (a1_0Over : Bool) : Option Bool :=
 (slices_IndexFunc_Pay__core_isWaiting_fn1 k a0 a1_0Tick a1_0BooksAccts a1_0BooksBil a1_0BooksMul a1_0BooksPos a1_0Prices a1_0Holds a1_0Pays a1_0IDs a1_0Total a1_0Over).bind fun x0 =>
 some (decide (x0 ≥ 0))

/-- giro/core.isWaiting -/
def core_isWaiting (k : Nat) (a0Tick : Int) (a0BooksAccts : List K4q) (a0BooksBil : List (List Int)) (a0BooksMul : List Int) (a0BooksPos : List (List Int)) (a0Prices : List Int) (a0Holds : List (List Int)) (a0Pays : List K3q) (a0IDs : List Int) (a0Total : Int) (a0Over : Bool) : Option Bool :=
 (row_Is k a0Pays).bind fun x0 =>
 bif x0 then ((ids_Is k a0IDs).bind fun x1 =>
  bif x1 then ((slices_ContainsFunc_Pay__core_isWaiting_fn1 k a0Pays a0Tick a0BooksAccts a0BooksBil a0BooksMul a0BooksPos a0Prices a0Holds a0Pays a0IDs a0Total a0Over).bind fun x2 =>
   some (!x2))
  else some false)
 else some false

/-- giro/day.Closes -/
def day_Closes (k : Nat) (a0Parties : Int) (a0Assets : List K5q) (a0Cutoff : Int) (a0Close : Int) (a0Period : Int) (a1 : Int) : Option Bool :=
 some (decide (a1 = a0Close))

abbrev core_Is_L0X : Type := Int × (List K5q) × Int × Int × Int × Int × (List K4q) × (List (List Int)) × (List Int) × (List (List Int)) × (List Int) × (List (List Int)) × (List K3q) × (List Int) × Int × Bool × (List Int)
abbrev core_Is_L0T : Type := List K4q → Int → Int → Int → List K5q → Int → Int → Int → Int → List K4q → List (List Int) → List Int → List (List Int) → List Int → List (List Int) → List K3q → List Int → Int → Bool → List Int → Option core_Is_L0X
def core_Is_L0b (k : Nat) (rec : core_Is_L0T) (s44 : List K4q) (s45 : Int) (s46 : Int) (b0_0 : Int) (b0_1 : List K5q) (b0_2 : Int) (b0_3 : Int) (b0_4 : Int) (b1_0 : Int) (b1_1 : List K4q) (b1_2 : List (List Int)) (b1_3 : List Int) (b1_4 : List (List Int)) (b1_5 : List Int) (b1_6 : List (List Int)) (b1_7 : List K3q) (b1_8 : List Int) (b1_9 : Int) (b1_10 : Bool) (r2 : List Int) : Option core_Is_L0X :=
 bif decide (s46 < s45) then (bif boundOk s46 s44.length then (bif roomB (r2.length + 1) 8 then (rec s44 s45 (w64 (s46 + 1)) b0_0 b0_1 b0_2 b0_3 b0_4 b1_0 b1_1 b1_2 b1_3 b1_4 b1_5 b1_6 b1_7 b1_8 b1_9 b1_10 (r2 ++ [(s44.getD s46.toNat (0, 0, 0)).1]))
   else none)
  else none)
 else some (b0_0, b0_1, b0_2, b0_3, b0_4, b1_0, b1_1, b1_2, b1_3, b1_4, b1_5, b1_6, b1_7, b1_8, b1_9, b1_10, r2)
def core_Is_L0 (k : Nat) : Nat → core_Is_L0T
 | 0, _, _, _, _, _, _, _, _, _, _, _, _, _, _, _, _, _, _, _, _ => none
 | n + 1, s44, s45, s46, b0_0, b0_1, b0_2, b0_3, b0_4, b1_0, b1_1, b1_2, b1_3, b1_4, b1_5, b1_6, b1_7, b1_8, b1_9, b1_10, r2 => core_Is_L0b k (core_Is_L0 k n) s44 s45 s46 b0_0 b0_1 b0_2 b0_3 b0_4 b1_0 b1_1 b1_2 b1_3 b1_4 b1_5 b1_6 b1_7 b1_8 b1_9 b1_10 r2
/-- giro/core.Is -/
def core_Is (k : Nat) (a0Parties : Int) (a0Assets : List K5q) (a0Cutoff : Int) (a0Close : Int) (a0Period : Int) (a1Tick : Int) (a1BooksAccts : List K4q) (a1BooksBil : List (List Int)) (a1BooksMul : List Int) (a1BooksPos : List (List Int)) (a1Prices : List Int) (a1Holds : List (List Int)) (a1Pays : List K3q) (a1IDs : List Int) (a1Total : Int) (a1Over : Bool) : Option Bool :=
 (core_in k a1Tick 0 a0Close).bind fun x0 =>
 bif !x0 then some false
 else (lim_Is k a1BooksAccts a1BooksBil a1BooksMul a1BooksPos).bind fun x1 =>
 bif !x1 then some false
 else bif !(decide ((a1BooksAccts.length : Int) = a0Parties)) then some false
 else (core_isHeld k a0Parties a0Assets a0Cutoff a0Close a0Period a1Tick a1BooksAccts a1BooksBil a1BooksMul a1BooksPos a1Prices a1Holds a1Pays a1IDs a1Total a1Over).bind fun x2 =>
 bif !x2 then some false
 else (core_isWaiting k a1Tick a1BooksAccts a1BooksBil a1BooksMul a1BooksPos a1Prices a1Holds a1Pays a1IDs a1Total a1Over).bind fun x3 =>
 bif !x3 then some false
 else (core_Is_L0 k k a1BooksAccts (a1BooksAccts.length : Int) 0 a0Parties a0Assets a0Cutoff a0Close a0Period a1Tick a1BooksAccts a1BooksBil a1BooksMul a1BooksPos a1Prices a1Holds a1Pays a1IDs a1Total a1Over []).bind fun z =>
 (cash_Sum k z.2.2.2.2.2.2.2.2.2.2.2.2.2.2.2.2).bind fun x4 =>
 bif !x4.2 then some false
 else bif !(decide (x4.1 = z.2.2.2.2.2.2.2.2.2.2.2.2.2.2.1)) then some false
 else (core_in k x4.1 0 1152921504606846976).bind fun x5 =>
 bif !x5 then some false
 else (day_Closes k z.1 z.2.1 z.2.2.1 z.2.2.2.1 z.2.2.2.2.1 z.2.2.2.2.2.1).bind fun x6 =>
 bif eqBool z.2.2.2.2.2.2.2.2.2.2.2.2.2.2.2.1 x6 then (bif !z.2.2.2.2.2.2.2.2.2.2.2.2.2.2.2.1 then some true
  else some (decide ((z.2.2.2.2.2.2.2.2.2.2.2.2.1.length : Int) = 0)))
 else some false

/-- giro/audit.Zero$1 -/
def audit_Zero_fn1 (k : Nat) (a0 : List Int) (a1Accts : List K4q) (a1Bil : List (List Int)) (a1Mul : List Int) (a1Pos : List (List Int)) : Option Bool :=
 some (!(decide ((a0.length : Int) = (a1Pos.length : Int))))

abbrev slices_IndexFunc_Rowint64__audit_Zero_fn1_L0T : Type := List (List Int) → Int → Int → List K4q → List (List Int) → List Int → List (List Int) → Option (Unit ⊕ Int)
def slices_IndexFunc_Rowint64__audit_Zero_fn1_L0b (k : Nat) (rec : slices_IndexFunc_Rowint64__audit_Zero_fn1_L0T) (s0 : List (List Int)) (s7 : Int) (s8 : Int) (b0_0 : List K4q) (b0_1 : List (List Int)) (b0_2 : List Int) (b0_3 : List (List Int)) : Option (Unit ⊕ Int) :=
 bif decide (s8 < s7) then (bif boundOk s8 s0.length then ((audit_Zero_fn1 k (s0.getD s8.toNat []) b0_0 b0_1 b0_2 b0_3).bind fun x0 =>
   bif x0 then some (.inr s8)
   else rec s0 s7 (w64 (s8 + 1)) b0_0 b0_1 b0_2 b0_3)
  else none)
 else some (.inl ())
def slices_IndexFunc_Rowint64__audit_Zero_fn1_L0 (k : Nat) : Nat → slices_IndexFunc_Rowint64__audit_Zero_fn1_L0T
 | 0, _, _, _, _, _, _, _ => none
 | n + 1, s0, s7, s8, b0_0, b0_1, b0_2, b0_3 => slices_IndexFunc_Rowint64__audit_Zero_fn1_L0b k (slices_IndexFunc_Rowint64__audit_Zero_fn1_L0 k n) s0 s7 s8 b0_0 b0_1 b0_2 b0_3
/-- slices.IndexFunc[[][]int64,[]int64] -/
def slices_IndexFunc_Rowint64__audit_Zero_fn1 (k : Nat) (a0 : List (List Int)) (a1_0Accts : List K4q) (a1_0Bil : List (List Int)) (a1_0Mul : List Int) (a1_0Pos : List (List Int)) : Option Int :=
 (slices_IndexFunc_Rowint64__audit_Zero_fn1_L0 k k a0 (a0.length : Int) 0 a1_0Accts a1_0Bil a1_0Mul a1_0Pos).bind fun z =>
 match z with
 | .inl z1 => some (-1)
 | .inr z2 => some z2

/-- slices.ContainsFunc[[][]int64,[]int64] -/
def slices_ContainsFunc_Rowint64__audit_Zero_fn1 (k : Nat) (a0 : List (List Int)) (a1_0Accts : List K4q) (a1_0Bil : List (List Int)) (a1_0Mul : List Int) (a1_0Pos : List (List Int)) : Option Bool :=
 (slices_IndexFunc_Rowint64__audit_Zero_fn1 k a0 a1_0Accts a1_0Bil a1_0Mul a1_0Pos).bind fun x0 =>
 some (decide (x0 ≥ 0))

abbrev audit_Zero_L1X : Type := ((List (List Int)) × Int × Int × (List K4q) × (List (List Int)) × (List Int) × (List (List Int)) × (List Int)) ⊕ Bool
abbrev audit_Zero_L1T : Type := Int → List (List Int) → Int → Int → List Int → Int → Int → List K4q → List (List Int) → List Int → List (List Int) → List Int → Option audit_Zero_L1X
def audit_Zero_L1b (k : Nat) (rec : audit_Zero_L1T) (s5 : Int) (s17 : List (List Int)) (s18 : Int) (s19 : Int) (s24 : List Int) (s25 : Int) (s26 : Int) (b0_0 : List K4q) (b0_1 : List (List Int)) (b0_2 : List Int) (b0_3 : List (List Int)) (r1 : List Int) : Option audit_Zero_L1X :=
 bif decide (s26 < s25) then (bif boundOk s26 s24.length then (bif boundOk s26 b0_3.length then (bif boundOk s5 (b0_3.getD s26.toNat []).length then (bif !(decide (((b0_3.getD s26.toNat []).getD s5.toNat 0) = (w64 (0 - (s24.getD s26.toNat 0))))) then some (.inr false)
     else bif roomB (r1.length + 1) 8 then (rec s5 s17 s18 s19 s24 s25 (w64 (s26 + 1)) b0_0 b0_1 b0_2 b0_3 (r1 ++ [(s24.getD s26.toNat 0)]))
     else none)
    else none)
   else none)
  else none)
 else some (.inl (s17, s18, s19, b0_0, b0_1, b0_2, b0_3, r1))
def audit_Zero_L1 (k : Nat) : Nat → audit_Zero_L1T
 | 0, _, _, _, _, _, _, _, _, _, _, _, _ => none
 | n + 1, s5, s17, s18, s19, s24, s25, s26, b0_0, b0_1, b0_2, b0_3, r1 => audit_Zero_L1b k (audit_Zero_L1 k n) s5 s17 s18 s19 s24 s25 s26 b0_0 b0_1 b0_2 b0_3 r1
abbrev audit_Zero_L0T : Type := List (List Int) → Int → Int → List K4q → List (List Int) → List Int → List (List Int) → List Int → Option ((List Int) ⊕ Bool)
def audit_Zero_L0b (k : Nat) (rec : audit_Zero_L0T) (s17 : List (List Int)) (s18 : Int) (s19 : Int) (b0_0 : List K4q) (b0_1 : List (List Int)) (b0_2 : List Int) (b0_3 : List (List Int)) (r1 : List Int) : Option ((List Int) ⊕ Bool) :=
 bif decide (s19 < s18) then (bif boundOk s19 s17.length then ((audit_Zero_L1 k k s19 s17 s18 s19 (s17.getD s19.toNat []) ((s17.getD s19.toNat []).length : Int) 0 b0_0 b0_1 b0_2 b0_3 r1).bind fun z =>
   match z with
   | .inl z1 => rec z1.1 z1.2.1 (w64 (z1.2.2.1 + 1)) z1.2.2.2.1 z1.2.2.2.2.1 z1.2.2.2.2.2.1 z1.2.2.2.2.2.2.1 z1.2.2.2.2.2.2.2
   | .inr z2 => some (.inr z2))
  else none)
 else some (.inl r1)
def audit_Zero_L0 (k : Nat) : Nat → audit_Zero_L0T
 | 0, _, _, _, _, _, _, _, _ => none
 | n + 1, s17, s18, s19, b0_0, b0_1, b0_2, b0_3, r1 => audit_Zero_L0b k (audit_Zero_L0 k n) s17 s18 s19 b0_0 b0_1 b0_2 b0_3 r1
/-- giro/audit.Zero -/
def audit_Zero (k : Nat) (a0Accts : List K4q) (a0Bil : List (List Int)) (a0Mul : List Int) (a0Pos : List (List Int)) : Option Bool :=
 (slices_ContainsFunc_Rowint64__audit_Zero_fn1 k a0Pos a0Accts a0Bil a0Mul a0Pos).bind fun x0 =>
 bif x0 then some false
 else (audit_Zero_L0 k k a0Pos (a0Pos.length : Int) 0 a0Accts a0Bil a0Mul a0Pos []).bind fun z3 =>
 match z3 with
 | .inl z4 => (cash_Sum k z4).bind fun x1 =>
  bif x1.2 then some (decide (x1.1 = 0))
  else some false
 | .inr z5 => some z5

/-- giro/audit.State -/
def audit_State (k : Nat) (a0Parties : Int) (a0Assets : List K5q) (a0Cutoff : Int) (a0Close : Int) (a0Period : Int) (a1Tick : Int) (a1BooksAccts : List K4q) (a1BooksBil : List (List Int)) (a1BooksMul : List Int) (a1BooksPos : List (List Int)) (a1Prices : List Int) (a1Holds : List (List Int)) (a1Pays : List K3q) (a1IDs : List Int) (a1Total : Int) (a1Over : Bool) : Option Bool :=
 (core_Is k a0Parties a0Assets a0Cutoff a0Close a0Period a1Tick a1BooksAccts a1BooksBil a1BooksMul a1BooksPos a1Prices a1Holds a1Pays a1IDs a1Total a1Over).bind fun x0 =>
 bif x0 then ((audit_Zero k a1BooksAccts a1BooksBil a1BooksMul a1BooksPos).bind fun x1 =>
  bif x1 then (bif a1Over then some true
   else (audit_Stuck k a1Tick a1BooksAccts a1BooksBil a1BooksMul a1BooksPos a1Prices a1Holds a1Pays a1IDs a1Total a1Over).bind fun x2 =>
   some x2)
  else some false)
 else some false

/-- giro/cash.Add -/
def cash_Add (k : Nat) (a0 : Int) (a1 : Int) : Option K1q :=
 bif decide (a1 > 0) then (bif decide (a0 > (w64 (9223372036854775807 - a1))) then some (0, false)
  else bif decide (a1 < 0) then (bif decide (a0 < (w64 ((-9223372036854775808) - a1))) then some (0, false)
   else some ((w64 (a0 + a1)), true))
  else some ((w64 (a0 + a1)), true))
 else bif decide (a1 < 0) then (bif decide (a0 < (w64 ((-9223372036854775808) - a1))) then some (0, false)
  else some ((w64 (a0 + a1)), true))
 else some ((w64 (a0 + a1)), true)

/-- giro/audit.isBelow -/
def audit_isBelow (k : Nat) (a0Balance : Int) (a0Credit : Int) (a0Reserve : Int) : Option Bool :=
 (cash_Add k a0Balance a0Credit).bind fun x0 =>
 bif !x0.2 then some (decide (a0Balance < 0))
 else some (decide (x0.1 < 0))

abbrev audit_Floors_L0T : Type := List K4q → Int → Int → List K4q → List (List Int) → List Int → List (List Int) → Option (Unit ⊕ Bool)
def audit_Floors_L0b (k : Nat) (rec : audit_Floors_L0T) (s15 : List K4q) (s16 : Int) (s17 : Int) (b0_0 : List K4q) (b0_1 : List (List Int)) (b0_2 : List Int) (b0_3 : List (List Int)) : Option (Unit ⊕ Bool) :=
 bif decide (s17 < s16) then (bif boundOk s17 s15.length then (bif boundOk s17 b0_0.length then (bif decide ((s15.getD s17.toNat (0, 0, 0)).1 < (b0_0.getD s17.toNat (0, 0, 0)).1) then ((audit_isBelow k (s15.getD s17.toNat (0, 0, 0)).1 (s15.getD s17.toNat (0, 0, 0)).2.1 (s15.getD s17.toNat (0, 0, 0)).2.2).bind fun x0 =>
     bif x0 then some (.inr false)
     else rec s15 s16 (w64 (s17 + 1)) b0_0 b0_1 b0_2 b0_3)
    else rec s15 s16 (w64 (s17 + 1)) b0_0 b0_1 b0_2 b0_3)
   else none)
  else none)
 else some (.inl ())
def audit_Floors_L0 (k : Nat) : Nat → audit_Floors_L0T
 | 0, _, _, _, _, _, _, _ => none
 | n + 1, s15, s16, s17, b0_0, b0_1, b0_2, b0_3 => audit_Floors_L0b k (audit_Floors_L0 k n) s15 s16 s17 b0_0 b0_1 b0_2 b0_3
/-- giro/audit.Floors -/
def audit_Floors (k : Nat) (a0Accts : List K4q) (a0Bil : List (List Int)) (a0Mul : List Int) (a0Pos : List (List Int)) (a1Accts : List K4q) (a1Bil : List (List Int)) (a1Mul : List Int) (a1Pos : List (List Int)) : Option Bool :=
 bif !(decide ((a0Accts.length : Int) = (a1Accts.length : Int))) then some false
 else (audit_Floors_L0 k k a1Accts (a1Accts.length : Int) 0 a0Accts a0Bil a0Mul a0Pos).bind fun z =>
 match z with
 | .inl z1 => some true
 | .inr z2 => some z2

abbrev audit_Once_L1X : Type := (List K2q) × Int × Int × (List Int) × Int × Int
abbrev audit_Once_L1T : Type := List K2q → Int → Int → Int → List Int → Int → Int → List K2q → Int → Int → Option audit_Once_L1X
def audit_Once_L1b (k : Nat) (rec : audit_Once_L1T) (s0 : List K2q) (s6 : Int) (s7 : Int) (s8 : Int) (s11 : List Int) (s12 : Int) (s13 : Int) (s17 : List K2q) (s18 : Int) (s19 : Int) : Option audit_Once_L1X :=
 bif decide (s19 < s18) then (bif boundOk s19 s17.length then (bif !(decide ((s17.getD s19.toNat (0, 0, 0, 0, 0, 0, 0, 0)).2.2.1 = s6)) then (rec s0 s6 s7 s8 s11 s12 s13 s17 s18 (w64 (s19 + 1)))
   else bif decide ((s17.getD s19.toNat (0, 0, 0, 0, 0, 0, 0, 0)).2.1 = 18) then (rec s0 s6 (w64 (s7 + 1)) s8 s11 s12 s13 s17 s18 (w64 (s19 + 1)))
   else bif decide ((s17.getD s19.toNat (0, 0, 0, 0, 0, 0, 0, 0)).2.1 = 20) then (bif decide ((s17.getD s19.toNat (0, 0, 0, 0, 0, 0, 0, 0)).2.1 = 20) then (rec s0 s6 s7 (w64 (s8 + 1)) s11 s12 s13 s17 s18 (w64 (s19 + 1)))
    else rec s0 s6 s7 s8 s11 s12 s13 s17 s18 (w64 (s19 + 1)))
   else bif decide ((s17.getD s19.toNat (0, 0, 0, 0, 0, 0, 0, 0)).2.1 = 21) then (bif decide ((s17.getD s19.toNat (0, 0, 0, 0, 0, 0, 0, 0)).2.1 = 21) then (rec s0 s6 s7 (w64 (s8 + 1)) s11 s12 s13 s17 s18 (w64 (s19 + 1)))
    else rec s0 s6 s7 s8 s11 s12 s13 s17 s18 (w64 (s19 + 1)))
   else bif decide ((s17.getD s19.toNat (0, 0, 0, 0, 0, 0, 0, 0)).2.1 = 22) then (rec s0 s6 s7 (w64 (s8 + 1)) s11 s12 s13 s17 s18 (w64 (s19 + 1)))
   else rec s0 s6 s7 s8 s11 s12 s13 s17 s18 (w64 (s19 + 1)))
  else none)
 else some (s0, s7, s8, s11, s12, s13)
def audit_Once_L1 (k : Nat) : Nat → audit_Once_L1T
 | 0, _, _, _, _, _, _, _, _, _, _ => none
 | n + 1, s0, s6, s7, s8, s11, s12, s13, s17, s18, s19 => audit_Once_L1b k (audit_Once_L1 k n) s0 s6 s7 s8 s11 s12 s13 s17 s18 s19
abbrev audit_Once_L0T : Type := List K2q → List Int → Int → Int → Option (Unit ⊕ Bool)
def audit_Once_L0b (k : Nat) (rec : audit_Once_L0T) (s0 : List K2q) (s11 : List Int) (s12 : Int) (s13 : Int) : Option (Unit ⊕ Bool) :=
 bif decide (s13 < s12) then (bif boundOk s13 s11.length then ((audit_Once_L1 k k s0 (s11.getD s13.toNat 0) 0 0 s11 s12 s13 s0 (s0.length : Int) 0).bind fun z =>
   bif decide (z.2.1 = 0) then (bif decide (z.2.2.1 = 1) then (rec z.1 z.2.2.2.1 z.2.2.2.2.1 (w64 (z.2.2.2.2.2 + 1)))
    else bif decide (z.2.1 = 2) then (bif !(decide (z.2.2.1 = 0)) then some (.inr false)
     else rec z.1 z.2.2.2.1 z.2.2.2.2.1 (w64 (z.2.2.2.2.2 + 1)))
    else some (.inr false))
   else bif decide (z.2.1 = 2) then (bif !(decide (z.2.2.1 = 0)) then some (.inr false)
    else rec z.1 z.2.2.2.1 z.2.2.2.2.1 (w64 (z.2.2.2.2.2 + 1)))
   else some (.inr false))
  else none)
 else some (.inl ())
def audit_Once_L0 (k : Nat) : Nat → audit_Once_L0T
 | 0, _, _, _, _ => none
 | n + 1, s0, s11, s12, s13 => audit_Once_L0b k (audit_Once_L0 k n) s0 s11 s12 s13
/-- giro/audit.Once -/
def audit_Once (k : Nat) (a0 : List K2q) (a1 : List Int) : Option Bool :=
 (audit_Once_L0 k k a0 a1 (a1.length : Int) 0).bind fun z1 =>
 match z1 with
 | .inl z2 => some true
 | .inr z3 => some z3

/-- giro/girolaw27.known -/
def girolaw27_known (k : Nat) : Option Bool :=
 (girolaw27_rules k 0).bind fun x0 =>
 (core_New k x0.1 x0.2.1 x0.2.2.1 x0.2.2.2.1 x0.2.2.2.2).bind fun x1 =>
 (girolaw27_rules k 0).bind fun x2 =>
 (audit_State k x2.1 x2.2.1 x2.2.2.1 x2.2.2.2.1 x2.2.2.2.2 x1.1 x1.2.1 x1.2.2.1 x1.2.2.2.1 x1.2.2.2.2.1 x1.2.2.2.2.2.1 x1.2.2.2.2.2.2.1 x1.2.2.2.2.2.2.2.1 x1.2.2.2.2.2.2.2.2.1 x1.2.2.2.2.2.2.2.2.2.1 x1.2.2.2.2.2.2.2.2.2.2).bind fun x3 =>
 bif x3 then ((audit_Zero k x1.2.1 x1.2.2.1 x1.2.2.2.1 x1.2.2.2.2.1).bind fun x4 =>
  bif x4 then ((audit_Floors k [(0, 0, 0)] [] [] [] [((-1), 0, 0)] [] [] []).bind fun x5 =>
   bif !x5 then ((audit_Floors k [((-1), 0, 0)] [] [] [] [((-1), 0, 0)] [] [] []).bind fun x6 =>
    bif x6 then ((audit_Once k [] [5]).bind fun x7 =>
     some (!x7))
    else some false)
   else some false)
  else some false)
 else some false

/-- giro/girolaw27.AuditStuck -/
def girolaw27_AuditStuck (k : Nat) (a0 : List Int) (a1 : Int) (a2 : List K3q) (a3 : Int) : Option Bool :=
 bif decide ((a2.length : Int) > 30) then some true
 else (girolaw27_some k a0 a1).bind fun x0 =>
 (girolaw27_rowed k a2).bind fun x1 =>
 (audit_Stuck k a3 x0.1 x0.2.1 x0.2.2.1 x0.2.2.2 [] [] x1 [] 0 false).bind fun x2 =>
 (giroref27_Stuck k a3 x0.1 x0.2.1 x0.2.2.1 x0.2.2.2 [] [] x1 [] 0 false).bind fun x3 =>
 bif eqBool x2 x3 then ((girolaw27_known k).bind fun x4 =>
  some x4)
 else some false

/-- giro/giroref27.below -/
def giroref27_below (k : Nat) (a0 : Int) (a1 : Int) : Option Bool :=
 bif eqBool (decide (a0 < 0)) (decide (a1 < 0)) then some (decide (a0 < 0))
 else some (decide ((w64 (a0 + a1)) < 0))

abbrev giroref27_Floors_L0T : Type := Int → List K4q → List (List Int) → List Int → List (List Int) → List K4q → List (List Int) → List Int → List (List Int) → Option (Unit ⊕ Bool)
def giroref27_Floors_L0b (k : Nat) (rec : giroref27_Floors_L0T) (s5 : Int) (b0_0 : List K4q) (b0_1 : List (List Int)) (b0_2 : List Int) (b0_3 : List (List Int)) (b1_0 : List K4q) (b1_1 : List (List Int)) (b1_2 : List Int) (b1_3 : List (List Int)) : Option (Unit ⊕ Bool) :=
 bif decide (s5 < (b1_0.length : Int)) then (bif boundOk s5 b1_0.length then (bif boundOk s5 b0_0.length then (bif decide ((b1_0.getD s5.toNat (0, 0, 0)).1 < (b0_0.getD s5.toNat (0, 0, 0)).1) then ((giroref27_below k (b1_0.getD s5.toNat (0, 0, 0)).1 (b1_0.getD s5.toNat (0, 0, 0)).2.1).bind fun x0 =>
     bif x0 then some (.inr false)
     else rec (w64 (s5 + 1)) b0_0 b0_1 b0_2 b0_3 b1_0 b1_1 b1_2 b1_3)
    else rec (w64 (s5 + 1)) b0_0 b0_1 b0_2 b0_3 b1_0 b1_1 b1_2 b1_3)
   else none)
  else none)
 else some (.inl ())
def giroref27_Floors_L0 (k : Nat) : Nat → giroref27_Floors_L0T
 | 0, _, _, _, _, _, _, _, _, _ => none
 | n + 1, s5, b0_0, b0_1, b0_2, b0_3, b1_0, b1_1, b1_2, b1_3 => giroref27_Floors_L0b k (giroref27_Floors_L0 k n) s5 b0_0 b0_1 b0_2 b0_3 b1_0 b1_1 b1_2 b1_3
/-- giro/giroref27.Floors -/
def giroref27_Floors (k : Nat) (a0Accts : List K4q) (a0Bil : List (List Int)) (a0Mul : List Int) (a0Pos : List (List Int)) (a1Accts : List K4q) (a1Bil : List (List Int)) (a1Mul : List Int) (a1Pos : List (List Int)) : Option Bool :=
 bif !(decide ((a0Accts.length : Int) = (a1Accts.length : Int))) then some false
 else (giroref27_Floors_L0 k k 0 a0Accts a0Bil a0Mul a0Pos a1Accts a1Bil a1Mul a1Pos).bind fun z =>
 match z with
 | .inl z1 => some true
 | .inr z2 => some z2

/-- giro/girolaw27.AuditPosts -/
def girolaw27_AuditPosts (k : Nat) (a0 : List Int) (a1 : Int) (a2 : List K3q) (a3 : Int) : Option Bool :=
 bif decide ((a2.length : Int) > 30) then some true
 else bif decide (a3 < 0) then some true
 else bif decide (a3 > 2) then some true
 else (girolaw27_some k a0 a1).bind fun x0 =>
 (girolaw27_rowed k a2).bind fun x1 =>
 (giroref16_Post k x0.1 x0.2.1 x0.2.2.1 x0.2.2.2 x1).bind fun x2 =>
 bif !(decide (x2.2.2.2.2 = 0)) then some false
 else (giroref10_Copy k x0.1 x0.2.1 x0.2.2.1 x0.2.2.2).bind fun x3 =>
 bif boundOk a3 x3.1.length then (bif boundOk a3 x3.1.length then (let y0 : List K4q := (x3.1.set a3.toNat ((w64 ((w64 (0 - (x3.1.getD a3.toNat (0, 0, 0)).2.1)) - 1)), (x3.1.getD a3.toNat (0, 0, 0)).2))
   (audit_Floors k x0.1 x0.2.1 x0.2.2.1 x0.2.2.2 x2.1 x2.2.1 x2.2.2.1 x2.2.2.2.1).bind fun x4 =>
   (giroref27_Floors k x0.1 x0.2.1 x0.2.2.1 x0.2.2.2 x2.1 x2.2.1 x2.2.2.1 x2.2.2.2.1).bind fun x5 =>
   bif eqBool x4 x5 then ((audit_Floors k x0.1 x0.2.1 x0.2.2.1 x0.2.2.2 y0 x3.2.1 x3.2.2.1 x3.2.2.2).bind fun x6 =>
    bif !x6 then ((audit_Zero k x2.1 x2.2.1 x2.2.2.1 x2.2.2.2.1).bind fun x7 =>
     bif x7 then ((girolaw27_known k).bind fun x8 =>
      some x8)
     else some false)
    else some false)
   else some false)
  else none)
 else none

/-- giro/girolaw23.rules -/
def girolaw23_rules (k : Nat) (a0 : Int) : Option (Int × (List K5q) × Int × Int × Int) :=
 bif decide ((band .i64 a0 3) = 1) then some (4, [(100, 1000), (7, 0)], 12, 20, 100)
 else bif decide ((band .i64 a0 3) = 2) then some (3, [], 20, 20, 4)
 else bif decide ((band .i64 a0 3) = 3) then some (3, [(100, 1000), (7, 0)], 0, 6, 1)
 else some (3, [(100, 1000), (7, 0)], 12, 20, 4)

abbrev giroref3_Of_L0X : Type := Int × Int × Int × Int × Int × Int × Int × Int × Int × Int × Int × Int × Int × Int
abbrev giroref3_Of_L0T : Type := List Int → Int → Int → Int → Int → Int → Int → Int → Int → Int → Int → Int → Int → Int → Int → Int → Option giroref3_Of_L0X
def giroref3_Of_L0b (k : Nat) (rec : giroref3_Of_L0T) (s1 : List Int) (s6 : Int) (b0_0 : Int) (b0_1 : Int) (b0_2 : Int) (b0_3 : Int) (b0_4 : Int) (b0_5 : Int) (b0_6 : Int) (b1_0 : Int) (b1_1 : Int) (b1_2 : Int) (b1_3 : Int) (b1_4 : Int) (b1_5 : Int) (b1_6 : Int) : Option giroref3_Of_L0X :=
 bif decide (s6 < (s1.length : Int)) then (bif decide (s6 < 6) then (bif boundOk s6 s1.length then (bif decide (s6 = 0) then (rec s1 (w64 (s6 + 1)) b0_0 b0_1 b0_2 b0_3 b0_4 b0_5 b0_6 b1_0 (s1.getD s6.toNat 0) b1_2 b1_3 b1_4 b1_5 b1_6)
    else bif decide (s6 = 1) then (rec s1 (w64 (s6 + 1)) b0_0 b0_1 b0_2 b0_3 b0_4 b0_5 b0_6 b1_0 b1_1 (s1.getD s6.toNat 0) b1_3 b1_4 b1_5 b1_6)
    else bif decide (s6 = 2) then (rec s1 (w64 (s6 + 1)) b0_0 b0_1 b0_2 b0_3 b0_4 b0_5 b0_6 b1_0 b1_1 b1_2 (s1.getD s6.toNat 0) b1_4 b1_5 b1_6)
    else bif decide (s6 = 3) then (rec s1 (w64 (s6 + 1)) b0_0 b0_1 b0_2 b0_3 b0_4 b0_5 b0_6 b1_0 b1_1 b1_2 b1_3 (s1.getD s6.toNat 0) b1_5 b1_6)
    else bif decide (s6 = 4) then (rec s1 (w64 (s6 + 1)) b0_0 b0_1 b0_2 b0_3 b0_4 b0_5 b0_6 b1_0 b1_1 b1_2 b1_3 b1_4 (s1.getD s6.toNat 0) b1_6)
    else bif decide (s6 = 5) then (rec s1 (w64 (s6 + 1)) b0_0 b0_1 b0_2 b0_3 b0_4 b0_5 b0_6 b1_0 b1_1 b1_2 b1_3 b1_4 b1_5 (s1.getD s6.toNat 0))
    else none)
   else none)
  else some (b0_0, b0_1, b0_2, b0_3, b0_4, b0_5, b0_6, b1_0, b1_1, b1_2, b1_3, b1_4, b1_5, b1_6))
 else some (b0_0, b0_1, b0_2, b0_3, b0_4, b0_5, b0_6, b1_0, b1_1, b1_2, b1_3, b1_4, b1_5, b1_6)
def giroref3_Of_L0 (k : Nat) : Nat → giroref3_Of_L0T
 | 0, _, _, _, _, _, _, _, _, _, _, _, _, _, _, _, _ => none
 | n + 1, s1, s6, b0_0, b0_1, b0_2, b0_3, b0_4, b0_5, b0_6, b1_0, b1_1, b1_2, b1_3, b1_4, b1_5, b1_6 => giroref3_Of_L0b k (giroref3_Of_L0 k n) s1 s6 b0_0 b0_1 b0_2 b0_3 b0_4 b0_5 b0_6 b1_0 b1_1 b1_2 b1_3 b1_4 b1_5 b1_6
/-- giro/giroref3.Of -/
def giroref3_Of (k : Nat) (a0 : Int) (a1 : List Int) : Option K3q :=
 (giroref3_Of_L0 k k a1 0 0 0 0 0 0 0 0 a0 0 0 0 0 0 0).bind fun z =>
 some (z.2.2.2.2.2.2.2.1, z.2.2.2.2.2.2.2.2.1, z.2.2.2.2.2.2.2.2.2.1, z.2.2.2.2.2.2.2.2.2.2.1, z.2.2.2.2.2.2.2.2.2.2.2.1, z.2.2.2.2.2.2.2.2.2.2.2.2.1, z.2.2.2.2.2.2.2.2.2.2.2.2.2)

/-- giro/girolaw23.cmd -/
def girolaw23_cmd (k : Nat) (a0 : Int) (a1 : Int) (a2 : List Int) : Option K2q :=
 (giroref3_Of k a1 a2).bind fun x0 =>
 some (a0, x0.1, x0.2.1, x0.2.2.1, x0.2.2.2.1, x0.2.2.2.2.1, x0.2.2.2.2.2.1, x0.2.2.2.2.2.2)

/-- giro/msg.Host -/
def msg_Host (k : Nat) (a0 : Int) : Option Bool :=
 bif decide (a0 ≥ 10) then some (decide (a0 ≤ 14))
 else some false

/-- giro/msg.Asked -/
def msg_Asked (k : Nat) (a0 : Int) : Option Bool :=
 bif decide (a0 ≥ 1) then some (decide (a0 ≤ 14))
 else some false

/-- giro/msg.Many -/
def msg_Many (k : Nat) (a0 : Int) : Option Int :=
 bif decide (a0 = 9) then (bif decide (a0 = 9) then some 0
  else bif decide (a0 = 2) then (bif decide (a0 = 2) then some 1
   else bif decide (a0 = 3) then (bif decide (a0 = 3) then some 2
    else bif decide (a0 = 18) then some 4
    else bif decide (a0 = 17) then some 5
    else bif decide (a0 = 1) then some 6
    else some (-1))
   else bif decide (a0 = 4) then (bif decide (a0 = 4) then some 2
    else bif decide (a0 = 18) then some 4
    else bif decide (a0 = 17) then some 5
    else bif decide (a0 = 1) then some 6
    else some (-1))
   else bif decide (a0 = 5) then (bif decide (a0 = 5) then some 2
    else bif decide (a0 = 18) then some 4
    else bif decide (a0 = 17) then some 5
    else bif decide (a0 = 1) then some 6
    else some (-1))
   else bif decide (a0 = 8) then (bif decide (a0 = 8) then some 2
    else bif decide (a0 = 18) then some 4
    else bif decide (a0 = 17) then some 5
    else bif decide (a0 = 1) then some 6
    else some (-1))
   else bif decide (a0 = 10) then (bif decide (a0 = 10) then some 2
    else bif decide (a0 = 18) then some 4
    else bif decide (a0 = 17) then some 5
    else bif decide (a0 = 1) then some 6
    else some (-1))
   else bif decide (a0 = 11) then (bif decide (a0 = 11) then some 2
    else bif decide (a0 = 18) then some 4
    else bif decide (a0 = 17) then some 5
    else bif decide (a0 = 1) then some 6
    else some (-1))
   else bif decide (a0 = 12) then some 2
   else bif decide (a0 = 18) then some 4
   else bif decide (a0 = 17) then some 5
   else bif decide (a0 = 1) then some 6
   else some (-1))
  else bif decide (a0 = 6) then (bif decide (a0 = 6) then some 1
   else bif decide (a0 = 3) then (bif decide (a0 = 3) then some 2
    else bif decide (a0 = 18) then some 4
    else bif decide (a0 = 17) then some 5
    else bif decide (a0 = 1) then some 6
    else some (-1))
   else bif decide (a0 = 4) then (bif decide (a0 = 4) then some 2
    else bif decide (a0 = 18) then some 4
    else bif decide (a0 = 17) then some 5
    else bif decide (a0 = 1) then some 6
    else some (-1))
   else bif decide (a0 = 5) then (bif decide (a0 = 5) then some 2
    else bif decide (a0 = 18) then some 4
    else bif decide (a0 = 17) then some 5
    else bif decide (a0 = 1) then some 6
    else some (-1))
   else bif decide (a0 = 8) then (bif decide (a0 = 8) then some 2
    else bif decide (a0 = 18) then some 4
    else bif decide (a0 = 17) then some 5
    else bif decide (a0 = 1) then some 6
    else some (-1))
   else bif decide (a0 = 10) then (bif decide (a0 = 10) then some 2
    else bif decide (a0 = 18) then some 4
    else bif decide (a0 = 17) then some 5
    else bif decide (a0 = 1) then some 6
    else some (-1))
   else bif decide (a0 = 11) then (bif decide (a0 = 11) then some 2
    else bif decide (a0 = 18) then some 4
    else bif decide (a0 = 17) then some 5
    else bif decide (a0 = 1) then some 6
    else some (-1))
   else bif decide (a0 = 12) then some 2
   else bif decide (a0 = 18) then some 4
   else bif decide (a0 = 17) then some 5
   else bif decide (a0 = 1) then some 6
   else some (-1))
  else bif decide (a0 = 7) then (bif decide (a0 = 7) then some 1
   else bif decide (a0 = 3) then (bif decide (a0 = 3) then some 2
    else bif decide (a0 = 18) then some 4
    else bif decide (a0 = 17) then some 5
    else bif decide (a0 = 1) then some 6
    else some (-1))
   else bif decide (a0 = 4) then (bif decide (a0 = 4) then some 2
    else bif decide (a0 = 18) then some 4
    else bif decide (a0 = 17) then some 5
    else bif decide (a0 = 1) then some 6
    else some (-1))
   else bif decide (a0 = 5) then (bif decide (a0 = 5) then some 2
    else bif decide (a0 = 18) then some 4
    else bif decide (a0 = 17) then some 5
    else bif decide (a0 = 1) then some 6
    else some (-1))
   else bif decide (a0 = 8) then (bif decide (a0 = 8) then some 2
    else bif decide (a0 = 18) then some 4
    else bif decide (a0 = 17) then some 5
    else bif decide (a0 = 1) then some 6
    else some (-1))
   else bif decide (a0 = 10) then (bif decide (a0 = 10) then some 2
    else bif decide (a0 = 18) then some 4
    else bif decide (a0 = 17) then some 5
    else bif decide (a0 = 1) then some 6
    else some (-1))
   else bif decide (a0 = 11) then (bif decide (a0 = 11) then some 2
    else bif decide (a0 = 18) then some 4
    else bif decide (a0 = 17) then some 5
    else bif decide (a0 = 1) then some 6
    else some (-1))
   else bif decide (a0 = 12) then some 2
   else bif decide (a0 = 18) then some 4
   else bif decide (a0 = 17) then some 5
   else bif decide (a0 = 1) then some 6
   else some (-1))
  else bif decide (a0 = 16) then (bif decide (a0 = 16) then some 1
   else bif decide (a0 = 3) then (bif decide (a0 = 3) then some 2
    else bif decide (a0 = 18) then some 4
    else bif decide (a0 = 17) then some 5
    else bif decide (a0 = 1) then some 6
    else some (-1))
   else bif decide (a0 = 4) then (bif decide (a0 = 4) then some 2
    else bif decide (a0 = 18) then some 4
    else bif decide (a0 = 17) then some 5
    else bif decide (a0 = 1) then some 6
    else some (-1))
   else bif decide (a0 = 5) then (bif decide (a0 = 5) then some 2
    else bif decide (a0 = 18) then some 4
    else bif decide (a0 = 17) then some 5
    else bif decide (a0 = 1) then some 6
    else some (-1))
   else bif decide (a0 = 8) then (bif decide (a0 = 8) then some 2
    else bif decide (a0 = 18) then some 4
    else bif decide (a0 = 17) then some 5
    else bif decide (a0 = 1) then some 6
    else some (-1))
   else bif decide (a0 = 10) then (bif decide (a0 = 10) then some 2
    else bif decide (a0 = 18) then some 4
    else bif decide (a0 = 17) then some 5
    else bif decide (a0 = 1) then some 6
    else some (-1))
   else bif decide (a0 = 11) then (bif decide (a0 = 11) then some 2
    else bif decide (a0 = 18) then some 4
    else bif decide (a0 = 17) then some 5
    else bif decide (a0 = 1) then some 6
    else some (-1))
   else bif decide (a0 = 12) then some 2
   else bif decide (a0 = 18) then some 4
   else bif decide (a0 = 17) then some 5
   else bif decide (a0 = 1) then some 6
   else some (-1))
  else bif decide (a0 = 19) then (bif decide (a0 = 19) then some 1
   else bif decide (a0 = 3) then (bif decide (a0 = 3) then some 2
    else bif decide (a0 = 18) then some 4
    else bif decide (a0 = 17) then some 5
    else bif decide (a0 = 1) then some 6
    else some (-1))
   else bif decide (a0 = 4) then (bif decide (a0 = 4) then some 2
    else bif decide (a0 = 18) then some 4
    else bif decide (a0 = 17) then some 5
    else bif decide (a0 = 1) then some 6
    else some (-1))
   else bif decide (a0 = 5) then (bif decide (a0 = 5) then some 2
    else bif decide (a0 = 18) then some 4
    else bif decide (a0 = 17) then some 5
    else bif decide (a0 = 1) then some 6
    else some (-1))
   else bif decide (a0 = 8) then (bif decide (a0 = 8) then some 2
    else bif decide (a0 = 18) then some 4
    else bif decide (a0 = 17) then some 5
    else bif decide (a0 = 1) then some 6
    else some (-1))
   else bif decide (a0 = 10) then (bif decide (a0 = 10) then some 2
    else bif decide (a0 = 18) then some 4
    else bif decide (a0 = 17) then some 5
    else bif decide (a0 = 1) then some 6
    else some (-1))
   else bif decide (a0 = 11) then (bif decide (a0 = 11) then some 2
    else bif decide (a0 = 18) then some 4
    else bif decide (a0 = 17) then some 5
    else bif decide (a0 = 1) then some 6
    else some (-1))
   else bif decide (a0 = 12) then some 2
   else bif decide (a0 = 18) then some 4
   else bif decide (a0 = 17) then some 5
   else bif decide (a0 = 1) then some 6
   else some (-1))
  else bif decide (a0 = 20) then (bif decide (a0 = 20) then some 1
   else bif decide (a0 = 3) then (bif decide (a0 = 3) then some 2
    else bif decide (a0 = 18) then some 4
    else bif decide (a0 = 17) then some 5
    else bif decide (a0 = 1) then some 6
    else some (-1))
   else bif decide (a0 = 4) then (bif decide (a0 = 4) then some 2
    else bif decide (a0 = 18) then some 4
    else bif decide (a0 = 17) then some 5
    else bif decide (a0 = 1) then some 6
    else some (-1))
   else bif decide (a0 = 5) then (bif decide (a0 = 5) then some 2
    else bif decide (a0 = 18) then some 4
    else bif decide (a0 = 17) then some 5
    else bif decide (a0 = 1) then some 6
    else some (-1))
   else bif decide (a0 = 8) then (bif decide (a0 = 8) then some 2
    else bif decide (a0 = 18) then some 4
    else bif decide (a0 = 17) then some 5
    else bif decide (a0 = 1) then some 6
    else some (-1))
   else bif decide (a0 = 10) then (bif decide (a0 = 10) then some 2
    else bif decide (a0 = 18) then some 4
    else bif decide (a0 = 17) then some 5
    else bif decide (a0 = 1) then some 6
    else some (-1))
   else bif decide (a0 = 11) then (bif decide (a0 = 11) then some 2
    else bif decide (a0 = 18) then some 4
    else bif decide (a0 = 17) then some 5
    else bif decide (a0 = 1) then some 6
    else some (-1))
   else bif decide (a0 = 12) then some 2
   else bif decide (a0 = 18) then some 4
   else bif decide (a0 = 17) then some 5
   else bif decide (a0 = 1) then some 6
   else some (-1))
  else bif decide (a0 = 21) then (bif decide (a0 = 21) then some 1
   else bif decide (a0 = 3) then (bif decide (a0 = 3) then some 2
    else bif decide (a0 = 18) then some 4
    else bif decide (a0 = 17) then some 5
    else bif decide (a0 = 1) then some 6
    else some (-1))
   else bif decide (a0 = 4) then (bif decide (a0 = 4) then some 2
    else bif decide (a0 = 18) then some 4
    else bif decide (a0 = 17) then some 5
    else bif decide (a0 = 1) then some 6
    else some (-1))
   else bif decide (a0 = 5) then (bif decide (a0 = 5) then some 2
    else bif decide (a0 = 18) then some 4
    else bif decide (a0 = 17) then some 5
    else bif decide (a0 = 1) then some 6
    else some (-1))
   else bif decide (a0 = 8) then (bif decide (a0 = 8) then some 2
    else bif decide (a0 = 18) then some 4
    else bif decide (a0 = 17) then some 5
    else bif decide (a0 = 1) then some 6
    else some (-1))
   else bif decide (a0 = 10) then (bif decide (a0 = 10) then some 2
    else bif decide (a0 = 18) then some 4
    else bif decide (a0 = 17) then some 5
    else bif decide (a0 = 1) then some 6
    else some (-1))
   else bif decide (a0 = 11) then (bif decide (a0 = 11) then some 2
    else bif decide (a0 = 18) then some 4
    else bif decide (a0 = 17) then some 5
    else bif decide (a0 = 1) then some 6
    else some (-1))
   else bif decide (a0 = 12) then some 2
   else bif decide (a0 = 18) then some 4
   else bif decide (a0 = 17) then some 5
   else bif decide (a0 = 1) then some 6
   else some (-1))
  else bif decide (a0 = 22) then (bif decide (a0 = 22) then some 1
   else bif decide (a0 = 3) then (bif decide (a0 = 3) then some 2
    else bif decide (a0 = 18) then some 4
    else bif decide (a0 = 17) then some 5
    else bif decide (a0 = 1) then some 6
    else some (-1))
   else bif decide (a0 = 4) then (bif decide (a0 = 4) then some 2
    else bif decide (a0 = 18) then some 4
    else bif decide (a0 = 17) then some 5
    else bif decide (a0 = 1) then some 6
    else some (-1))
   else bif decide (a0 = 5) then (bif decide (a0 = 5) then some 2
    else bif decide (a0 = 18) then some 4
    else bif decide (a0 = 17) then some 5
    else bif decide (a0 = 1) then some 6
    else some (-1))
   else bif decide (a0 = 8) then (bif decide (a0 = 8) then some 2
    else bif decide (a0 = 18) then some 4
    else bif decide (a0 = 17) then some 5
    else bif decide (a0 = 1) then some 6
    else some (-1))
   else bif decide (a0 = 10) then (bif decide (a0 = 10) then some 2
    else bif decide (a0 = 18) then some 4
    else bif decide (a0 = 17) then some 5
    else bif decide (a0 = 1) then some 6
    else some (-1))
   else bif decide (a0 = 11) then (bif decide (a0 = 11) then some 2
    else bif decide (a0 = 18) then some 4
    else bif decide (a0 = 17) then some 5
    else bif decide (a0 = 1) then some 6
    else some (-1))
   else bif decide (a0 = 12) then some 2
   else bif decide (a0 = 18) then some 4
   else bif decide (a0 = 17) then some 5
   else bif decide (a0 = 1) then some 6
   else some (-1))
  else bif decide (a0 = 23) then some 1
  else bif decide (a0 = 3) then (bif decide (a0 = 3) then some 2
   else bif decide (a0 = 18) then some 4
   else bif decide (a0 = 17) then some 5
   else bif decide (a0 = 1) then some 6
   else some (-1))
  else bif decide (a0 = 4) then (bif decide (a0 = 4) then some 2
   else bif decide (a0 = 18) then some 4
   else bif decide (a0 = 17) then some 5
   else bif decide (a0 = 1) then some 6
   else some (-1))
  else bif decide (a0 = 5) then (bif decide (a0 = 5) then some 2
   else bif decide (a0 = 18) then some 4
   else bif decide (a0 = 17) then some 5
   else bif decide (a0 = 1) then some 6
   else some (-1))
  else bif decide (a0 = 8) then (bif decide (a0 = 8) then some 2
   else bif decide (a0 = 18) then some 4
   else bif decide (a0 = 17) then some 5
   else bif decide (a0 = 1) then some 6
   else some (-1))
  else bif decide (a0 = 10) then (bif decide (a0 = 10) then some 2
   else bif decide (a0 = 18) then some 4
   else bif decide (a0 = 17) then some 5
   else bif decide (a0 = 1) then some 6
   else some (-1))
  else bif decide (a0 = 11) then (bif decide (a0 = 11) then some 2
   else bif decide (a0 = 18) then some 4
   else bif decide (a0 = 17) then some 5
   else bif decide (a0 = 1) then some 6
   else some (-1))
  else bif decide (a0 = 12) then some 2
  else bif decide (a0 = 18) then some 4
  else bif decide (a0 = 17) then some 5
  else bif decide (a0 = 1) then some 6
  else some (-1))
 else bif decide (a0 = 13) then (bif decide (a0 = 13) then some 0
  else bif decide (a0 = 2) then (bif decide (a0 = 2) then some 1
   else bif decide (a0 = 3) then (bif decide (a0 = 3) then some 2
    else bif decide (a0 = 18) then some 4
    else bif decide (a0 = 17) then some 5
    else bif decide (a0 = 1) then some 6
    else some (-1))
   else bif decide (a0 = 4) then (bif decide (a0 = 4) then some 2
    else bif decide (a0 = 18) then some 4
    else bif decide (a0 = 17) then some 5
    else bif decide (a0 = 1) then some 6
    else some (-1))
   else bif decide (a0 = 5) then (bif decide (a0 = 5) then some 2
    else bif decide (a0 = 18) then some 4
    else bif decide (a0 = 17) then some 5
    else bif decide (a0 = 1) then some 6
    else some (-1))
   else bif decide (a0 = 8) then (bif decide (a0 = 8) then some 2
    else bif decide (a0 = 18) then some 4
    else bif decide (a0 = 17) then some 5
    else bif decide (a0 = 1) then some 6
    else some (-1))
   else bif decide (a0 = 10) then (bif decide (a0 = 10) then some 2
    else bif decide (a0 = 18) then some 4
    else bif decide (a0 = 17) then some 5
    else bif decide (a0 = 1) then some 6
    else some (-1))
   else bif decide (a0 = 11) then (bif decide (a0 = 11) then some 2
    else bif decide (a0 = 18) then some 4
    else bif decide (a0 = 17) then some 5
    else bif decide (a0 = 1) then some 6
    else some (-1))
   else bif decide (a0 = 12) then some 2
   else bif decide (a0 = 18) then some 4
   else bif decide (a0 = 17) then some 5
   else bif decide (a0 = 1) then some 6
   else some (-1))
  else bif decide (a0 = 6) then (bif decide (a0 = 6) then some 1
   else bif decide (a0 = 3) then (bif decide (a0 = 3) then some 2
    else bif decide (a0 = 18) then some 4
    else bif decide (a0 = 17) then some 5
    else bif decide (a0 = 1) then some 6
    else some (-1))
   else bif decide (a0 = 4) then (bif decide (a0 = 4) then some 2
    else bif decide (a0 = 18) then some 4
    else bif decide (a0 = 17) then some 5
    else bif decide (a0 = 1) then some 6
    else some (-1))
   else bif decide (a0 = 5) then (bif decide (a0 = 5) then some 2
    else bif decide (a0 = 18) then some 4
    else bif decide (a0 = 17) then some 5
    else bif decide (a0 = 1) then some 6
    else some (-1))
   else bif decide (a0 = 8) then (bif decide (a0 = 8) then some 2
    else bif decide (a0 = 18) then some 4
    else bif decide (a0 = 17) then some 5
    else bif decide (a0 = 1) then some 6
    else some (-1))
   else bif decide (a0 = 10) then (bif decide (a0 = 10) then some 2
    else bif decide (a0 = 18) then some 4
    else bif decide (a0 = 17) then some 5
    else bif decide (a0 = 1) then some 6
    else some (-1))
   else bif decide (a0 = 11) then (bif decide (a0 = 11) then some 2
    else bif decide (a0 = 18) then some 4
    else bif decide (a0 = 17) then some 5
    else bif decide (a0 = 1) then some 6
    else some (-1))
   else bif decide (a0 = 12) then some 2
   else bif decide (a0 = 18) then some 4
   else bif decide (a0 = 17) then some 5
   else bif decide (a0 = 1) then some 6
   else some (-1))
  else bif decide (a0 = 7) then (bif decide (a0 = 7) then some 1
   else bif decide (a0 = 3) then (bif decide (a0 = 3) then some 2
    else bif decide (a0 = 18) then some 4
    else bif decide (a0 = 17) then some 5
    else bif decide (a0 = 1) then some 6
    else some (-1))
   else bif decide (a0 = 4) then (bif decide (a0 = 4) then some 2
    else bif decide (a0 = 18) then some 4
    else bif decide (a0 = 17) then some 5
    else bif decide (a0 = 1) then some 6
    else some (-1))
   else bif decide (a0 = 5) then (bif decide (a0 = 5) then some 2
    else bif decide (a0 = 18) then some 4
    else bif decide (a0 = 17) then some 5
    else bif decide (a0 = 1) then some 6
    else some (-1))
   else bif decide (a0 = 8) then (bif decide (a0 = 8) then some 2
    else bif decide (a0 = 18) then some 4
    else bif decide (a0 = 17) then some 5
    else bif decide (a0 = 1) then some 6
    else some (-1))
   else bif decide (a0 = 10) then (bif decide (a0 = 10) then some 2
    else bif decide (a0 = 18) then some 4
    else bif decide (a0 = 17) then some 5
    else bif decide (a0 = 1) then some 6
    else some (-1))
   else bif decide (a0 = 11) then (bif decide (a0 = 11) then some 2
    else bif decide (a0 = 18) then some 4
    else bif decide (a0 = 17) then some 5
    else bif decide (a0 = 1) then some 6
    else some (-1))
   else bif decide (a0 = 12) then some 2
   else bif decide (a0 = 18) then some 4
   else bif decide (a0 = 17) then some 5
   else bif decide (a0 = 1) then some 6
   else some (-1))
  else bif decide (a0 = 16) then (bif decide (a0 = 16) then some 1
   else bif decide (a0 = 3) then (bif decide (a0 = 3) then some 2
    else bif decide (a0 = 18) then some 4
    else bif decide (a0 = 17) then some 5
    else bif decide (a0 = 1) then some 6
    else some (-1))
   else bif decide (a0 = 4) then (bif decide (a0 = 4) then some 2
    else bif decide (a0 = 18) then some 4
    else bif decide (a0 = 17) then some 5
    else bif decide (a0 = 1) then some 6
    else some (-1))
   else bif decide (a0 = 5) then (bif decide (a0 = 5) then some 2
    else bif decide (a0 = 18) then some 4
    else bif decide (a0 = 17) then some 5
    else bif decide (a0 = 1) then some 6
    else some (-1))
   else bif decide (a0 = 8) then (bif decide (a0 = 8) then some 2
    else bif decide (a0 = 18) then some 4
    else bif decide (a0 = 17) then some 5
    else bif decide (a0 = 1) then some 6
    else some (-1))
   else bif decide (a0 = 10) then (bif decide (a0 = 10) then some 2
    else bif decide (a0 = 18) then some 4
    else bif decide (a0 = 17) then some 5
    else bif decide (a0 = 1) then some 6
    else some (-1))
   else bif decide (a0 = 11) then (bif decide (a0 = 11) then some 2
    else bif decide (a0 = 18) then some 4
    else bif decide (a0 = 17) then some 5
    else bif decide (a0 = 1) then some 6
    else some (-1))
   else bif decide (a0 = 12) then some 2
   else bif decide (a0 = 18) then some 4
   else bif decide (a0 = 17) then some 5
   else bif decide (a0 = 1) then some 6
   else some (-1))
  else bif decide (a0 = 19) then (bif decide (a0 = 19) then some 1
   else bif decide (a0 = 3) then (bif decide (a0 = 3) then some 2
    else bif decide (a0 = 18) then some 4
    else bif decide (a0 = 17) then some 5
    else bif decide (a0 = 1) then some 6
    else some (-1))
   else bif decide (a0 = 4) then (bif decide (a0 = 4) then some 2
    else bif decide (a0 = 18) then some 4
    else bif decide (a0 = 17) then some 5
    else bif decide (a0 = 1) then some 6
    else some (-1))
   else bif decide (a0 = 5) then (bif decide (a0 = 5) then some 2
    else bif decide (a0 = 18) then some 4
    else bif decide (a0 = 17) then some 5
    else bif decide (a0 = 1) then some 6
    else some (-1))
   else bif decide (a0 = 8) then (bif decide (a0 = 8) then some 2
    else bif decide (a0 = 18) then some 4
    else bif decide (a0 = 17) then some 5
    else bif decide (a0 = 1) then some 6
    else some (-1))
   else bif decide (a0 = 10) then (bif decide (a0 = 10) then some 2
    else bif decide (a0 = 18) then some 4
    else bif decide (a0 = 17) then some 5
    else bif decide (a0 = 1) then some 6
    else some (-1))
   else bif decide (a0 = 11) then (bif decide (a0 = 11) then some 2
    else bif decide (a0 = 18) then some 4
    else bif decide (a0 = 17) then some 5
    else bif decide (a0 = 1) then some 6
    else some (-1))
   else bif decide (a0 = 12) then some 2
   else bif decide (a0 = 18) then some 4
   else bif decide (a0 = 17) then some 5
   else bif decide (a0 = 1) then some 6
   else some (-1))
  else bif decide (a0 = 20) then (bif decide (a0 = 20) then some 1
   else bif decide (a0 = 3) then (bif decide (a0 = 3) then some 2
    else bif decide (a0 = 18) then some 4
    else bif decide (a0 = 17) then some 5
    else bif decide (a0 = 1) then some 6
    else some (-1))
   else bif decide (a0 = 4) then (bif decide (a0 = 4) then some 2
    else bif decide (a0 = 18) then some 4
    else bif decide (a0 = 17) then some 5
    else bif decide (a0 = 1) then some 6
    else some (-1))
   else bif decide (a0 = 5) then (bif decide (a0 = 5) then some 2
    else bif decide (a0 = 18) then some 4
    else bif decide (a0 = 17) then some 5
    else bif decide (a0 = 1) then some 6
    else some (-1))
   else bif decide (a0 = 8) then (bif decide (a0 = 8) then some 2
    else bif decide (a0 = 18) then some 4
    else bif decide (a0 = 17) then some 5
    else bif decide (a0 = 1) then some 6
    else some (-1))
   else bif decide (a0 = 10) then (bif decide (a0 = 10) then some 2
    else bif decide (a0 = 18) then some 4
    else bif decide (a0 = 17) then some 5
    else bif decide (a0 = 1) then some 6
    else some (-1))
   else bif decide (a0 = 11) then (bif decide (a0 = 11) then some 2
    else bif decide (a0 = 18) then some 4
    else bif decide (a0 = 17) then some 5
    else bif decide (a0 = 1) then some 6
    else some (-1))
   else bif decide (a0 = 12) then some 2
   else bif decide (a0 = 18) then some 4
   else bif decide (a0 = 17) then some 5
   else bif decide (a0 = 1) then some 6
   else some (-1))
  else bif decide (a0 = 21) then (bif decide (a0 = 21) then some 1
   else bif decide (a0 = 3) then (bif decide (a0 = 3) then some 2
    else bif decide (a0 = 18) then some 4
    else bif decide (a0 = 17) then some 5
    else bif decide (a0 = 1) then some 6
    else some (-1))
   else bif decide (a0 = 4) then (bif decide (a0 = 4) then some 2
    else bif decide (a0 = 18) then some 4
    else bif decide (a0 = 17) then some 5
    else bif decide (a0 = 1) then some 6
    else some (-1))
   else bif decide (a0 = 5) then (bif decide (a0 = 5) then some 2
    else bif decide (a0 = 18) then some 4
    else bif decide (a0 = 17) then some 5
    else bif decide (a0 = 1) then some 6
    else some (-1))
   else bif decide (a0 = 8) then (bif decide (a0 = 8) then some 2
    else bif decide (a0 = 18) then some 4
    else bif decide (a0 = 17) then some 5
    else bif decide (a0 = 1) then some 6
    else some (-1))
   else bif decide (a0 = 10) then (bif decide (a0 = 10) then some 2
    else bif decide (a0 = 18) then some 4
    else bif decide (a0 = 17) then some 5
    else bif decide (a0 = 1) then some 6
    else some (-1))
   else bif decide (a0 = 11) then (bif decide (a0 = 11) then some 2
    else bif decide (a0 = 18) then some 4
    else bif decide (a0 = 17) then some 5
    else bif decide (a0 = 1) then some 6
    else some (-1))
   else bif decide (a0 = 12) then some 2
   else bif decide (a0 = 18) then some 4
   else bif decide (a0 = 17) then some 5
   else bif decide (a0 = 1) then some 6
   else some (-1))
  else bif decide (a0 = 22) then (bif decide (a0 = 22) then some 1
   else bif decide (a0 = 3) then (bif decide (a0 = 3) then some 2
    else bif decide (a0 = 18) then some 4
    else bif decide (a0 = 17) then some 5
    else bif decide (a0 = 1) then some 6
    else some (-1))
   else bif decide (a0 = 4) then (bif decide (a0 = 4) then some 2
    else bif decide (a0 = 18) then some 4
    else bif decide (a0 = 17) then some 5
    else bif decide (a0 = 1) then some 6
    else some (-1))
   else bif decide (a0 = 5) then (bif decide (a0 = 5) then some 2
    else bif decide (a0 = 18) then some 4
    else bif decide (a0 = 17) then some 5
    else bif decide (a0 = 1) then some 6
    else some (-1))
   else bif decide (a0 = 8) then (bif decide (a0 = 8) then some 2
    else bif decide (a0 = 18) then some 4
    else bif decide (a0 = 17) then some 5
    else bif decide (a0 = 1) then some 6
    else some (-1))
   else bif decide (a0 = 10) then (bif decide (a0 = 10) then some 2
    else bif decide (a0 = 18) then some 4
    else bif decide (a0 = 17) then some 5
    else bif decide (a0 = 1) then some 6
    else some (-1))
   else bif decide (a0 = 11) then (bif decide (a0 = 11) then some 2
    else bif decide (a0 = 18) then some 4
    else bif decide (a0 = 17) then some 5
    else bif decide (a0 = 1) then some 6
    else some (-1))
   else bif decide (a0 = 12) then some 2
   else bif decide (a0 = 18) then some 4
   else bif decide (a0 = 17) then some 5
   else bif decide (a0 = 1) then some 6
   else some (-1))
  else bif decide (a0 = 23) then some 1
  else bif decide (a0 = 3) then (bif decide (a0 = 3) then some 2
   else bif decide (a0 = 18) then some 4
   else bif decide (a0 = 17) then some 5
   else bif decide (a0 = 1) then some 6
   else some (-1))
  else bif decide (a0 = 4) then (bif decide (a0 = 4) then some 2
   else bif decide (a0 = 18) then some 4
   else bif decide (a0 = 17) then some 5
   else bif decide (a0 = 1) then some 6
   else some (-1))
  else bif decide (a0 = 5) then (bif decide (a0 = 5) then some 2
   else bif decide (a0 = 18) then some 4
   else bif decide (a0 = 17) then some 5
   else bif decide (a0 = 1) then some 6
   else some (-1))
  else bif decide (a0 = 8) then (bif decide (a0 = 8) then some 2
   else bif decide (a0 = 18) then some 4
   else bif decide (a0 = 17) then some 5
   else bif decide (a0 = 1) then some 6
   else some (-1))
  else bif decide (a0 = 10) then (bif decide (a0 = 10) then some 2
   else bif decide (a0 = 18) then some 4
   else bif decide (a0 = 17) then some 5
   else bif decide (a0 = 1) then some 6
   else some (-1))
  else bif decide (a0 = 11) then (bif decide (a0 = 11) then some 2
   else bif decide (a0 = 18) then some 4
   else bif decide (a0 = 17) then some 5
   else bif decide (a0 = 1) then some 6
   else some (-1))
  else bif decide (a0 = 12) then some 2
  else bif decide (a0 = 18) then some 4
  else bif decide (a0 = 17) then some 5
  else bif decide (a0 = 1) then some 6
  else some (-1))
 else bif decide (a0 = 14) then (bif decide (a0 = 14) then some 0
  else bif decide (a0 = 2) then (bif decide (a0 = 2) then some 1
   else bif decide (a0 = 3) then (bif decide (a0 = 3) then some 2
    else bif decide (a0 = 18) then some 4
    else bif decide (a0 = 17) then some 5
    else bif decide (a0 = 1) then some 6
    else some (-1))
   else bif decide (a0 = 4) then (bif decide (a0 = 4) then some 2
    else bif decide (a0 = 18) then some 4
    else bif decide (a0 = 17) then some 5
    else bif decide (a0 = 1) then some 6
    else some (-1))
   else bif decide (a0 = 5) then (bif decide (a0 = 5) then some 2
    else bif decide (a0 = 18) then some 4
    else bif decide (a0 = 17) then some 5
    else bif decide (a0 = 1) then some 6
    else some (-1))
   else bif decide (a0 = 8) then (bif decide (a0 = 8) then some 2
    else bif decide (a0 = 18) then some 4
    else bif decide (a0 = 17) then some 5
    else bif decide (a0 = 1) then some 6
    else some (-1))
   else bif decide (a0 = 10) then (bif decide (a0 = 10) then some 2
    else bif decide (a0 = 18) then some 4
    else bif decide (a0 = 17) then some 5
    else bif decide (a0 = 1) then some 6
    else some (-1))
   else bif decide (a0 = 11) then (bif decide (a0 = 11) then some 2
    else bif decide (a0 = 18) then some 4
    else bif decide (a0 = 17) then some 5
    else bif decide (a0 = 1) then some 6
    else some (-1))
   else bif decide (a0 = 12) then some 2
   else bif decide (a0 = 18) then some 4
   else bif decide (a0 = 17) then some 5
   else bif decide (a0 = 1) then some 6
   else some (-1))
  else bif decide (a0 = 6) then (bif decide (a0 = 6) then some 1
   else bif decide (a0 = 3) then (bif decide (a0 = 3) then some 2
    else bif decide (a0 = 18) then some 4
    else bif decide (a0 = 17) then some 5
    else bif decide (a0 = 1) then some 6
    else some (-1))
   else bif decide (a0 = 4) then (bif decide (a0 = 4) then some 2
    else bif decide (a0 = 18) then some 4
    else bif decide (a0 = 17) then some 5
    else bif decide (a0 = 1) then some 6
    else some (-1))
   else bif decide (a0 = 5) then (bif decide (a0 = 5) then some 2
    else bif decide (a0 = 18) then some 4
    else bif decide (a0 = 17) then some 5
    else bif decide (a0 = 1) then some 6
    else some (-1))
   else bif decide (a0 = 8) then (bif decide (a0 = 8) then some 2
    else bif decide (a0 = 18) then some 4
    else bif decide (a0 = 17) then some 5
    else bif decide (a0 = 1) then some 6
    else some (-1))
   else bif decide (a0 = 10) then (bif decide (a0 = 10) then some 2
    else bif decide (a0 = 18) then some 4
    else bif decide (a0 = 17) then some 5
    else bif decide (a0 = 1) then some 6
    else some (-1))
   else bif decide (a0 = 11) then (bif decide (a0 = 11) then some 2
    else bif decide (a0 = 18) then some 4
    else bif decide (a0 = 17) then some 5
    else bif decide (a0 = 1) then some 6
    else some (-1))
   else bif decide (a0 = 12) then some 2
   else bif decide (a0 = 18) then some 4
   else bif decide (a0 = 17) then some 5
   else bif decide (a0 = 1) then some 6
   else some (-1))
  else bif decide (a0 = 7) then (bif decide (a0 = 7) then some 1
   else bif decide (a0 = 3) then (bif decide (a0 = 3) then some 2
    else bif decide (a0 = 18) then some 4
    else bif decide (a0 = 17) then some 5
    else bif decide (a0 = 1) then some 6
    else some (-1))
   else bif decide (a0 = 4) then (bif decide (a0 = 4) then some 2
    else bif decide (a0 = 18) then some 4
    else bif decide (a0 = 17) then some 5
    else bif decide (a0 = 1) then some 6
    else some (-1))
   else bif decide (a0 = 5) then (bif decide (a0 = 5) then some 2
    else bif decide (a0 = 18) then some 4
    else bif decide (a0 = 17) then some 5
    else bif decide (a0 = 1) then some 6
    else some (-1))
   else bif decide (a0 = 8) then (bif decide (a0 = 8) then some 2
    else bif decide (a0 = 18) then some 4
    else bif decide (a0 = 17) then some 5
    else bif decide (a0 = 1) then some 6
    else some (-1))
   else bif decide (a0 = 10) then (bif decide (a0 = 10) then some 2
    else bif decide (a0 = 18) then some 4
    else bif decide (a0 = 17) then some 5
    else bif decide (a0 = 1) then some 6
    else some (-1))
   else bif decide (a0 = 11) then (bif decide (a0 = 11) then some 2
    else bif decide (a0 = 18) then some 4
    else bif decide (a0 = 17) then some 5
    else bif decide (a0 = 1) then some 6
    else some (-1))
   else bif decide (a0 = 12) then some 2
   else bif decide (a0 = 18) then some 4
   else bif decide (a0 = 17) then some 5
   else bif decide (a0 = 1) then some 6
   else some (-1))
  else bif decide (a0 = 16) then (bif decide (a0 = 16) then some 1
   else bif decide (a0 = 3) then (bif decide (a0 = 3) then some 2
    else bif decide (a0 = 18) then some 4
    else bif decide (a0 = 17) then some 5
    else bif decide (a0 = 1) then some 6
    else some (-1))
   else bif decide (a0 = 4) then (bif decide (a0 = 4) then some 2
    else bif decide (a0 = 18) then some 4
    else bif decide (a0 = 17) then some 5
    else bif decide (a0 = 1) then some 6
    else some (-1))
   else bif decide (a0 = 5) then (bif decide (a0 = 5) then some 2
    else bif decide (a0 = 18) then some 4
    else bif decide (a0 = 17) then some 5
    else bif decide (a0 = 1) then some 6
    else some (-1))
   else bif decide (a0 = 8) then (bif decide (a0 = 8) then some 2
    else bif decide (a0 = 18) then some 4
    else bif decide (a0 = 17) then some 5
    else bif decide (a0 = 1) then some 6
    else some (-1))
   else bif decide (a0 = 10) then (bif decide (a0 = 10) then some 2
    else bif decide (a0 = 18) then some 4
    else bif decide (a0 = 17) then some 5
    else bif decide (a0 = 1) then some 6
    else some (-1))
   else bif decide (a0 = 11) then (bif decide (a0 = 11) then some 2
    else bif decide (a0 = 18) then some 4
    else bif decide (a0 = 17) then some 5
    else bif decide (a0 = 1) then some 6
    else some (-1))
   else bif decide (a0 = 12) then some 2
   else bif decide (a0 = 18) then some 4
   else bif decide (a0 = 17) then some 5
   else bif decide (a0 = 1) then some 6
   else some (-1))
  else bif decide (a0 = 19) then (bif decide (a0 = 19) then some 1
   else bif decide (a0 = 3) then (bif decide (a0 = 3) then some 2
    else bif decide (a0 = 18) then some 4
    else bif decide (a0 = 17) then some 5
    else bif decide (a0 = 1) then some 6
    else some (-1))
   else bif decide (a0 = 4) then (bif decide (a0 = 4) then some 2
    else bif decide (a0 = 18) then some 4
    else bif decide (a0 = 17) then some 5
    else bif decide (a0 = 1) then some 6
    else some (-1))
   else bif decide (a0 = 5) then (bif decide (a0 = 5) then some 2
    else bif decide (a0 = 18) then some 4
    else bif decide (a0 = 17) then some 5
    else bif decide (a0 = 1) then some 6
    else some (-1))
   else bif decide (a0 = 8) then (bif decide (a0 = 8) then some 2
    else bif decide (a0 = 18) then some 4
    else bif decide (a0 = 17) then some 5
    else bif decide (a0 = 1) then some 6
    else some (-1))
   else bif decide (a0 = 10) then (bif decide (a0 = 10) then some 2
    else bif decide (a0 = 18) then some 4
    else bif decide (a0 = 17) then some 5
    else bif decide (a0 = 1) then some 6
    else some (-1))
   else bif decide (a0 = 11) then (bif decide (a0 = 11) then some 2
    else bif decide (a0 = 18) then some 4
    else bif decide (a0 = 17) then some 5
    else bif decide (a0 = 1) then some 6
    else some (-1))
   else bif decide (a0 = 12) then some 2
   else bif decide (a0 = 18) then some 4
   else bif decide (a0 = 17) then some 5
   else bif decide (a0 = 1) then some 6
   else some (-1))
  else bif decide (a0 = 20) then (bif decide (a0 = 20) then some 1
   else bif decide (a0 = 3) then (bif decide (a0 = 3) then some 2
    else bif decide (a0 = 18) then some 4
    else bif decide (a0 = 17) then some 5
    else bif decide (a0 = 1) then some 6
    else some (-1))
   else bif decide (a0 = 4) then (bif decide (a0 = 4) then some 2
    else bif decide (a0 = 18) then some 4
    else bif decide (a0 = 17) then some 5
    else bif decide (a0 = 1) then some 6
    else some (-1))
   else bif decide (a0 = 5) then (bif decide (a0 = 5) then some 2
    else bif decide (a0 = 18) then some 4
    else bif decide (a0 = 17) then some 5
    else bif decide (a0 = 1) then some 6
    else some (-1))
   else bif decide (a0 = 8) then (bif decide (a0 = 8) then some 2
    else bif decide (a0 = 18) then some 4
    else bif decide (a0 = 17) then some 5
    else bif decide (a0 = 1) then some 6
    else some (-1))
   else bif decide (a0 = 10) then (bif decide (a0 = 10) then some 2
    else bif decide (a0 = 18) then some 4
    else bif decide (a0 = 17) then some 5
    else bif decide (a0 = 1) then some 6
    else some (-1))
   else bif decide (a0 = 11) then (bif decide (a0 = 11) then some 2
    else bif decide (a0 = 18) then some 4
    else bif decide (a0 = 17) then some 5
    else bif decide (a0 = 1) then some 6
    else some (-1))
   else bif decide (a0 = 12) then some 2
   else bif decide (a0 = 18) then some 4
   else bif decide (a0 = 17) then some 5
   else bif decide (a0 = 1) then some 6
   else some (-1))
  else bif decide (a0 = 21) then (bif decide (a0 = 21) then some 1
   else bif decide (a0 = 3) then (bif decide (a0 = 3) then some 2
    else bif decide (a0 = 18) then some 4
    else bif decide (a0 = 17) then some 5
    else bif decide (a0 = 1) then some 6
    else some (-1))
   else bif decide (a0 = 4) then (bif decide (a0 = 4) then some 2
    else bif decide (a0 = 18) then some 4
    else bif decide (a0 = 17) then some 5
    else bif decide (a0 = 1) then some 6
    else some (-1))
   else bif decide (a0 = 5) then (bif decide (a0 = 5) then some 2
    else bif decide (a0 = 18) then some 4
    else bif decide (a0 = 17) then some 5
    else bif decide (a0 = 1) then some 6
    else some (-1))
   else bif decide (a0 = 8) then (bif decide (a0 = 8) then some 2
    else bif decide (a0 = 18) then some 4
    else bif decide (a0 = 17) then some 5
    else bif decide (a0 = 1) then some 6
    else some (-1))
   else bif decide (a0 = 10) then (bif decide (a0 = 10) then some 2
    else bif decide (a0 = 18) then some 4
    else bif decide (a0 = 17) then some 5
    else bif decide (a0 = 1) then some 6
    else some (-1))
   else bif decide (a0 = 11) then (bif decide (a0 = 11) then some 2
    else bif decide (a0 = 18) then some 4
    else bif decide (a0 = 17) then some 5
    else bif decide (a0 = 1) then some 6
    else some (-1))
   else bif decide (a0 = 12) then some 2
   else bif decide (a0 = 18) then some 4
   else bif decide (a0 = 17) then some 5
   else bif decide (a0 = 1) then some 6
   else some (-1))
  else bif decide (a0 = 22) then (bif decide (a0 = 22) then some 1
   else bif decide (a0 = 3) then (bif decide (a0 = 3) then some 2
    else bif decide (a0 = 18) then some 4
    else bif decide (a0 = 17) then some 5
    else bif decide (a0 = 1) then some 6
    else some (-1))
   else bif decide (a0 = 4) then (bif decide (a0 = 4) then some 2
    else bif decide (a0 = 18) then some 4
    else bif decide (a0 = 17) then some 5
    else bif decide (a0 = 1) then some 6
    else some (-1))
   else bif decide (a0 = 5) then (bif decide (a0 = 5) then some 2
    else bif decide (a0 = 18) then some 4
    else bif decide (a0 = 17) then some 5
    else bif decide (a0 = 1) then some 6
    else some (-1))
   else bif decide (a0 = 8) then (bif decide (a0 = 8) then some 2
    else bif decide (a0 = 18) then some 4
    else bif decide (a0 = 17) then some 5
    else bif decide (a0 = 1) then some 6
    else some (-1))
   else bif decide (a0 = 10) then (bif decide (a0 = 10) then some 2
    else bif decide (a0 = 18) then some 4
    else bif decide (a0 = 17) then some 5
    else bif decide (a0 = 1) then some 6
    else some (-1))
   else bif decide (a0 = 11) then (bif decide (a0 = 11) then some 2
    else bif decide (a0 = 18) then some 4
    else bif decide (a0 = 17) then some 5
    else bif decide (a0 = 1) then some 6
    else some (-1))
   else bif decide (a0 = 12) then some 2
   else bif decide (a0 = 18) then some 4
   else bif decide (a0 = 17) then some 5
   else bif decide (a0 = 1) then some 6
   else some (-1))
  else bif decide (a0 = 23) then some 1
  else bif decide (a0 = 3) then (bif decide (a0 = 3) then some 2
   else bif decide (a0 = 18) then some 4
   else bif decide (a0 = 17) then some 5
   else bif decide (a0 = 1) then some 6
   else some (-1))
  else bif decide (a0 = 4) then (bif decide (a0 = 4) then some 2
   else bif decide (a0 = 18) then some 4
   else bif decide (a0 = 17) then some 5
   else bif decide (a0 = 1) then some 6
   else some (-1))
  else bif decide (a0 = 5) then (bif decide (a0 = 5) then some 2
   else bif decide (a0 = 18) then some 4
   else bif decide (a0 = 17) then some 5
   else bif decide (a0 = 1) then some 6
   else some (-1))
  else bif decide (a0 = 8) then (bif decide (a0 = 8) then some 2
   else bif decide (a0 = 18) then some 4
   else bif decide (a0 = 17) then some 5
   else bif decide (a0 = 1) then some 6
   else some (-1))
  else bif decide (a0 = 10) then (bif decide (a0 = 10) then some 2
   else bif decide (a0 = 18) then some 4
   else bif decide (a0 = 17) then some 5
   else bif decide (a0 = 1) then some 6
   else some (-1))
  else bif decide (a0 = 11) then (bif decide (a0 = 11) then some 2
   else bif decide (a0 = 18) then some 4
   else bif decide (a0 = 17) then some 5
   else bif decide (a0 = 1) then some 6
   else some (-1))
  else bif decide (a0 = 12) then some 2
  else bif decide (a0 = 18) then some 4
  else bif decide (a0 = 17) then some 5
  else bif decide (a0 = 1) then some 6
  else some (-1))
 else bif decide (a0 = 15) then some 0
 else bif decide (a0 = 2) then (bif decide (a0 = 2) then some 1
  else bif decide (a0 = 3) then (bif decide (a0 = 3) then some 2
   else bif decide (a0 = 18) then some 4
   else bif decide (a0 = 17) then some 5
   else bif decide (a0 = 1) then some 6
   else some (-1))
  else bif decide (a0 = 4) then (bif decide (a0 = 4) then some 2
   else bif decide (a0 = 18) then some 4
   else bif decide (a0 = 17) then some 5
   else bif decide (a0 = 1) then some 6
   else some (-1))
  else bif decide (a0 = 5) then (bif decide (a0 = 5) then some 2
   else bif decide (a0 = 18) then some 4
   else bif decide (a0 = 17) then some 5
   else bif decide (a0 = 1) then some 6
   else some (-1))
  else bif decide (a0 = 8) then (bif decide (a0 = 8) then some 2
   else bif decide (a0 = 18) then some 4
   else bif decide (a0 = 17) then some 5
   else bif decide (a0 = 1) then some 6
   else some (-1))
  else bif decide (a0 = 10) then (bif decide (a0 = 10) then some 2
   else bif decide (a0 = 18) then some 4
   else bif decide (a0 = 17) then some 5
   else bif decide (a0 = 1) then some 6
   else some (-1))
  else bif decide (a0 = 11) then (bif decide (a0 = 11) then some 2
   else bif decide (a0 = 18) then some 4
   else bif decide (a0 = 17) then some 5
   else bif decide (a0 = 1) then some 6
   else some (-1))
  else bif decide (a0 = 12) then some 2
  else bif decide (a0 = 18) then some 4
  else bif decide (a0 = 17) then some 5
  else bif decide (a0 = 1) then some 6
  else some (-1))
 else bif decide (a0 = 6) then (bif decide (a0 = 6) then some 1
  else bif decide (a0 = 3) then (bif decide (a0 = 3) then some 2
   else bif decide (a0 = 18) then some 4
   else bif decide (a0 = 17) then some 5
   else bif decide (a0 = 1) then some 6
   else some (-1))
  else bif decide (a0 = 4) then (bif decide (a0 = 4) then some 2
   else bif decide (a0 = 18) then some 4
   else bif decide (a0 = 17) then some 5
   else bif decide (a0 = 1) then some 6
   else some (-1))
  else bif decide (a0 = 5) then (bif decide (a0 = 5) then some 2
   else bif decide (a0 = 18) then some 4
   else bif decide (a0 = 17) then some 5
   else bif decide (a0 = 1) then some 6
   else some (-1))
  else bif decide (a0 = 8) then (bif decide (a0 = 8) then some 2
   else bif decide (a0 = 18) then some 4
   else bif decide (a0 = 17) then some 5
   else bif decide (a0 = 1) then some 6
   else some (-1))
  else bif decide (a0 = 10) then (bif decide (a0 = 10) then some 2
   else bif decide (a0 = 18) then some 4
   else bif decide (a0 = 17) then some 5
   else bif decide (a0 = 1) then some 6
   else some (-1))
  else bif decide (a0 = 11) then (bif decide (a0 = 11) then some 2
   else bif decide (a0 = 18) then some 4
   else bif decide (a0 = 17) then some 5
   else bif decide (a0 = 1) then some 6
   else some (-1))
  else bif decide (a0 = 12) then some 2
  else bif decide (a0 = 18) then some 4
  else bif decide (a0 = 17) then some 5
  else bif decide (a0 = 1) then some 6
  else some (-1))
 else bif decide (a0 = 7) then (bif decide (a0 = 7) then some 1
  else bif decide (a0 = 3) then (bif decide (a0 = 3) then some 2
   else bif decide (a0 = 18) then some 4
   else bif decide (a0 = 17) then some 5
   else bif decide (a0 = 1) then some 6
   else some (-1))
  else bif decide (a0 = 4) then (bif decide (a0 = 4) then some 2
   else bif decide (a0 = 18) then some 4
   else bif decide (a0 = 17) then some 5
   else bif decide (a0 = 1) then some 6
   else some (-1))
  else bif decide (a0 = 5) then (bif decide (a0 = 5) then some 2
   else bif decide (a0 = 18) then some 4
   else bif decide (a0 = 17) then some 5
   else bif decide (a0 = 1) then some 6
   else some (-1))
  else bif decide (a0 = 8) then (bif decide (a0 = 8) then some 2
   else bif decide (a0 = 18) then some 4
   else bif decide (a0 = 17) then some 5
   else bif decide (a0 = 1) then some 6
   else some (-1))
  else bif decide (a0 = 10) then (bif decide (a0 = 10) then some 2
   else bif decide (a0 = 18) then some 4
   else bif decide (a0 = 17) then some 5
   else bif decide (a0 = 1) then some 6
   else some (-1))
  else bif decide (a0 = 11) then (bif decide (a0 = 11) then some 2
   else bif decide (a0 = 18) then some 4
   else bif decide (a0 = 17) then some 5
   else bif decide (a0 = 1) then some 6
   else some (-1))
  else bif decide (a0 = 12) then some 2
  else bif decide (a0 = 18) then some 4
  else bif decide (a0 = 17) then some 5
  else bif decide (a0 = 1) then some 6
  else some (-1))
 else bif decide (a0 = 16) then (bif decide (a0 = 16) then some 1
  else bif decide (a0 = 3) then (bif decide (a0 = 3) then some 2
   else bif decide (a0 = 18) then some 4
   else bif decide (a0 = 17) then some 5
   else bif decide (a0 = 1) then some 6
   else some (-1))
  else bif decide (a0 = 4) then (bif decide (a0 = 4) then some 2
   else bif decide (a0 = 18) then some 4
   else bif decide (a0 = 17) then some 5
   else bif decide (a0 = 1) then some 6
   else some (-1))
  else bif decide (a0 = 5) then (bif decide (a0 = 5) then some 2
   else bif decide (a0 = 18) then some 4
   else bif decide (a0 = 17) then some 5
   else bif decide (a0 = 1) then some 6
   else some (-1))
  else bif decide (a0 = 8) then (bif decide (a0 = 8) then some 2
   else bif decide (a0 = 18) then some 4
   else bif decide (a0 = 17) then some 5
   else bif decide (a0 = 1) then some 6
   else some (-1))
  else bif decide (a0 = 10) then (bif decide (a0 = 10) then some 2
   else bif decide (a0 = 18) then some 4
   else bif decide (a0 = 17) then some 5
   else bif decide (a0 = 1) then some 6
   else some (-1))
  else bif decide (a0 = 11) then (bif decide (a0 = 11) then some 2
   else bif decide (a0 = 18) then some 4
   else bif decide (a0 = 17) then some 5
   else bif decide (a0 = 1) then some 6
   else some (-1))
  else bif decide (a0 = 12) then some 2
  else bif decide (a0 = 18) then some 4
  else bif decide (a0 = 17) then some 5
  else bif decide (a0 = 1) then some 6
  else some (-1))
 else bif decide (a0 = 19) then (bif decide (a0 = 19) then some 1
  else bif decide (a0 = 3) then (bif decide (a0 = 3) then some 2
   else bif decide (a0 = 18) then some 4
   else bif decide (a0 = 17) then some 5
   else bif decide (a0 = 1) then some 6
   else some (-1))
  else bif decide (a0 = 4) then (bif decide (a0 = 4) then some 2
   else bif decide (a0 = 18) then some 4
   else bif decide (a0 = 17) then some 5
   else bif decide (a0 = 1) then some 6
   else some (-1))
  else bif decide (a0 = 5) then (bif decide (a0 = 5) then some 2
   else bif decide (a0 = 18) then some 4
   else bif decide (a0 = 17) then some 5
   else bif decide (a0 = 1) then some 6
   else some (-1))
  else bif decide (a0 = 8) then (bif decide (a0 = 8) then some 2
   else bif decide (a0 = 18) then some 4
   else bif decide (a0 = 17) then some 5
   else bif decide (a0 = 1) then some 6
   else some (-1))
  else bif decide (a0 = 10) then (bif decide (a0 = 10) then some 2
   else bif decide (a0 = 18) then some 4
   else bif decide (a0 = 17) then some 5
   else bif decide (a0 = 1) then some 6
   else some (-1))
  else bif decide (a0 = 11) then (bif decide (a0 = 11) then some 2
   else bif decide (a0 = 18) then some 4
   else bif decide (a0 = 17) then some 5
   else bif decide (a0 = 1) then some 6
   else some (-1))
  else bif decide (a0 = 12) then some 2
  else bif decide (a0 = 18) then some 4
  else bif decide (a0 = 17) then some 5
  else bif decide (a0 = 1) then some 6
  else some (-1))
 else bif decide (a0 = 20) then (bif decide (a0 = 20) then some 1
  else bif decide (a0 = 3) then (bif decide (a0 = 3) then some 2
   else bif decide (a0 = 18) then some 4
   else bif decide (a0 = 17) then some 5
   else bif decide (a0 = 1) then some 6
   else some (-1))
  else bif decide (a0 = 4) then (bif decide (a0 = 4) then some 2
   else bif decide (a0 = 18) then some 4
   else bif decide (a0 = 17) then some 5
   else bif decide (a0 = 1) then some 6
   else some (-1))
  else bif decide (a0 = 5) then (bif decide (a0 = 5) then some 2
   else bif decide (a0 = 18) then some 4
   else bif decide (a0 = 17) then some 5
   else bif decide (a0 = 1) then some 6
   else some (-1))
  else bif decide (a0 = 8) then (bif decide (a0 = 8) then some 2
   else bif decide (a0 = 18) then some 4
   else bif decide (a0 = 17) then some 5
   else bif decide (a0 = 1) then some 6
   else some (-1))
  else bif decide (a0 = 10) then (bif decide (a0 = 10) then some 2
   else bif decide (a0 = 18) then some 4
   else bif decide (a0 = 17) then some 5
   else bif decide (a0 = 1) then some 6
   else some (-1))
  else bif decide (a0 = 11) then (bif decide (a0 = 11) then some 2
   else bif decide (a0 = 18) then some 4
   else bif decide (a0 = 17) then some 5
   else bif decide (a0 = 1) then some 6
   else some (-1))
  else bif decide (a0 = 12) then some 2
  else bif decide (a0 = 18) then some 4
  else bif decide (a0 = 17) then some 5
  else bif decide (a0 = 1) then some 6
  else some (-1))
 else bif decide (a0 = 21) then (bif decide (a0 = 21) then some 1
  else bif decide (a0 = 3) then (bif decide (a0 = 3) then some 2
   else bif decide (a0 = 18) then some 4
   else bif decide (a0 = 17) then some 5
   else bif decide (a0 = 1) then some 6
   else some (-1))
  else bif decide (a0 = 4) then (bif decide (a0 = 4) then some 2
   else bif decide (a0 = 18) then some 4
   else bif decide (a0 = 17) then some 5
   else bif decide (a0 = 1) then some 6
   else some (-1))
  else bif decide (a0 = 5) then (bif decide (a0 = 5) then some 2
   else bif decide (a0 = 18) then some 4
   else bif decide (a0 = 17) then some 5
   else bif decide (a0 = 1) then some 6
   else some (-1))
  else bif decide (a0 = 8) then (bif decide (a0 = 8) then some 2
   else bif decide (a0 = 18) then some 4
   else bif decide (a0 = 17) then some 5
   else bif decide (a0 = 1) then some 6
   else some (-1))
  else bif decide (a0 = 10) then (bif decide (a0 = 10) then some 2
   else bif decide (a0 = 18) then some 4
   else bif decide (a0 = 17) then some 5
   else bif decide (a0 = 1) then some 6
   else some (-1))
  else bif decide (a0 = 11) then (bif decide (a0 = 11) then some 2
   else bif decide (a0 = 18) then some 4
   else bif decide (a0 = 17) then some 5
   else bif decide (a0 = 1) then some 6
   else some (-1))
  else bif decide (a0 = 12) then some 2
  else bif decide (a0 = 18) then some 4
  else bif decide (a0 = 17) then some 5
  else bif decide (a0 = 1) then some 6
  else some (-1))
 else bif decide (a0 = 22) then (bif decide (a0 = 22) then some 1
  else bif decide (a0 = 3) then (bif decide (a0 = 3) then some 2
   else bif decide (a0 = 18) then some 4
   else bif decide (a0 = 17) then some 5
   else bif decide (a0 = 1) then some 6
   else some (-1))
  else bif decide (a0 = 4) then (bif decide (a0 = 4) then some 2
   else bif decide (a0 = 18) then some 4
   else bif decide (a0 = 17) then some 5
   else bif decide (a0 = 1) then some 6
   else some (-1))
  else bif decide (a0 = 5) then (bif decide (a0 = 5) then some 2
   else bif decide (a0 = 18) then some 4
   else bif decide (a0 = 17) then some 5
   else bif decide (a0 = 1) then some 6
   else some (-1))
  else bif decide (a0 = 8) then (bif decide (a0 = 8) then some 2
   else bif decide (a0 = 18) then some 4
   else bif decide (a0 = 17) then some 5
   else bif decide (a0 = 1) then some 6
   else some (-1))
  else bif decide (a0 = 10) then (bif decide (a0 = 10) then some 2
   else bif decide (a0 = 18) then some 4
   else bif decide (a0 = 17) then some 5
   else bif decide (a0 = 1) then some 6
   else some (-1))
  else bif decide (a0 = 11) then (bif decide (a0 = 11) then some 2
   else bif decide (a0 = 18) then some 4
   else bif decide (a0 = 17) then some 5
   else bif decide (a0 = 1) then some 6
   else some (-1))
  else bif decide (a0 = 12) then some 2
  else bif decide (a0 = 18) then some 4
  else bif decide (a0 = 17) then some 5
  else bif decide (a0 = 1) then some 6
  else some (-1))
 else bif decide (a0 = 23) then some 1
 else bif decide (a0 = 3) then (bif decide (a0 = 3) then some 2
  else bif decide (a0 = 18) then some 4
  else bif decide (a0 = 17) then some 5
  else bif decide (a0 = 1) then some 6
  else some (-1))
 else bif decide (a0 = 4) then (bif decide (a0 = 4) then some 2
  else bif decide (a0 = 18) then some 4
  else bif decide (a0 = 17) then some 5
  else bif decide (a0 = 1) then some 6
  else some (-1))
 else bif decide (a0 = 5) then (bif decide (a0 = 5) then some 2
  else bif decide (a0 = 18) then some 4
  else bif decide (a0 = 17) then some 5
  else bif decide (a0 = 1) then some 6
  else some (-1))
 else bif decide (a0 = 8) then (bif decide (a0 = 8) then some 2
  else bif decide (a0 = 18) then some 4
  else bif decide (a0 = 17) then some 5
  else bif decide (a0 = 1) then some 6
  else some (-1))
 else bif decide (a0 = 10) then (bif decide (a0 = 10) then some 2
  else bif decide (a0 = 18) then some 4
  else bif decide (a0 = 17) then some 5
  else bif decide (a0 = 1) then some 6
  else some (-1))
 else bif decide (a0 = 11) then (bif decide (a0 = 11) then some 2
  else bif decide (a0 = 18) then some 4
  else bif decide (a0 = 17) then some 5
  else bif decide (a0 = 1) then some 6
  else some (-1))
 else bif decide (a0 = 12) then some 2
 else bif decide (a0 = 18) then some 4
 else bif decide (a0 = 17) then some 5
 else bif decide (a0 = 1) then some 6
 else some (-1)

abbrev msg_Is_L0T : Type := List Int → Int → Int → Option (Unit ⊕ Bool)
def msg_Is_L0b (k : Nat) (rec : msg_Is_L0T) (s13 : List Int) (s14 : Int) (s15 : Int) : Option (Unit ⊕ Bool) :=
 bif decide (s15 < s14) then (bif boundOk s15 s13.length then (bif !(decide ((s13.getD s15.toNat 0) = 0)) then some (.inr false)
   else rec s13 s14 (w64 (s15 + 1)))
  else none)
 else some (.inl ())
def msg_Is_L0 (k : Nat) : Nat → msg_Is_L0T
 | 0, _, _, _ => none
 | n + 1, s13, s14, s15 => msg_Is_L0b k (msg_Is_L0 k n) s13 s14 s15
/-- giro/msg.Is -/
def msg_Is (k : Nat) (a0Kind : Int) (a0F0 : Int) (a0F1 : Int) (a0F2 : Int) (a0F3 : Int) (a0F4 : Int) (a0F5 : Int) : Option Bool :=
 (msg_Many k a0Kind).bind fun x0 =>
 bif decide (x0 < 0) then some false
 else bif (decide (0 ≤ x0)) && (decide (x0 ≤ 6)) then ((msg_Is_L0 k k (slc [a0F0, a0F1, a0F2, a0F3, a0F4, a0F5] x0.toNat (6 - x0.toNat)) ((slc [a0F0, a0F1, a0F2, a0F3, a0F4, a0F5] x0.toNat (6 - x0.toNat)).length : Int) 0).bind fun z =>
  match z with
  | .inl z1 => some true
  | .inr z2 => some z2)
 else none

/-- giro/core.may -/
def core_may (k : Nat) (a0Parties : Int) (a0Assets : List K5q) (a0Cutoff : Int) (a0Close : Int) (a0Period : Int) (a1Tick : Int) (a1BooksAccts : List K4q) (a1BooksBil : List (List Int)) (a1BooksMul : List Int) (a1BooksPos : List (List Int)) (a1Prices : List Int) (a1Holds : List (List Int)) (a1Pays : List K3q) (a1IDs : List Int) (a1Total : Int) (a1Over : Bool) (a2Who : Int) (a2MsgKind : Int) (a2MsgF0 : Int) (a2MsgF1 : Int) (a2MsgF2 : Int) (a2MsgF3 : Int) (a2MsgF4 : Int) (a2MsgF5 : Int) : Option Int :=
 (msg_Host k a2MsgKind).bind fun x0 =>
 bif decide (a2Who ≥ 0) then ((msg_Asked k a2MsgKind).bind fun x1 =>
  bif !x1 then some 5
  else (msg_Is k a2MsgKind a2MsgF0 a2MsgF1 a2MsgF2 a2MsgF3 a2MsgF4 a2MsgF5).bind fun x2 =>
  bif !x2 then some 5
  else bif x0 then (bif !(decide (a2Who = (-1))) then some 5
   else bif !x0 then (bif !(decide (a2Who < a0Parties)) then some 5
    else bif a1Over then (bif !(decide (a2MsgKind = 9)) then some 7
     else some 0)
    else some 0)
   else bif a1Over then (bif !(decide (a2MsgKind = 9)) then some 7
    else some 0)
   else some 0)
  else bif !x0 then (bif !(decide (a2Who < a0Parties)) then some 5
   else bif a1Over then (bif !(decide (a2MsgKind = 9)) then some 7
    else some 0)
   else some 0)
  else bif a1Over then (bif !(decide (a2MsgKind = 9)) then some 7
   else some 0)
  else some 0)
 else (msg_Asked k a2MsgKind).bind fun x3 =>
 bif !x3 then some 5
 else (msg_Is k a2MsgKind a2MsgF0 a2MsgF1 a2MsgF2 a2MsgF3 a2MsgF4 a2MsgF5).bind fun x4 =>
 bif !x4 then some 5
 else bif x0 then (bif !(decide (a2Who = (-1))) then some 5
  else bif !x0 then some 5
  else bif a1Over then (bif !(decide (a2MsgKind = 9)) then some 7
   else some 0)
  else some 0)
 else bif !x0 then some 5
 else bif a1Over then (bif !(decide (a2MsgKind = 9)) then some 7
  else some 0)
 else some 0

/-- giro/view.Of$1 -/
def view_Of_fn1 (k : Nat) (a0ID : Int) (a0From : Int) (a0To : Int) (a0Amount : Int) (a0Class : Int) (a0Start : Int) (a0Till : Int) (a1 : Int) : Option Bool :=
 some (decide (a0From = a1))

abbrev view_all__view_Of_fn1_L0X : Type := List K3q
abbrev view_all__view_Of_fn1_L0T : Type := List K3q → Int → Int → Int → List K3q → Option view_all__view_Of_fn1_L0X
def view_all__view_Of_fn1_L0b (k : Nat) (rec : view_all__view_Of_fn1_L0T) (s8 : List K3q) (s9 : Int) (s10 : Int) (b0_0 : Int) (r1 : List K3q) : Option view_all__view_Of_fn1_L0X :=
 bif decide (s10 < s9) then (bif boundOk s10 s8.length then ((view_Of_fn1 k (s8.getD s10.toNat (0, 0, 0, 0, 0, 0, 0)).1 (s8.getD s10.toNat (0, 0, 0, 0, 0, 0, 0)).2.1 (s8.getD s10.toNat (0, 0, 0, 0, 0, 0, 0)).2.2.1 (s8.getD s10.toNat (0, 0, 0, 0, 0, 0, 0)).2.2.2.1 (s8.getD s10.toNat (0, 0, 0, 0, 0, 0, 0)).2.2.2.2.1 (s8.getD s10.toNat (0, 0, 0, 0, 0, 0, 0)).2.2.2.2.2.1 (s8.getD s10.toNat (0, 0, 0, 0, 0, 0, 0)).2.2.2.2.2.2 b0_0).bind fun x0 =>
   bif x0 then (bif roomB (r1.length + 1) 56 then (let y0 : List K3q := (r1 ++ [(s8.getD s10.toNat (0, 0, 0, 0, 0, 0, 0))])
     rec s8 s9 (w64 (s10 + 1)) b0_0 y0)
    else none)
   else rec s8 s9 (w64 (s10 + 1)) b0_0 r1)
  else none)
 else some r1
def view_all__view_Of_fn1_L0 (k : Nat) : Nat → view_all__view_Of_fn1_L0T
 | 0, _, _, _, _, _ => none
 | n + 1, s8, s9, s10, b0_0, r1 => view_all__view_Of_fn1_L0b k (view_all__view_Of_fn1_L0 k n) s8 s9 s10 b0_0 r1
/-- giro/view.all -/
def view_all__view_Of_fn1 (k : Nat) (a0 : List K3q) (a1_0 : Int) : Option (List K3q) :=
 (view_all__view_Of_fn1_L0 k k a0 (a0.length : Int) 0 a1_0 []).bind fun z =>
 some z

/-- giro/view.Of -/
def view_Of (k : Nat) (a0 : List K3q) (a1 : Int) : Option (List K3q) :=
 (view_all__view_Of_fn1 k a0 a1).bind fun x0 =>
 some x0

/-- (*giro/core.desk).tells -/
def core_desk_tells (k : Nat) (a0rParties : Int) (a0rAssets : List K5q) (a0rCutoff : Int) (a0rClose : Int) (a0rPeriod : Int) (a0sTick : Int) (a0sBooksAccts : List K4q) (a0sBooksBil : List (List Int)) (a0sBooksMul : List Int) (a0sBooksPos : List (List Int)) (a0sPrices : List Int) (a0sHolds : List (List Int)) (a0sPays : List K3q) (a0sIDs : List Int) (a0sTotal : Int) (a0sOver : Bool) (a0who : Int) (a0l : List K2q) (a1 : Int) (a2 : List Int) : Option Unit :=
 none

/-- giro/core.query -/
def core_query (k : Nat) (a0Tick : Int) (a0BooksAccts : List K4q) (a0BooksBil : List (List Int)) (a0BooksMul : List Int) (a0BooksPos : List (List Int)) (a0Prices : List Int) (a0Holds : List (List Int)) (a0Pays : List K3q) (a0IDs : List Int) (a0Total : Int) (a0Over : Bool) (a1 : Int) : Option (List K2q) :=
 bif boundOk a1 a0BooksAccts.length then ((view_Of k a0Pays a1).bind fun x0 =>
  (core_desk_tells k 0 [] 0 0 0 0 [] [] [] [] [] [] [] [] 0 false a1 [] 17 [(a0BooksAccts.getD a1.toNat (0, 0, 0)).1, (a0BooksAccts.getD a1.toNat (0, 0, 0)).2.1, (a0BooksAccts.getD a1.toNat (0, 0, 0)).2.2, (x0.length : Int), a0Tick]).bind fun x1 =>
  some [])
 else none

/-- slices.Clone[[]giro/api.Pay,giro/api.Pay] -/
def slices_Clone_Pay (k : Nat) (a0 : List K3q) : Option (List K3q) :=
 bif roomB (0 + a0.length) 56 then some a0
 else none

/-- slices.Delete[[]giro/api.Pay,giro/api.Pay] -/
def slices_Delete_Pay (k : Nat) (a0 : List K3q) (a1 : Int) (a2 : Int) : Option (List K3q) :=
 bif ((((decide (0 ≤ a1)) && (decide (a1 ≤ a2))) && (decide (a2 ≤ (a0.length : Int)))) && (decide (((a2.toNat : Nat) : Int) ≤ (a0.length : Int)))) && (decide ((a0.length : Int) ≤ (a0.length : Int))) then (bif decide (a1 = a2) then some a0
  else bif (decide (0 ≤ a1)) && (decide (a1 ≤ (a0.length : Int))) then (bif (decide (0 ≤ a2)) && (decide (a2 ≤ (a0.length : Int))) then (bif Nat.ble (a1.toNat - 0) (0 + a2.toNat) then (let y0 : List K3q := (((List.take (a1.toNat - 0) a0) ++ (slc a0 (0 + a2.toNat) (a0.length - a2.toNat))) ++ (List.drop ((a1.toNat - 0) + (a0.length - a2.toNat)) a0))
     bif ((decide (0 ≤ ((slc y0 0 ((a1.toNat - 0) + (a0.length - a2.toNat))).length : Int))) && (decide (((slc y0 0 ((a1.toNat - 0) + (a0.length - a2.toNat))).length : Int) ≤ (a0.length : Int)))) && (decide ((a0.length : Int) ≤ (((y0.length - 0) : Nat) : Int))) then (let y1 : List K3q := (((List.take (0 + (slc y0 0 ((a1.toNat - 0) + (a0.length - a2.toNat))).length) y0) ++ (List.replicate (a0.length - (slc y0 0 ((a1.toNat - 0) + (a0.length - a2.toNat))).length) ((0, 0, 0, 0, 0, 0, 0) : Int × Int × Int × Int × Int × Int × Int))) ++ (List.drop ((0 + (slc y0 0 ((a1.toNat - 0) + (a0.length - a2.toNat))).length) + (a0.length - (slc y0 0 ((a1.toNat - 0) + (a0.length - a2.toNat))).length)) y0))
      some (List.take ((a1.toNat - 0) + (a0.length - a2.toNat)) y1))
     else none)
    else none)
   else none)
  else none)
 else none

/-- giro/row.Drop -/
def row_Drop (k : Nat) (a0 : List K3q) (a1 : Int) : Option ((List K3q) × Int × Int × Int × Int × Int × Int × Int × Int) :=
 (row_Find k a0 a1).bind fun x0 =>
 bif decide (x0 < 0) then some (a0, 0, 0, 0, 0, 0, 0, 0, 4)
 else (slices_Clone_Pay k a0).bind fun x1 =>
 (slices_Delete_Pay k x1 x0 (w64 (x0 + 1))).bind fun x2 =>
 bif boundOk x0 a0.length then some (x2, (a0.getD x0.toNat (0, 0, 0, 0, 0, 0, 0)).1, (a0.getD x0.toNat (0, 0, 0, 0, 0, 0, 0)).2.1, (a0.getD x0.toNat (0, 0, 0, 0, 0, 0, 0)).2.2.1, (a0.getD x0.toNat (0, 0, 0, 0, 0, 0, 0)).2.2.2.1, (a0.getD x0.toNat (0, 0, 0, 0, 0, 0, 0)).2.2.2.2.1, (a0.getD x0.toNat (0, 0, 0, 0, 0, 0, 0)).2.2.2.2.2.1, (a0.getD x0.toNat (0, 0, 0, 0, 0, 0, 0)).2.2.2.2.2.2, 0)
 else none

/-- (*giro/core.desk).does -/
def core_desk_does (k : Nat) (a0rParties : Int) (a0rAssets : List K5q) (a0rCutoff : Int) (a0rClose : Int) (a0rPeriod : Int) (a0sTick : Int) (a0sBooksAccts : List K4q) (a0sBooksBil : List (List Int)) (a0sBooksMul : List Int) (a0sBooksPos : List (List Int)) (a0sPrices : List Int) (a0sHolds : List (List Int)) (a0sPays : List K3q) (a0sIDs : List Int) (a0sTotal : Int) (a0sOver : Bool) (a0who : Int) (a0l : List K2q) (a1Kind : Int) (a1F0 : Int) (a1F1 : Int) (a1F2 : Int) (a1F3 : Int) (a1F4 : Int) (a1F5 : Int) : Option Int :=
 bif decide (a1Kind = 1) then none
 else bif decide (a1Kind = 2) then (bif decide (a1Kind = 2) then none
  else bif decide (a1Kind = 5) then (bif decide (a1Kind = 5) then none
   else bif decide (a1Kind = 8) then none
   else bif decide (a1Kind = 10) then (bif decide (a1Kind = 10) then none
    else bif decide (a1Kind = 12) then none
    else some 0)
   else bif decide (a1Kind = 11) then none
   else bif decide (a1Kind = 12) then none
   else some 0)
  else bif decide (a1Kind = 6) then (bif decide (a1Kind = 6) then none
   else bif decide (a1Kind = 8) then none
   else bif decide (a1Kind = 10) then (bif decide (a1Kind = 10) then none
    else bif decide (a1Kind = 12) then none
    else some 0)
   else bif decide (a1Kind = 11) then none
   else bif decide (a1Kind = 12) then none
   else some 0)
  else bif decide (a1Kind = 7) then none
  else bif decide (a1Kind = 8) then none
  else bif decide (a1Kind = 10) then (bif decide (a1Kind = 10) then none
   else bif decide (a1Kind = 12) then none
   else some 0)
  else bif decide (a1Kind = 11) then none
  else bif decide (a1Kind = 12) then none
  else some 0)
 else bif decide (a1Kind = 3) then (bif decide (a1Kind = 3) then none
  else bif decide (a1Kind = 5) then (bif decide (a1Kind = 5) then none
   else bif decide (a1Kind = 8) then none
   else bif decide (a1Kind = 10) then (bif decide (a1Kind = 10) then none
    else bif decide (a1Kind = 12) then none
    else some 0)
   else bif decide (a1Kind = 11) then none
   else bif decide (a1Kind = 12) then none
   else some 0)
  else bif decide (a1Kind = 6) then (bif decide (a1Kind = 6) then none
   else bif decide (a1Kind = 8) then none
   else bif decide (a1Kind = 10) then (bif decide (a1Kind = 10) then none
    else bif decide (a1Kind = 12) then none
    else some 0)
   else bif decide (a1Kind = 11) then none
   else bif decide (a1Kind = 12) then none
   else some 0)
  else bif decide (a1Kind = 7) then none
  else bif decide (a1Kind = 8) then none
  else bif decide (a1Kind = 10) then (bif decide (a1Kind = 10) then none
   else bif decide (a1Kind = 12) then none
   else some 0)
  else bif decide (a1Kind = 11) then none
  else bif decide (a1Kind = 12) then none
  else some 0)
 else bif decide (a1Kind = 4) then none
 else bif decide (a1Kind = 5) then (bif decide (a1Kind = 5) then none
  else bif decide (a1Kind = 8) then none
  else bif decide (a1Kind = 10) then (bif decide (a1Kind = 10) then none
   else bif decide (a1Kind = 12) then none
   else some 0)
  else bif decide (a1Kind = 11) then none
  else bif decide (a1Kind = 12) then none
  else some 0)
 else bif decide (a1Kind = 6) then (bif decide (a1Kind = 6) then none
  else bif decide (a1Kind = 8) then none
  else bif decide (a1Kind = 10) then (bif decide (a1Kind = 10) then none
   else bif decide (a1Kind = 12) then none
   else some 0)
  else bif decide (a1Kind = 11) then none
  else bif decide (a1Kind = 12) then none
  else some 0)
 else bif decide (a1Kind = 7) then none
 else bif decide (a1Kind = 8) then none
 else bif decide (a1Kind = 10) then (bif decide (a1Kind = 10) then none
  else bif decide (a1Kind = 12) then none
  else some 0)
 else bif decide (a1Kind = 11) then none
 else bif decide (a1Kind = 12) then none
 else some 0

/-- giro/hour.out -/
def hour_out (k : Nat) (a0 : Int) (a1 : Int) (a2 : List Int) : Option K2q :=
 some (a0, a1, (bif (Nat.blt 0 a2.length) then (a2.getD 0 0) else 0), (bif (Nat.blt 1 a2.length) then (a2.getD 1 0) else 0), (bif (Nat.blt 2 a2.length) then (a2.getD 2 0) else 0), (bif (Nat.blt 3 a2.length) then (a2.getD 3 0) else 0), (bif (Nat.blt 4 a2.length) then (a2.getD 4 0) else 0), (bif (Nat.blt 5 a2.length) then (a2.getD 5 0) else 0))

abbrev hour_ends_L0X : Type := Int × (List K4q) × (List (List Int)) × (List Int) × (List (List Int)) × (List Int) × (List (List Int)) × (List K3q) × (List Int) × Int × Bool × Int × Int × Bool × (List K2q)
abbrev hour_ends_L0T : Type := List K3q → Int → Int → Int → List K4q → List (List Int) → List Int → List (List Int) → List Int → List (List Int) → List K3q → List Int → Int → Bool → Int → Int → Bool → List K2q → Option hour_ends_L0X
def hour_ends_L0b (k : Nat) (rec : hour_ends_L0T) (s10 : List K3q) (s11 : Int) (s12 : Int) (b0_0 : Int) (b0_1 : List K4q) (b0_2 : List (List Int)) (b0_3 : List Int) (b0_4 : List (List Int)) (b0_5 : List Int) (b0_6 : List (List Int)) (b0_7 : List K3q) (b0_8 : List Int) (b0_9 : Int) (b0_10 : Bool) (b1_0 : Int) (b1_9 : Int) (b1_10 : Bool) (r2 : List K2q) : Option hour_ends_L0X :=
 bif decide (s12 < s11) then (bif boundOk s12 s10.length then ((hour_out k (s10.getD s12.toNat (0, 0, 0, 0, 0, 0, 0)).2.1 22 [(s10.getD s12.toNat (0, 0, 0, 0, 0, 0, 0)).1]).bind fun x0 =>
   bif roomB (r2.length + 1) 64 then (rec s10 s11 (w64 (s12 + 1)) b0_0 b0_1 b0_2 b0_3 b0_4 b0_5 b0_6 b0_7 b0_8 b0_9 b0_10 b1_0 b1_9 b1_10 (r2 ++ [x0]))
   else none)
  else none)
 else some (b0_0, b0_1, b0_2, b0_3, b0_4, b0_5, b0_6, b0_7, b0_8, b0_9, b0_10, b1_0, b1_9, b1_10, r2)
def hour_ends_L0 (k : Nat) : Nat → hour_ends_L0T
 | 0, _, _, _, _, _, _, _, _, _, _, _, _, _, _, _, _, _, _ => none
 | n + 1, s10, s11, s12, b0_0, b0_1, b0_2, b0_3, b0_4, b0_5, b0_6, b0_7, b0_8, b0_9, b0_10, b1_0, b1_9, b1_10, r2 => hour_ends_L0b k (hour_ends_L0 k n) s10 s11 s12 b0_0 b0_1 b0_2 b0_3 b0_4 b0_5 b0_6 b0_7 b0_8 b0_9 b0_10 b1_0 b1_9 b1_10 r2
abbrev hour_ends_L1X : Type := Int × (List K4q) × (List (List Int)) × (List Int) × (List (List Int)) × (List Int) × (List (List Int)) × (List K3q) × (List Int) × Int × Bool × Int × Int × Bool × (List K2q)
abbrev hour_ends_L1T : Type := List K4q → Int → Int → Int → List K4q → List (List Int) → List Int → List (List Int) → List Int → List (List Int) → List K3q → List Int → Int → Bool → Int → Int → Bool → List K2q → Option hour_ends_L1X
def hour_ends_L1b (k : Nat) (rec : hour_ends_L1T) (s28 : List K4q) (s29 : Int) (s30 : Int) (b0_0 : Int) (b0_1 : List K4q) (b0_2 : List (List Int)) (b0_3 : List Int) (b0_4 : List (List Int)) (b0_5 : List Int) (b0_6 : List (List Int)) (b0_7 : List K3q) (b0_8 : List Int) (b0_9 : Int) (b0_10 : Bool) (b1_0 : Int) (b1_9 : Int) (b1_10 : Bool) (r2 : List K2q) : Option hour_ends_L1X :=
 bif decide (s30 < s29) then (bif boundOk s30 s28.length then ((hour_out k s30 23 [(s28.getD s30.toNat (0, 0, 0)).1]).bind fun x1 =>
   bif roomB (r2.length + 1) 64 then (rec s28 s29 (w64 (s30 + 1)) b0_0 b0_1 b0_2 b0_3 b0_4 b0_5 b0_6 b0_7 b0_8 b0_9 b0_10 b1_0 b1_9 b1_10 (r2 ++ [x1]))
   else none)
  else none)
 else some (b0_0, b0_1, b0_2, b0_3, b0_4, b0_5, b0_6, b0_7, b0_8, b0_9, b0_10, b1_0, b1_9, b1_10, r2)
def hour_ends_L1 (k : Nat) : Nat → hour_ends_L1T
 | 0, _, _, _, _, _, _, _, _, _, _, _, _, _, _, _, _, _, _ => none
 | n + 1, s28, s29, s30, b0_0, b0_1, b0_2, b0_3, b0_4, b0_5, b0_6, b0_7, b0_8, b0_9, b0_10, b1_0, b1_9, b1_10, r2 => hour_ends_L1b k (hour_ends_L1 k n) s28 s29 s30 b0_0 b0_1 b0_2 b0_3 b0_4 b0_5 b0_6 b0_7 b0_8 b0_9 b0_10 b1_0 b1_9 b1_10 r2
/-- giro/hour.ends -/
def hour_ends (k : Nat) (a0Tick : Int) (a0BooksAccts : List K4q) (a0BooksBil : List (List Int)) (a0BooksMul : List Int) (a0BooksPos : List (List Int)) (a0Prices : List Int) (a0Holds : List (List Int)) (a0Pays : List K3q) (a0IDs : List Int) (a0Total : Int) (a0Over : Bool) : Option (Int × (List K4q) × (List (List Int)) × (List Int) × (List (List Int)) × (List Int) × (List (List Int)) × (List K3q) × (List Int) × Int × Bool × (List K2q)) :=
 (hour_ends_L0 k k a0Pays (a0Pays.length : Int) 0 a0Tick a0BooksAccts a0BooksBil a0BooksMul a0BooksPos a0Prices a0Holds a0Pays a0IDs a0Total a0Over 0 0 false []).bind fun z =>
 (hour_ends_L1 k k z.2.1 (z.2.1.length : Int) 0 z.1 z.2.1 z.2.2.1 z.2.2.2.1 z.2.2.2.2.1 z.2.2.2.2.2.1 z.2.2.2.2.2.2.1 z.2.2.2.2.2.2.2.1 z.2.2.2.2.2.2.2.2.1 z.2.2.2.2.2.2.2.2.2.1 z.2.2.2.2.2.2.2.2.2.2.1 z.2.2.2.2.2.2.2.2.2.2.2.1 z.2.2.2.2.2.2.2.2.2.2.2.2.1 z.2.2.2.2.2.2.2.2.2.2.2.2.2.1 z.2.2.2.2.2.2.2.2.2.2.2.2.2.2).bind fun z1 =>
 some (z1.1, z1.2.1, z1.2.2.1, z1.2.2.2.1, z1.2.2.2.2.1, z1.2.2.2.2.2.1, z1.2.2.2.2.2.2.1, [], z1.2.2.2.2.2.2.2.2.1, z1.2.2.2.2.2.2.2.2.2.1, true, z1.2.2.2.2.2.2.2.2.2.2.2.2.2.2)

/-- giro/pay.Late -/
def pay_Late (k : Nat) (a0ID : Int) (a0From : Int) (a0To : Int) (a0Amount : Int) (a0Class : Int) (a0Start : Int) (a0Till : Int) (a1 : Int) : Option Bool :=
 some (decide (a1 > a0Till))

/-- giro/day.Solves -/
def day_Solves (k : Nat) (a0Parties : Int) (a0Assets : List K5q) (a0Cutoff : Int) (a0Close : Int) (a0Period : Int) (a1 : Int) : Option Bool :=
 bif decide (a1 > 0) then (bif decide (a1 < a0Close) then (bif !(decide (a0Period = 0)) then some (decide ((Int.tmod a1 a0Period) = 0))
   else none)
  else some false)
 else some false

abbrev free_Run_L0X : Type := (List K3q) × (List K4q) × (List (List Int)) × (List Int) × (List (List Int)) × (List K3q)
abbrev free_Run_L0T : Type := Int → List K3q → List K4q → List (List Int) → List Int → List (List Int) → List K3q → Option free_Run_L0X
def free_Run_L0b (k : Nat) (rec : free_Run_L0T) (s2 : Int) (s7 : List K3q) (b0_0 : List K4q) (b0_1 : List (List Int)) (b0_2 : List Int) (b0_3 : List (List Int)) (r1 : List K3q) : Option free_Run_L0X :=
 (free_next k b0_0 b0_1 b0_2 b0_3 s7 s2).bind fun x0 =>
 bif !x0.2.2.2.2.2.2.2.2.2.2.2 then some (s7, b0_0, b0_1, b0_2, b0_3, r1)
 else (row_Drop k s7 x0.1).bind fun x1 =>
 bif roomB (r1.length + 1) 56 then (let y0 : List K3q := (r1 ++ [(x0.1, x0.2.1, x0.2.2.1, x0.2.2.2.1, x0.2.2.2.2.1, x0.2.2.2.2.2.1, x0.2.2.2.2.2.2.1)])
  rec s2 x1.1 x0.2.2.2.2.2.2.2.1 x0.2.2.2.2.2.2.2.2.1 x0.2.2.2.2.2.2.2.2.2.1 x0.2.2.2.2.2.2.2.2.2.2.1 y0)
 else none
def free_Run_L0 (k : Nat) : Nat → free_Run_L0T
 | 0, _, _, _, _, _, _, _ => none
 | n + 1, s2, s7, b0_0, b0_1, b0_2, b0_3, r1 => free_Run_L0b k (free_Run_L0 k n) s2 s7 b0_0 b0_1 b0_2 b0_3 r1
/-- giro/free.Run -/
def free_Run (k : Nat) (a0Accts : List K4q) (a0Bil : List (List Int)) (a0Mul : List Int) (a0Pos : List (List Int)) (a1 : List K3q) (a2 : Int) : Option ((List K4q) × (List (List Int)) × (List Int) × (List (List Int)) × (List K3q) × (List K3q)) :=
 (free_Run_L0 k k a2 a1 a0Accts a0Bil a0Mul a0Pos []).bind fun z =>
 some (z.2.1, z.2.2.1, z.2.2.2.1, z.2.2.2.2.1, z.1, z.2.2.2.2.2)

abbrev pair_next_L1X : Type := (Int × Int × (List K4q) × (List (List Int)) × (List Int) × (List (List Int)) × Int × Int × Int × Int × Int × Int × Int × Int × Int × Int × Int × Int × Int × Int × (List K3q)) ⊕ (Bool × Int × Int × Int × Int × Int × Int × Int × Int × Int × Int × Int × Int × Int × Int × (List K4q) × (List (List Int)) × (List Int) × (List (List Int)))
abbrev pair_next_L1T : Type := Int → Int → Int → Int → List K4q → List (List Int) → List Int → List (List Int) → Int → Int → Int → Int → Int → Int → Int → Int → Int → Int → Int → Int → Int → Int → List K3q → Int → Int → Int → Int → Int → Int → Int → Option pair_next_L1X
def pair_next_L1b (k : Nat) (rec : pair_next_L1T) (s19 : Int) (s20 : Int) (s25 : Int) (s26 : Int) (b0_0 : List K4q) (b0_1 : List (List Int)) (b0_2 : List Int) (b0_3 : List (List Int)) (b1_0 : Int) (b1_1 : Int) (b1_2 : Int) (b1_3 : Int) (b1_4 : Int) (b1_5 : Int) (b1_6 : Int) (b1_7 : Int) (b1_8 : Int) (b1_9 : Int) (b1_10 : Int) (b1_11 : Int) (b1_12 : Int) (b1_13 : Int) (r2 : List K3q) (b3_0 : Int) (b3_1 : Int) (b3_2 : Int) (b3_3 : Int) (b3_4 : Int) (b3_5 : Int) (b3_6 : Int) : Option pair_next_L1X :=
 bif decide (s26 < s25) then (bif boundOk s26 r2.length then (bif !(decide ((r2.getD s26.toNat (0, 0, 0, 0, 0, 0, 0)).2.1 = b3_2)) then (rec s19 s20 s25 (w64 (s26 + 1)) b0_0 b0_1 b0_2 b0_3 b1_0 b1_1 b1_2 b1_3 b1_4 b1_5 b1_6 b1_7 b1_8 b1_9 b1_10 b1_11 b1_12 b1_13 r2 b3_0 b3_1 b3_2 b3_3 b3_4 b3_5 b3_6)
   else bif !(decide ((r2.getD s26.toNat (0, 0, 0, 0, 0, 0, 0)).2.2.1 = b3_1)) then (rec s19 s20 s25 (w64 (s26 + 1)) b0_0 b0_1 b0_2 b0_3 b1_0 b1_1 b1_2 b1_3 b1_4 b1_5 b1_6 b1_7 b1_8 b1_9 b1_10 b1_11 b1_12 b1_13 r2 b3_0 b3_1 b3_2 b3_3 b3_4 b3_5 b3_6)
   else bif decide (b3_1 ≥ (r2.getD s26.toNat (0, 0, 0, 0, 0, 0, 0)).2.1) then (rec s19 s20 s25 (w64 (s26 + 1)) b0_0 b0_1 b0_2 b0_3 b1_0 b1_1 b1_2 b1_3 b1_4 b1_5 b1_6 b1_7 b1_8 b1_9 b1_10 b1_11 b1_12 b1_13 r2 b3_0 b3_1 b3_2 b3_3 b3_4 b3_5 b3_6)
   else (fits_Fits k b0_0 b0_1 b0_2 b0_3 [(b3_0, b3_1, b3_2, b3_3, b3_4, b3_5, b3_6), (r2.getD s26.toNat (0, 0, 0, 0, 0, 0, 0))]).bind fun x1 =>
   bif !x1 then (rec s19 s20 s25 (w64 (s26 + 1)) b0_0 b0_1 b0_2 b0_3 b1_0 b1_1 b1_2 b1_3 b1_4 b1_5 b1_6 b1_7 b1_8 b1_9 b1_10 b1_11 b1_12 b1_13 r2 b3_0 b3_1 b3_2 b3_3 b3_4 b3_5 b3_6)
   else (post_Post k b0_0 b0_1 b0_2 b0_3 [(b3_0, b3_1, b3_2, b3_3, b3_4, b3_5, b3_6), (r2.getD s26.toNat (0, 0, 0, 0, 0, 0, 0))]).bind fun x2 =>
   bif decide (x2.2.2.2.2 = 0) then some (.inr (true, b3_0, b3_1, b3_2, b3_3, b3_4, b3_5, b3_6, (r2.getD s26.toNat (0, 0, 0, 0, 0, 0, 0)).1, (r2.getD s26.toNat (0, 0, 0, 0, 0, 0, 0)).2.1, (r2.getD s26.toNat (0, 0, 0, 0, 0, 0, 0)).2.2.1, (r2.getD s26.toNat (0, 0, 0, 0, 0, 0, 0)).2.2.2.1, (r2.getD s26.toNat (0, 0, 0, 0, 0, 0, 0)).2.2.2.2.1, (r2.getD s26.toNat (0, 0, 0, 0, 0, 0, 0)).2.2.2.2.2.1, (r2.getD s26.toNat (0, 0, 0, 0, 0, 0, 0)).2.2.2.2.2.2, x2.1, x2.2.1, x2.2.2.1, x2.2.2.2.1))
   else rec s19 s20 s25 (w64 (s26 + 1)) b0_0 b0_1 b0_2 b0_3 b1_0 b1_1 b1_2 b1_3 b1_4 b1_5 b1_6 b1_7 b1_8 b1_9 b1_10 b1_11 b1_12 b1_13 r2 b3_0 b3_1 b3_2 b3_3 b3_4 b3_5 b3_6)
  else none)
 else some (.inl (s19, s20, b0_0, b0_1, b0_2, b0_3, b1_0, b1_1, b1_2, b1_3, b1_4, b1_5, b1_6, b1_7, b1_8, b1_9, b1_10, b1_11, b1_12, b1_13, r2))
def pair_next_L1 (k : Nat) : Nat → pair_next_L1T
 | 0, _, _, _, _, _, _, _, _, _, _, _, _, _, _, _, _, _, _, _, _, _, _, _, _, _, _, _, _, _, _ => none
 | n + 1, s19, s20, s25, s26, b0_0, b0_1, b0_2, b0_3, b1_0, b1_1, b1_2, b1_3, b1_4, b1_5, b1_6, b1_7, b1_8, b1_9, b1_10, b1_11, b1_12, b1_13, r2, b3_0, b3_1, b3_2, b3_3, b3_4, b3_5, b3_6 => pair_next_L1b k (pair_next_L1 k n) s19 s20 s25 s26 b0_0 b0_1 b0_2 b0_3 b1_0 b1_1 b1_2 b1_3 b1_4 b1_5 b1_6 b1_7 b1_8 b1_9 b1_10 b1_11 b1_12 b1_13 r2 b3_0 b3_1 b3_2 b3_3 b3_4 b3_5 b3_6
abbrev pair_next_L0X : Type := (Int × Int × Int × Int × Int × Int × Int × Int × Int × Int × Int × Int × Int × Int) ⊕ (Bool × Int × Int × Int × Int × Int × Int × Int × Int × Int × Int × Int × Int × Int × Int × (List K4q) × (List (List Int)) × (List Int) × (List (List Int)))
abbrev pair_next_L0T : Type := Int → Int → List K4q → List (List Int) → List Int → List (List Int) → Int → Int → Int → Int → Int → Int → Int → Int → Int → Int → Int → Int → Int → Int → List K3q → Option pair_next_L0X
def pair_next_L0b (k : Nat) (rec : pair_next_L0T) (s19 : Int) (s20 : Int) (b0_0 : List K4q) (b0_1 : List (List Int)) (b0_2 : List Int) (b0_3 : List (List Int)) (b1_0 : Int) (b1_1 : Int) (b1_2 : Int) (b1_3 : Int) (b1_4 : Int) (b1_5 : Int) (b1_6 : Int) (b1_7 : Int) (b1_8 : Int) (b1_9 : Int) (b1_10 : Int) (b1_11 : Int) (b1_12 : Int) (b1_13 : Int) (r2 : List K3q) : Option pair_next_L0X :=
 bif decide (s20 < s19) then (bif boundOk s20 r2.length then ((pair_next_L1 k k s19 s20 (r2.length : Int) 0 b0_0 b0_1 b0_2 b0_3 b1_0 b1_1 b1_2 b1_3 b1_4 b1_5 b1_6 b1_7 b1_8 b1_9 b1_10 b1_11 b1_12 b1_13 r2 (r2.getD s20.toNat (0, 0, 0, 0, 0, 0, 0)).1 (r2.getD s20.toNat (0, 0, 0, 0, 0, 0, 0)).2.1 (r2.getD s20.toNat (0, 0, 0, 0, 0, 0, 0)).2.2.1 (r2.getD s20.toNat (0, 0, 0, 0, 0, 0, 0)).2.2.2.1 (r2.getD s20.toNat (0, 0, 0, 0, 0, 0, 0)).2.2.2.2.1 (r2.getD s20.toNat (0, 0, 0, 0, 0, 0, 0)).2.2.2.2.2.1 (r2.getD s20.toNat (0, 0, 0, 0, 0, 0, 0)).2.2.2.2.2.2).bind fun z =>
   match z with
   | .inl z1 => rec z1.1 (w64 (z1.2.1 + 1)) z1.2.2.1 z1.2.2.2.1 z1.2.2.2.2.1 z1.2.2.2.2.2.1 z1.2.2.2.2.2.2.1 z1.2.2.2.2.2.2.2.1 z1.2.2.2.2.2.2.2.2.1 z1.2.2.2.2.2.2.2.2.2.1 z1.2.2.2.2.2.2.2.2.2.2.1 z1.2.2.2.2.2.2.2.2.2.2.2.1 z1.2.2.2.2.2.2.2.2.2.2.2.2.1 z1.2.2.2.2.2.2.2.2.2.2.2.2.2.1 z1.2.2.2.2.2.2.2.2.2.2.2.2.2.2.1 z1.2.2.2.2.2.2.2.2.2.2.2.2.2.2.2.1 z1.2.2.2.2.2.2.2.2.2.2.2.2.2.2.2.2.1 z1.2.2.2.2.2.2.2.2.2.2.2.2.2.2.2.2.2.1 z1.2.2.2.2.2.2.2.2.2.2.2.2.2.2.2.2.2.2.1 z1.2.2.2.2.2.2.2.2.2.2.2.2.2.2.2.2.2.2.2.1 z1.2.2.2.2.2.2.2.2.2.2.2.2.2.2.2.2.2.2.2.2
   | .inr z2 => some (.inr (z2.1, z2.2.1, z2.2.2.1, z2.2.2.2.1, z2.2.2.2.2.1, z2.2.2.2.2.2.1, z2.2.2.2.2.2.2.1, z2.2.2.2.2.2.2.2.1, z2.2.2.2.2.2.2.2.2.1, z2.2.2.2.2.2.2.2.2.2.1, z2.2.2.2.2.2.2.2.2.2.2.1, z2.2.2.2.2.2.2.2.2.2.2.2.1, z2.2.2.2.2.2.2.2.2.2.2.2.2.1, z2.2.2.2.2.2.2.2.2.2.2.2.2.2.1, z2.2.2.2.2.2.2.2.2.2.2.2.2.2.2.1, z2.2.2.2.2.2.2.2.2.2.2.2.2.2.2.2.1, z2.2.2.2.2.2.2.2.2.2.2.2.2.2.2.2.2.1, z2.2.2.2.2.2.2.2.2.2.2.2.2.2.2.2.2.2.1, z2.2.2.2.2.2.2.2.2.2.2.2.2.2.2.2.2.2.2)))
  else none)
 else some (.inl (b1_0, b1_1, b1_2, b1_3, b1_4, b1_5, b1_6, b1_7, b1_8, b1_9, b1_10, b1_11, b1_12, b1_13))
def pair_next_L0 (k : Nat) : Nat → pair_next_L0T
 | 0, _, _, _, _, _, _, _, _, _, _, _, _, _, _, _, _, _, _, _, _, _ => none
 | n + 1, s19, s20, b0_0, b0_1, b0_2, b0_3, b1_0, b1_1, b1_2, b1_3, b1_4, b1_5, b1_6, b1_7, b1_8, b1_9, b1_10, b1_11, b1_12, b1_13, r2 => pair_next_L0b k (pair_next_L0 k n) s19 s20 b0_0 b0_1 b0_2 b0_3 b1_0 b1_1 b1_2 b1_3 b1_4 b1_5 b1_6 b1_7 b1_8 b1_9 b1_10 b1_11 b1_12 b1_13 r2
/-- giro/pair.next -/
def pair_next (k : Nat) (a0Accts : List K4q) (a0Bil : List (List Int)) (a0Mul : List Int) (a0Pos : List (List Int)) (a1 : List K3q) (a2 : Int) : Option (Int × Int × Int × Int × Int × Int × Int × Int × Int × Int × Int × Int × Int × Int × (List K4q) × (List (List Int)) × (List Int) × (List (List Int)) × Bool) :=
 (view_May k a1 a2).bind fun x0 =>
 (pair_next_L0 k k (x0.length : Int) 0 a0Accts a0Bil a0Mul a0Pos 0 0 0 0 0 0 0 0 0 0 0 0 0 0 x0).bind fun z3 =>
 match z3 with
 | .inl z4 => some (0, 0, 0, 0, 0, 0, 0, 0, 0, 0, 0, 0, 0, 0, [], [], [], [], false)
 | .inr z5 => some (z5.2.1, z5.2.2.1, z5.2.2.2.1, z5.2.2.2.2.1, z5.2.2.2.2.2.1, z5.2.2.2.2.2.2.1, z5.2.2.2.2.2.2.2.1, z5.2.2.2.2.2.2.2.2.1, z5.2.2.2.2.2.2.2.2.2.1, z5.2.2.2.2.2.2.2.2.2.2.1, z5.2.2.2.2.2.2.2.2.2.2.2.1, z5.2.2.2.2.2.2.2.2.2.2.2.2.1, z5.2.2.2.2.2.2.2.2.2.2.2.2.2.1, z5.2.2.2.2.2.2.2.2.2.2.2.2.2.2.1, z5.2.2.2.2.2.2.2.2.2.2.2.2.2.2.2.1, z5.2.2.2.2.2.2.2.2.2.2.2.2.2.2.2.2.1, z5.2.2.2.2.2.2.2.2.2.2.2.2.2.2.2.2.2.1, z5.2.2.2.2.2.2.2.2.2.2.2.2.2.2.2.2.2.2, z5.1)

end Go.Ab.Gi
