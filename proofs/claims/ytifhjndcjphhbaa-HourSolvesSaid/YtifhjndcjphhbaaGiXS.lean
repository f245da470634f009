/- Shallow functions, printed (abprint.py). -/
import Derived.Test.YtifhjndcjphhbaaGiAbD
set_option linter.unusedVariables false
set_option maxRecDepth 100000
namespace Go.Ab.Gi

abbrev y0q : Go.Ab.Ty := .pair (.int .i64) (.int .i64)
abbrev K1q : Type := Int × Int × Int × Int × Int × Int × Int × Int
abbrev K2q : Type := Int × Int × Int × Int × Int × Int × Int
abbrev K3q : Type := Int × Int × Int
abbrev y4q : Go.Ab.Ty := .pair (.int .i64) y0q
abbrev y5q : Go.Ab.Ty := .pair (.int .i64) y4q
abbrev y6q : Go.Ab.Ty := .pair (.int .i64) y5q
abbrev y7q : Go.Ab.Ty := .pair (.int .i64) y6q
abbrev y8q : Go.Ab.Ty := .pair (.int .i64) y7q
abbrev y9q : Go.Ab.Ty := .pair (.int .i64) y8q

abbrev girolaw20_some_L0X : Type := Int × (List K3q) × (List (List Int)) × (List Int) × (List (List Int))
abbrev girolaw20_some_L0T : Type := List Int → Int → Int → List K3q → List (List Int) → List Int → List (List Int) → Option girolaw20_some_L0X
def girolaw20_some_L0b (k : Nat) (rec : girolaw20_some_L0T) (s0 : List Int) (s1 : Int) (s6 : Int) (r2 : List K3q) (m3 : List (List Int)) (r4 : List Int) (m5 : List (List Int)) : Option girolaw20_some_L0X :=
 bif decide (s6 < 3) then (bif decide (s6 < (s0.length : Int)) then (bif boundOk s6 s0.length then (bif roomB (r2.length + 1) 24 then (rec s0 s1 (w64 (s6 + 1)) (r2 ++ [((band .i64 (s0.getD s6.toNat 0) 63), 0, 0)]) m3 r4 m5)
    else none)
   else none)
  else bif roomB (r2.length + 1) 24 then (rec s0 s1 (w64 (s6 + 1)) (r2 ++ [(0, 0, 0)]) m3 r4 m5)
  else none)
 else some (s1, r2, m3, r4, m5)
def girolaw20_some_L0 (k : Nat) : Nat → girolaw20_some_L0T
 | 0, _, _, _, _, _, _, _ => none
 | n + 1, s0, s1, s6, r2, m3, r4, m5 => girolaw20_some_L0b k (girolaw20_some_L0 k n) s0 s1 s6 r2 m3 r4 m5
/-- giro/girolaw20.some -/
def girolaw20_some (k : Nat) (a0 : List Int) (a1 : Int) : Option ((List K3q) × (List (List Int)) × (List Int) × (List (List Int))) :=
 (girolaw20_some_L0 k k a0 a1 0 [] [[(-1), (-1), (-1)], [(-1), (-1), (-1)], [(-1), (-1), (-1)]] [(-1), (-1), (-1)] [[0, 0, 0], [0, 0, 0], [0, 0, 0]]).bind fun z =>
 bif decide ((band .i64 z.1 1) = 1) then (bif boundOk 0 z.2.1.length then (let y0 : List K3q := (z.2.1.set 0 ((z.2.1.getD 0 (0, 0, 0)).1, 7, (z.2.1.getD 0 (0, 0, 0)).2.2))
   bif boundOk 1 y0.length then (let y1 : List K3q := (y0.set 1 ((y0.getD 1 (0, 0, 0)).1, (y0.getD 1 (0, 0, 0)).2.1, 5))
    bif boundOk 2 y1.length then (let y2 : List K3q := (y1.set 2 ((y1.getD 2 (0, 0, 0)).1, 3, (y1.getD 2 (0, 0, 0)).2.2))
     bif decide ((band .i64 z.1 2) = 2) then (bif boundOk 0 z.2.2.1.length then (bif boundOk 1 z.2.2.1.length then (bif boundOk 1 (z.2.2.1.getD 0 []).length then (let y3 : List (List Int) := (z.2.2.1.set 0 ((z.2.2.1.getD 0 []).set 1 6))
         bif boundOk 2 (y3.getD 1 []).length then (bif boundOk 2 z.2.2.2.1.length then (bif decide ((band .i64 z.1 4) = 4) then (bif boundOk 0 z.2.2.2.2.length then (bif boundOk 1 z.2.2.2.2.length then (bif boundOk 1 (z.2.2.2.2.getD 0 []).length then (let y4 : List (List Int) := (z.2.2.2.2.set 0 ((z.2.2.2.2.getD 0 []).set 1 3))
               bif boundOk 0 (y4.getD 1 []).length then (bif boundOk 2 y2.length then (let y5 : List K3q := (y2.set 2 ((y2.getD 2 (0, 0, 0)).1, (y2.getD 2 (0, 0, 0)).2.1, 9))
                 bif boundOk 0 (z.2.2.2.1.set 2 4).length then some (y5, (y3.set 1 ((y3.getD 1 []).set 2 0)), ((z.2.2.2.1.set 2 4).set 0 8), (y4.set 1 ((y4.getD 1 []).set 0 (-3))))
                 else none)
                else none)
               else none)
              else none)
             else none)
            else none)
           else some (y2, (y3.set 1 ((y3.getD 1 []).set 2 0)), (z.2.2.2.1.set 2 4), z.2.2.2.2))
          else none)
         else none)
        else none)
       else none)
      else none)
     else bif decide ((band .i64 z.1 4) = 4) then (bif boundOk 0 z.2.2.2.2.length then (bif boundOk 1 z.2.2.2.2.length then (bif boundOk 1 (z.2.2.2.2.getD 0 []).length then (let y6 : List (List Int) := (z.2.2.2.2.set 0 ((z.2.2.2.2.getD 0 []).set 1 3))
         bif boundOk 0 (y6.getD 1 []).length then (bif boundOk 2 y2.length then (let y7 : List K3q := (y2.set 2 ((y2.getD 2 (0, 0, 0)).1, (y2.getD 2 (0, 0, 0)).2.1, 9))
           bif boundOk 0 z.2.2.2.1.length then some (y7, z.2.2.1, (z.2.2.2.1.set 0 8), (y6.set 1 ((y6.getD 1 []).set 0 (-3))))
           else none)
          else none)
         else none)
        else none)
       else none)
      else none)
     else some (y2, z.2.2.1, z.2.2.2.1, z.2.2.2.2))
    else none)
   else none)
  else none)
 else bif decide ((band .i64 z.1 2) = 2) then (bif boundOk 0 z.2.2.1.length then (bif boundOk 1 z.2.2.1.length then (bif boundOk 1 (z.2.2.1.getD 0 []).length then (let y8 : List (List Int) := (z.2.2.1.set 0 ((z.2.2.1.getD 0 []).set 1 6))
     bif boundOk 2 (y8.getD 1 []).length then (bif boundOk 2 z.2.2.2.1.length then (bif decide ((band .i64 z.1 4) = 4) then (bif boundOk 0 z.2.2.2.2.length then (bif boundOk 1 z.2.2.2.2.length then (bif boundOk 1 (z.2.2.2.2.getD 0 []).length then (let y9 : List (List Int) := (z.2.2.2.2.set 0 ((z.2.2.2.2.getD 0 []).set 1 3))
           bif boundOk 0 (y9.getD 1 []).length then (bif boundOk 2 z.2.1.length then (let y10 : List K3q := (z.2.1.set 2 ((z.2.1.getD 2 (0, 0, 0)).1, (z.2.1.getD 2 (0, 0, 0)).2.1, 9))
             bif boundOk 0 (z.2.2.2.1.set 2 4).length then some (y10, (y8.set 1 ((y8.getD 1 []).set 2 0)), ((z.2.2.2.1.set 2 4).set 0 8), (y9.set 1 ((y9.getD 1 []).set 0 (-3))))
             else none)
            else none)
           else none)
          else none)
         else none)
        else none)
       else some (z.2.1, (y8.set 1 ((y8.getD 1 []).set 2 0)), (z.2.2.2.1.set 2 4), z.2.2.2.2))
      else none)
     else none)
    else none)
   else none)
  else none)
 else bif decide ((band .i64 z.1 4) = 4) then (bif boundOk 0 z.2.2.2.2.length then (bif boundOk 1 z.2.2.2.2.length then (bif boundOk 1 (z.2.2.2.2.getD 0 []).length then (let y11 : List (List Int) := (z.2.2.2.2.set 0 ((z.2.2.2.2.getD 0 []).set 1 3))
     bif boundOk 0 (y11.getD 1 []).length then (bif boundOk 2 z.2.1.length then (let y12 : List K3q := (z.2.1.set 2 ((z.2.1.getD 2 (0, 0, 0)).1, (z.2.1.getD 2 (0, 0, 0)).2.1, 9))
       bif boundOk 0 z.2.2.2.1.length then some (y12, z.2.2.1, (z.2.2.2.1.set 0 8), (y11.set 1 ((y11.getD 1 []).set 0 (-3))))
       else none)
      else none)
     else none)
    else none)
   else none)
  else none)
 else some (z.2.1, z.2.2.1, z.2.2.2.1, z.2.2.2.2)

abbrev giroref13_Find_L0T : Type := List K2q → Int → Int → Option (Unit ⊕ Int)
def giroref13_Find_L0b (k : Nat) (rec : giroref13_Find_L0T) (s0 : List K2q) (s1 : Int) (s5 : Int) : Option (Unit ⊕ Int) :=
 bif decide (s5 < (s0.length : Int)) then (bif boundOk s5 s0.length then (bif decide ((s0.getD s5.toNat (0, 0, 0, 0, 0, 0, 0)).1 = s1) then some (.inr s5)
   else rec s0 s1 (w64 (s5 + 1)))
  else none)
 else some (.inl ())
def giroref13_Find_L0 (k : Nat) : Nat → giroref13_Find_L0T
 | 0, _, _, _ => none
 | n + 1, s0, s1, s5 => giroref13_Find_L0b k (giroref13_Find_L0 k n) s0 s1 s5
/-- giro/giroref13.Find -/
def giroref13_Find (k : Nat) (a0 : List K2q) (a1 : Int) : Option Int :=
 (giroref13_Find_L0 k k a0 a1 0).bind fun z =>
 match z with
 | .inl z1 => some (-1)
 | .inr z2 => some z2

/-- giro/giroref13.ahead -/
def giroref13_ahead (k : Nat) (a0ID : Int) (a0From : Int) (a0To : Int) (a0Amount : Int) (a0Class : Int) (a0Start : Int) (a0Till : Int) (a1ID : Int) (a1From : Int) (a1To : Int) (a1Amount : Int) (a1Class : Int) (a1Start : Int) (a1Till : Int) : Option Bool :=
 bif decide (a0From < a1From) then some true
 else bif decide (a0From = a1From) then some (decide (a0Class ≤ a1Class))
 else some false

abbrev giroref13_behind_L0T : Type := List K2q → Int → Int → Int → Int → Int → Int → Int → Int → Option Int
def giroref13_behind_L0b (k : Nat) (rec : giroref13_behind_L0T) (s0 : List K2q) (s5 : Int) (b0_0 : Int) (b0_1 : Int) (b0_2 : Int) (b0_3 : Int) (b0_4 : Int) (b0_5 : Int) (b0_6 : Int) : Option Int :=
 bif decide (s5 < (s0.length : Int)) then (bif boundOk s5 s0.length then ((giroref13_ahead k (s0.getD s5.toNat (0, 0, 0, 0, 0, 0, 0)).1 (s0.getD s5.toNat (0, 0, 0, 0, 0, 0, 0)).2.1 (s0.getD s5.toNat (0, 0, 0, 0, 0, 0, 0)).2.2.1 (s0.getD s5.toNat (0, 0, 0, 0, 0, 0, 0)).2.2.2.1 (s0.getD s5.toNat (0, 0, 0, 0, 0, 0, 0)).2.2.2.2.1 (s0.getD s5.toNat (0, 0, 0, 0, 0, 0, 0)).2.2.2.2.2.1 (s0.getD s5.toNat (0, 0, 0, 0, 0, 0, 0)).2.2.2.2.2.2 b0_0 b0_1 b0_2 b0_3 b0_4 b0_5 b0_6).bind fun x0 =>
   bif x0 then (rec s0 (w64 (s5 + 1)) b0_0 b0_1 b0_2 b0_3 b0_4 b0_5 b0_6)
   else some s5)
  else none)
 else some s5
def giroref13_behind_L0 (k : Nat) : Nat → giroref13_behind_L0T
 | 0, _, _, _, _, _, _, _, _, _ => none
 | n + 1, s0, s5, b0_0, b0_1, b0_2, b0_3, b0_4, b0_5, b0_6 => giroref13_behind_L0b k (giroref13_behind_L0 k n) s0 s5 b0_0 b0_1 b0_2 b0_3 b0_4 b0_5 b0_6
/-- giro/giroref13.behind -/
def giroref13_behind (k : Nat) (a0 : List K2q) (a1ID : Int) (a1From : Int) (a1To : Int) (a1Amount : Int) (a1Class : Int) (a1Start : Int) (a1Till : Int) : Option Int :=
 (giroref13_behind_L0 k k a0 0 a1ID a1From a1To a1Amount a1Class a1Start a1Till).bind fun z =>
 some z

/-- giro/giroref13.insert -/
def giroref13_insert (k : Nat) (a0 : List K2q) (a1 : Int) (a2ID : Int) (a2From : Int) (a2To : Int) (a2Amount : Int) (a2Class : Int) (a2Start : Int) (a2Till : Int) : Option (List K2q) :=
 bif (decide (0 ≤ a1)) && (decide (a1 ≤ (a0.length : Int))) then (bif roomB (0 + (List.take a1.toNat a0).length) 56 then (bif roomB ((List.take a1.toNat a0).length + 1) 56 then (let y0 : List K2q := ((List.take a1.toNat a0) ++ [(a2ID, a2From, a2To, a2Amount, a2Class, a2Start, a2Till)])
    bif (decide (0 ≤ a1)) && (decide (a1 ≤ (a0.length : Int))) then (bif roomB (y0.length + (List.drop a1.toNat a0).length) 56 then some (y0 ++ (List.drop a1.toNat a0))
     else none)
    else none)
   else none)
  else none)
 else none

/-- giro/giroref13.Put -/
def giroref13_Put (k : Nat) (a0 : List K2q) (a1ID : Int) (a1From : Int) (a1To : Int) (a1Amount : Int) (a1Class : Int) (a1Start : Int) (a1Till : Int) : Option ((List K2q) × Int) :=
 (giroref13_Find k a0 a1ID).bind fun x0 =>
 bif decide (x0 ≥ 0) then some (a0, 6)
 else bif decide ((a0.length : Int) ≥ 40) then some (a0, 3)
 else (giroref13_behind k a0 a1ID a1From a1To a1Amount a1Class a1Start a1Till).bind fun x1 =>
 (giroref13_insert k a0 x1 a1ID a1From a1To a1Amount a1Class a1Start a1Till).bind fun x2 =>
 some (x2, 0)

abbrev girolaw20_rowed_L0X : Type := List K2q
abbrev girolaw20_rowed_L0T : Type := List K2q → List K2q → Int → Option girolaw20_rowed_L0X
def girolaw20_rowed_L0b (k : Nat) (rec : girolaw20_rowed_L0T) (s0 : List K2q) (s3 : List K2q) (s4 : Int) : Option girolaw20_rowed_L0X :=
 bif decide (s4 < (s0.length : Int)) then (bif boundOk s4 s0.length then (bif decide ((Int.tmod (band .i64 (s0.getD s4.toNat (0, 0, 0, 0, 0, 0, 0)).2.1 255) 3) = (Int.tmod (band .i64 (s0.getD s4.toNat (0, 0, 0, 0, 0, 0, 0)).2.2.1 255) 3)) then ((giroref13_Put k s3 (w64 (s4 + 1)) (Int.tmod (band .i64 (s0.getD s4.toNat (0, 0, 0, 0, 0, 0, 0)).2.1 255) 3) (Int.tmod (w64 ((Int.tmod (band .i64 (s0.getD s4.toNat (0, 0, 0, 0, 0, 0, 0)).2.1 255) 3) + 1)) 3) (w64 (1 + (band .i64 (s0.getD s4.toNat (0, 0, 0, 0, 0, 0, 0)).2.2.2.1 31))) (w64 (1 + (Int.tmod (band .i64 (s0.getD s4.toNat (0, 0, 0, 0, 0, 0, 0)).2.2.2.2.1 255) 3))) (band .i64 (s0.getD s4.toNat (0, 0, 0, 0, 0, 0, 0)).2.2.2.2.2.1 7) (w64 ((band .i64 (s0.getD s4.toNat (0, 0, 0, 0, 0, 0, 0)).2.2.2.2.2.1 7) + (band .i64 (s0.getD s4.toNat (0, 0, 0, 0, 0, 0, 0)).2.2.2.2.2.2 15)))).bind fun x0 =>
    bif decide (x0.2 = 0) then (rec s0 x0.1 (w64 (s4 + 1)))
    else rec s0 s3 (w64 (s4 + 1)))
   else (giroref13_Put k s3 (w64 (s4 + 1)) (Int.tmod (band .i64 (s0.getD s4.toNat (0, 0, 0, 0, 0, 0, 0)).2.1 255) 3) (Int.tmod (band .i64 (s0.getD s4.toNat (0, 0, 0, 0, 0, 0, 0)).2.2.1 255) 3) (w64 (1 + (band .i64 (s0.getD s4.toNat (0, 0, 0, 0, 0, 0, 0)).2.2.2.1 31))) (w64 (1 + (Int.tmod (band .i64 (s0.getD s4.toNat (0, 0, 0, 0, 0, 0, 0)).2.2.2.2.1 255) 3))) (band .i64 (s0.getD s4.toNat (0, 0, 0, 0, 0, 0, 0)).2.2.2.2.2.1 7) (w64 ((band .i64 (s0.getD s4.toNat (0, 0, 0, 0, 0, 0, 0)).2.2.2.2.2.1 7) + (band .i64 (s0.getD s4.toNat (0, 0, 0, 0, 0, 0, 0)).2.2.2.2.2.2 15)))).bind fun x1 =>
   bif decide (x1.2 = 0) then (rec s0 x1.1 (w64 (s4 + 1)))
   else rec s0 s3 (w64 (s4 + 1)))
  else none)
 else some s3
def girolaw20_rowed_L0 (k : Nat) : Nat → girolaw20_rowed_L0T
 | 0, _, _, _ => none
 | n + 1, s0, s3, s4 => girolaw20_rowed_L0b k (girolaw20_rowed_L0 k n) s0 s3 s4
/-- giro/girolaw20.rowed -/
def girolaw20_rowed (k : Nat) (a0 : List K2q) : Option (List K2q) :=
 (girolaw20_rowed_L0 k k a0 [] 0).bind fun z =>
 some z

/-- giro/pay.Ready -/
def pay_Ready (k : Nat) (a0ID : Int) (a0From : Int) (a0To : Int) (a0Amount : Int) (a0Class : Int) (a0Start : Int) (a0Till : Int) (a1 : Int) : Option Bool :=
 bif decide (a1 ≥ a0Start) then some (decide (a1 ≤ a0Till))
 else some false

/-- giro/view.Ready$1 -/
def view_Ready_fn1 (k : Nat) (a0ID : Int) (a0From : Int) (a0To : Int) (a0Amount : Int) (a0Class : Int) (a0Start : Int) (a0Till : Int) (a1 : Int) : Option Bool :=
 (pay_Ready k a0ID a0From a0To a0Amount a0Class a0Start a0Till a1).bind fun x0 =>
 some x0

abbrev view_all__view_Ready_fn1_L0X : Type := List K2q
abbrev view_all__view_Ready_fn1_L0T : Type := List K2q → Int → Int → Int → List K2q → Option view_all__view_Ready_fn1_L0X
def view_all__view_Ready_fn1_L0b (k : Nat) (rec : view_all__view_Ready_fn1_L0T) (s8 : List K2q) (s9 : Int) (s10 : Int) (b0_0 : Int) (r1 : List K2q) : Option view_all__view_Ready_fn1_L0X :=
 bif decide (s10 < s9) then (bif boundOk s10 s8.length then ((view_Ready_fn1 k (s8.getD s10.toNat (0, 0, 0, 0, 0, 0, 0)).1 (s8.getD s10.toNat (0, 0, 0, 0, 0, 0, 0)).2.1 (s8.getD s10.toNat (0, 0, 0, 0, 0, 0, 0)).2.2.1 (s8.getD s10.toNat (0, 0, 0, 0, 0, 0, 0)).2.2.2.1 (s8.getD s10.toNat (0, 0, 0, 0, 0, 0, 0)).2.2.2.2.1 (s8.getD s10.toNat (0, 0, 0, 0, 0, 0, 0)).2.2.2.2.2.1 (s8.getD s10.toNat (0, 0, 0, 0, 0, 0, 0)).2.2.2.2.2.2 b0_0).bind fun x0 =>
   bif x0 then (bif roomB (r1.length + 1) 56 then (let y0 : List K2q := (r1 ++ [(s8.getD s10.toNat (0, 0, 0, 0, 0, 0, 0))])
     rec s8 s9 (w64 (s10 + 1)) b0_0 y0)
    else none)
   else rec s8 s9 (w64 (s10 + 1)) b0_0 r1)
  else none)
 else some r1
def view_all__view_Ready_fn1_L0 (k : Nat) : Nat → view_all__view_Ready_fn1_L0T
 | 0, _, _, _, _, _ => none
 | n + 1, s8, s9, s10, b0_0, r1 => view_all__view_Ready_fn1_L0b k (view_all__view_Ready_fn1_L0 k n) s8 s9 s10 b0_0 r1
/-- giro/view.all -/
def view_all__view_Ready_fn1 (k : Nat) (a0 : List K2q) (a1_0 : Int) : Option (List K2q) :=
 (view_all__view_Ready_fn1_L0 k k a0 (a0.length : Int) 0 a1_0 []).bind fun z =>
 some z

/-- giro/view.Ready -/
def view_Ready (k : Nat) (a0 : List K2q) (a1 : Int) : Option (List K2q) :=
 (view_all__view_Ready_fn1 k a0 a1).bind fun x0 =>
 some x0

/-- giro/view.Of$1 -/
def view_Of_fn1 (k : Nat) (a0ID : Int) (a0From : Int) (a0To : Int) (a0Amount : Int) (a0Class : Int) (a0Start : Int) (a0Till : Int) (a1 : Int) : Option Bool :=
 some (decide (a0From = a1))

abbrev view_all__view_Of_fn1_L0X : Type := List K2q
abbrev view_all__view_Of_fn1_L0T : Type := List K2q → Int → Int → Int → List K2q → Option view_all__view_Of_fn1_L0X
def view_all__view_Of_fn1_L0b (k : Nat) (rec : view_all__view_Of_fn1_L0T) (s8 : List K2q) (s9 : Int) (s10 : Int) (b0_0 : Int) (r1 : List K2q) : Option view_all__view_Of_fn1_L0X :=
 bif decide (s10 < s9) then (bif boundOk s10 s8.length then ((view_Of_fn1 k (s8.getD s10.toNat (0, 0, 0, 0, 0, 0, 0)).1 (s8.getD s10.toNat (0, 0, 0, 0, 0, 0, 0)).2.1 (s8.getD s10.toNat (0, 0, 0, 0, 0, 0, 0)).2.2.1 (s8.getD s10.toNat (0, 0, 0, 0, 0, 0, 0)).2.2.2.1 (s8.getD s10.toNat (0, 0, 0, 0, 0, 0, 0)).2.2.2.2.1 (s8.getD s10.toNat (0, 0, 0, 0, 0, 0, 0)).2.2.2.2.2.1 (s8.getD s10.toNat (0, 0, 0, 0, 0, 0, 0)).2.2.2.2.2.2 b0_0).bind fun x0 =>
   bif x0 then (bif roomB (r1.length + 1) 56 then (let y0 : List K2q := (r1 ++ [(s8.getD s10.toNat (0, 0, 0, 0, 0, 0, 0))])
     rec s8 s9 (w64 (s10 + 1)) b0_0 y0)
    else none)
   else rec s8 s9 (w64 (s10 + 1)) b0_0 r1)
  else none)
 else some r1
def view_all__view_Of_fn1_L0 (k : Nat) : Nat → view_all__view_Of_fn1_L0T
 | 0, _, _, _, _, _ => none
 | n + 1, s8, s9, s10, b0_0, r1 => view_all__view_Of_fn1_L0b k (view_all__view_Of_fn1_L0 k n) s8 s9 s10 b0_0 r1
/-- giro/view.all -/
def view_all__view_Of_fn1 (k : Nat) (a0 : List K2q) (a1_0 : Int) : Option (List K2q) :=
 (view_all__view_Of_fn1_L0 k k a0 (a0.length : Int) 0 a1_0 []).bind fun z =>
 some z

/-- giro/view.Of -/
def view_Of (k : Nat) (a0 : List K2q) (a1 : Int) : Option (List K2q) :=
 (view_all__view_Of_fn1 k a0 a1).bind fun x0 =>
 some x0

/-- slices.Clone[[]int,int] -/
def slices_Clone_int (k : Nat) (a0 : List Int) : Option (List Int) :=
 bif roomB (0 + a0.length) 8 then some a0
 else none

/-- giro/view.Heads$1 -/
def view_Heads_fn1 (k : Nat) (a0ID : Int) (a0From : Int) (a0To : Int) (a0Amount : Int) (a0Class : Int) (a0Start : Int) (a0Till : Int) (a1 : List Int) : Option (Bool × (List Int)) :=
 bif decide (a0From < 0) then some (false, a1)
 else bif decide (a0From ≥ (a1.length : Int)) then some (false, a1)
 else bif boundOk a0From a1.length then (bif decide ((a1.getD a0From.toNat 0) < 1) then some (false, a1)
  else bif boundOk a0From a1.length then (bif boundOk a0From a1.length then some (true, (a1.set a0From.toNat (w64 ((a1.getD a0From.toNat 0) - 1))))
   else none)
  else none)
 else none

abbrev view_all__view_Heads_fn1_L0X : Type := (List Int) × (List K2q)
abbrev view_all__view_Heads_fn1_L0T : Type := List K2q → Int → Int → List Int → List K2q → Option view_all__view_Heads_fn1_L0X
def view_all__view_Heads_fn1_L0b (k : Nat) (rec : view_all__view_Heads_fn1_L0T) (s8 : List K2q) (s9 : Int) (s10 : Int) (r1 : List Int) (r2 : List K2q) : Option view_all__view_Heads_fn1_L0X :=
 bif decide (s10 < s9) then (bif boundOk s10 s8.length then ((view_Heads_fn1 k (s8.getD s10.toNat (0, 0, 0, 0, 0, 0, 0)).1 (s8.getD s10.toNat (0, 0, 0, 0, 0, 0, 0)).2.1 (s8.getD s10.toNat (0, 0, 0, 0, 0, 0, 0)).2.2.1 (s8.getD s10.toNat (0, 0, 0, 0, 0, 0, 0)).2.2.2.1 (s8.getD s10.toNat (0, 0, 0, 0, 0, 0, 0)).2.2.2.2.1 (s8.getD s10.toNat (0, 0, 0, 0, 0, 0, 0)).2.2.2.2.2.1 (s8.getD s10.toNat (0, 0, 0, 0, 0, 0, 0)).2.2.2.2.2.2 r1).bind fun x0 =>
   bif x0.1 then (bif roomB (r2.length + 1) 56 then (let y0 : List K2q := (r2 ++ [(s8.getD s10.toNat (0, 0, 0, 0, 0, 0, 0))])
     rec s8 s9 (w64 (s10 + 1)) x0.2 y0)
    else none)
   else rec s8 s9 (w64 (s10 + 1)) x0.2 r2)
  else none)
 else some (r1, r2)
def view_all__view_Heads_fn1_L0 (k : Nat) : Nat → view_all__view_Heads_fn1_L0T
 | 0, _, _, _, _, _ => none
 | n + 1, s8, s9, s10, r1, r2 => view_all__view_Heads_fn1_L0b k (view_all__view_Heads_fn1_L0 k n) s8 s9 s10 r1 r2
/-- giro/view.all -/
def view_all__view_Heads_fn1 (k : Nat) (a0 : List K2q) (a1_0 : List Int) : Option ((List K2q) × (List Int)) :=
 (view_all__view_Heads_fn1_L0 k k a0 (a0.length : Int) 0 a1_0 []).bind fun z =>
 some (z.2, z.1)

/-- giro/view.Heads -/
def view_Heads (k : Nat) (a0 : List K2q) (a1 : List Int) : Option (List K2q) :=
 (slices_Clone_int k a1).bind fun x0 =>
 (view_all__view_Heads_fn1 k a0 x0).bind fun x1 =>
 some x1.1

/-- giro/lim.isSize -/
def lim_isSize (k : Nat) (a0 : Int) : Option Bool :=
 bif decide (a0 ≥ 0) then some (decide (a0 ≤ 6))
 else some false

abbrev lim_Row_L0T : Type := Int → Int → Int → List Int → Option (List Int)
def lim_Row_L0b (k : Nat) (rec : lim_Row_L0T) (s1 : Int) (s13 : Int) (s14 : Int) (r0 : List Int) : Option (List Int) :=
 bif decide (s14 < s13) then (bif boundOk s14 r0.length then (rec s1 s13 (w64 (s14 + 1)) (r0.set s14.toNat s1))
  else none)
 else some r0
def lim_Row_L0 (k : Nat) : Nat → lim_Row_L0T
 | 0, _, _, _, _ => none
 | n + 1, s1, s13, s14, r0 => lim_Row_L0b k (lim_Row_L0 k n) s1 s13 s14 r0
/-- giro/lim.Row -/
def lim_Row (k : Nat) (a0 : Int) (a1 : Int) : Option (List Int) :=
 (lim_isSize k a0).bind fun x0 =>
 bif !x0 then some []
 else bif makeOk a0 a0 8 then ((lim_Row_L0 k k a1 ((List.replicate a0.toNat (0 : Int)).length : Int) 0 (List.replicate a0.toNat (0 : Int))).bind fun z =>
  some z)
 else none

abbrev lim_Square_L0T : Type := Int → Int → Int → Int → List (List Int) → Option (List (List Int))
def lim_Square_L0b (k : Nat) (rec : lim_Square_L0T) (s0 : Int) (s1 : Int) (s13 : Int) (s14 : Int) (m0 : List (List Int)) : Option (List (List Int)) :=
 bif decide (s14 < s13) then ((lim_Row k s0 s1).bind fun x1 =>
  bif boundOk s14 m0.length then (rec s0 s1 s13 (w64 (s14 + 1)) (m0.set s14.toNat x1))
  else none)
 else some m0
def lim_Square_L0 (k : Nat) : Nat → lim_Square_L0T
 | 0, _, _, _, _, _ => none
 | n + 1, s0, s1, s13, s14, m0 => lim_Square_L0b k (lim_Square_L0 k n) s0 s1 s13 s14 m0
/-- giro/lim.Square -/
def lim_Square (k : Nat) (a0 : Int) (a1 : Int) : Option (List (List Int)) :=
 (lim_isSize k a0).bind fun x0 =>
 bif !x0 then some []
 else bif makeOk a0 a0 24 then ((lim_Square_L0 k k a0 a1 ((List.replicate a0.toNat ([] : List Int)).length : Int) 0 (List.replicate a0.toNat ([] : List Int))).bind fun z =>
  some z)
 else none

abbrev fits_moved_L0X : Type := (List Int) × (List Int) × (List (List Int))
abbrev fits_moved_L0T : Type := List K2q → Int → Int → List Int → List Int → List (List Int) → Option fits_moved_L0X
def fits_moved_L0b (k : Nat) (rec : fits_moved_L0T) (s15 : List K2q) (s16 : Int) (s17 : Int) (r2 : List Int) (r3 : List Int) (m4 : List (List Int)) : Option fits_moved_L0X :=
 bif decide (s17 < s16) then (bif boundOk s17 s15.length then (bif boundOk (s15.getD s17.toNat (0, 0, 0, 0, 0, 0, 0)).2.1 r2.length then (bif boundOk (s15.getD s17.toNat (0, 0, 0, 0, 0, 0, 0)).2.1 r2.length then (let y0 : List Int := (r2.set (s15.getD s17.toNat (0, 0, 0, 0, 0, 0, 0)).2.1.toNat (w64 ((r2.getD (s15.getD s17.toNat (0, 0, 0, 0, 0, 0, 0)).2.1.toNat 0) - (s15.getD s17.toNat (0, 0, 0, 0, 0, 0, 0)).2.2.2.1)))
     bif boundOk (s15.getD s17.toNat (0, 0, 0, 0, 0, 0, 0)).2.2.1 y0.length then (bif boundOk (s15.getD s17.toNat (0, 0, 0, 0, 0, 0, 0)).2.2.1 y0.length then (let y1 : List Int := (y0.set (s15.getD s17.toNat (0, 0, 0, 0, 0, 0, 0)).2.2.1.toNat (w64 ((y0.getD (s15.getD s17.toNat (0, 0, 0, 0, 0, 0, 0)).2.2.1.toNat 0) + (s15.getD s17.toNat (0, 0, 0, 0, 0, 0, 0)).2.2.2.1)))
       bif boundOk (s15.getD s17.toNat (0, 0, 0, 0, 0, 0, 0)).2.1 m4.length then (bif boundOk (s15.getD s17.toNat (0, 0, 0, 0, 0, 0, 0)).2.2.1 (m4.getD (s15.getD s17.toNat (0, 0, 0, 0, 0, 0, 0)).2.1.toNat []).length then (bif boundOk (s15.getD s17.toNat (0, 0, 0, 0, 0, 0, 0)).2.2.1 (m4.getD (s15.getD s17.toNat (0, 0, 0, 0, 0, 0, 0)).2.1.toNat []).length then (let y2 : List (List Int) := (m4.set (s15.getD s17.toNat (0, 0, 0, 0, 0, 0, 0)).2.1.toNat ((m4.getD (s15.getD s17.toNat (0, 0, 0, 0, 0, 0, 0)).2.1.toNat []).set (s15.getD s17.toNat (0, 0, 0, 0, 0, 0, 0)).2.2.1.toNat (w64 (((m4.getD (s15.getD s17.toNat (0, 0, 0, 0, 0, 0, 0)).2.1.toNat []).getD (s15.getD s17.toNat (0, 0, 0, 0, 0, 0, 0)).2.2.1.toNat 0) + (s15.getD s17.toNat (0, 0, 0, 0, 0, 0, 0)).2.2.2.1))))
          bif boundOk (s15.getD s17.toNat (0, 0, 0, 0, 0, 0, 0)).2.2.1 y2.length then (bif boundOk (s15.getD s17.toNat (0, 0, 0, 0, 0, 0, 0)).2.1 (y2.getD (s15.getD s17.toNat (0, 0, 0, 0, 0, 0, 0)).2.2.1.toNat []).length then (bif boundOk (s15.getD s17.toNat (0, 0, 0, 0, 0, 0, 0)).2.1 (y2.getD (s15.getD s17.toNat (0, 0, 0, 0, 0, 0, 0)).2.2.1.toNat []).length then (let y3 : List (List Int) := (y2.set (s15.getD s17.toNat (0, 0, 0, 0, 0, 0, 0)).2.2.1.toNat ((y2.getD (s15.getD s17.toNat (0, 0, 0, 0, 0, 0, 0)).2.2.1.toNat []).set (s15.getD s17.toNat (0, 0, 0, 0, 0, 0, 0)).2.1.toNat (w64 (((y2.getD (s15.getD s17.toNat (0, 0, 0, 0, 0, 0, 0)).2.2.1.toNat []).getD (s15.getD s17.toNat (0, 0, 0, 0, 0, 0, 0)).2.1.toNat 0) - (s15.getD s17.toNat (0, 0, 0, 0, 0, 0, 0)).2.2.2.1))))
             bif !(decide ((s15.getD s17.toNat (0, 0, 0, 0, 0, 0, 0)).2.2.2.2.1 = 3)) then (bif boundOk (s15.getD s17.toNat (0, 0, 0, 0, 0, 0, 0)).2.1 r3.length then (bif boundOk (s15.getD s17.toNat (0, 0, 0, 0, 0, 0, 0)).2.1 r3.length then (let y4 : List Int := (r3.set (s15.getD s17.toNat (0, 0, 0, 0, 0, 0, 0)).2.1.toNat (w64 ((r3.getD (s15.getD s17.toNat (0, 0, 0, 0, 0, 0, 0)).2.1.toNat 0) + (s15.getD s17.toNat (0, 0, 0, 0, 0, 0, 0)).2.2.2.1)))
                rec s15 s16 (w64 (s17 + 1)) y1 y4 y3)
               else none)
              else none)
             else rec s15 s16 (w64 (s17 + 1)) y1 r3 y3)
            else none)
           else none)
          else none)
         else none)
        else none)
       else none)
      else none)
     else none)
    else none)
   else none)
  else none)
 else some (r2, r3, m4)
def fits_moved_L0 (k : Nat) : Nat → fits_moved_L0T
 | 0, _, _, _, _, _, _ => none
 | n + 1, s15, s16, s17, r2, r3, m4 => fits_moved_L0b k (fits_moved_L0 k n) s15 s16 s17 r2 r3 m4
/-- giro/fits.moved -/
def fits_moved (k : Nat) (a0 : Int) (a1 : List K2q) : Option ((List Int) × (List Int) × (List (List Int))) :=
 (lim_Row k a0 0).bind fun x0 =>
 (lim_Row k a0 0).bind fun x1 =>
 (lim_Square k a0 0).bind fun x2 =>
 (fits_moved_L0 k k a1 (a1.length : Int) 0 x0 x1 x2).bind fun z =>
 some (z.1, z.2.1, z.2.2)

/-- giro/fits.Short$1 -/
def fits_Short_fn1 (k : Nat) (a0ID : Int) (a0From : Int) (a0To : Int) (a0Amount : Int) (a0Class : Int) (a0Start : Int) (a0Till : Int) (a1 : Int) : Option Bool :=
 some (decide (a0From = a1))

abbrev slices_IndexFunc_Pay__fits_Short_fn1_L0T : Type := List K2q → Int → Int → Int → Option (Unit ⊕ Int)
def slices_IndexFunc_Pay__fits_Short_fn1_L0b (k : Nat) (rec : slices_IndexFunc_Pay__fits_Short_fn1_L0T) (s0 : List K2q) (s7 : Int) (s8 : Int) (b0_0 : Int) : Option (Unit ⊕ Int) :=
 bif decide (s8 < s7) then (bif boundOk s8 s0.length then ((fits_Short_fn1 k (s0.getD s8.toNat (0, 0, 0, 0, 0, 0, 0)).1 (s0.getD s8.toNat (0, 0, 0, 0, 0, 0, 0)).2.1 (s0.getD s8.toNat (0, 0, 0, 0, 0, 0, 0)).2.2.1 (s0.getD s8.toNat (0, 0, 0, 0, 0, 0, 0)).2.2.2.1 (s0.getD s8.toNat (0, 0, 0, 0, 0, 0, 0)).2.2.2.2.1 (s0.getD s8.toNat (0, 0, 0, 0, 0, 0, 0)).2.2.2.2.2.1 (s0.getD s8.toNat (0, 0, 0, 0, 0, 0, 0)).2.2.2.2.2.2 b0_0).bind fun x0 =>
   bif x0 then some (.inr s8)
   else rec s0 s7 (w64 (s8 + 1)) b0_0)
  else none)
 else some (.inl ())
def slices_IndexFunc_Pay__fits_Short_fn1_L0 (k : Nat) : Nat → slices_IndexFunc_Pay__fits_Short_fn1_L0T
 | 0, _, _, _, _ => none
 | n + 1, s0, s7, s8, b0_0 => slices_IndexFunc_Pay__fits_Short_fn1_L0b k (slices_IndexFunc_Pay__fits_Short_fn1_L0 k n) s0 s7 s8 b0_0
/-- slices.IndexFunc[[]giro/api.Pay,giro/api.Pay] -/
def slices_IndexFunc_Pay__fits_Short_fn1 (k : Nat) (a0 : List K2q) (a1_0 : Int) : Option Int :=
 (slices_IndexFunc_Pay__fits_Short_fn1_L0 k k a0 (a0.length : Int) 0 a1_0).bind fun z =>
 match z with
 | .inl z1 => some (-1)
 | .inr z2 => some z2

/-- slices.ContainsFunc[[]giro/api.Pay,giro/api.Pay] -/
def slices_ContainsFunc_Pay__fits_Short_fn1 (k : Nat) (a0 : List K2q) (a1_0 : Int) : Option Bool :=
 (slices_IndexFunc_Pay__fits_Short_fn1 k a0 a1_0).bind fun x0 =>
 some (decide (x0 ≥ 0))

def lim_Net_L0b (k : Nat) (rec : Int → List Int → Int → Int → Option Int) (s5 : Int) (s12 : List Int) (s13 : Int) (s14 : Int) : Option Int :=
 bif decide (s14 < s13) then (bif boundOk s14 s12.length then (rec (w64 (s5 + (s12.getD s14.toNat 0))) s12 s13 (w64 (s14 + 1)))
  else none)
 else some s5
def lim_Net_L0 (k : Nat) : Nat → Int → List Int → Int → Int → Option Int
 | 0, _, _, _, _ => none
 | n + 1, s5, s12, s13, s14 => lim_Net_L0b k (lim_Net_L0 k n) s5 s12 s13 s14
/-- giro/lim.Net -/
def lim_Net (k : Nat) (a0Accts : List K3q) (a0Bil : List (List Int)) (a0Mul : List Int) (a0Pos : List (List Int)) (a1 : Int) : Option Int :=
 bif boundOk a1 a0Pos.length then ((lim_Net_L0 k k 0 (a0Pos.getD a1.toNat []) ((a0Pos.getD a1.toNat []).length : Int) 0).bind fun z =>
  some z)
 else none

/-- giro/fits.over -/
def fits_over (k : Nat) (a0 : Int) (a1 : Int) : Option Bool :=
 bif !(decide (a1 = (-1))) then some (decide (a0 > a1))
 else some false

/-- giro/acct.Kept -/
def acct_Kept (k : Nat) (a0Balance : Int) (a0Credit : Int) (a0Reserve : Int) (a1 : Int) : Option Int :=
 some (maxI false (w64 (a0Reserve - a1)) 0)

/-- (giro/fits.move).isShort$1 -/
def fits_move_isShort_fn1 (k : Nat) (a0ID : Int) (a0From : Int) (a0To : Int) (a0Amount : Int) (a0Class : Int) (a0Start : Int) (a0Till : Int) (a1 : Int) (a2Balance : Int) (a2Credit : Int) (a2Reserve : Int) (a3more : List Int) (a3spent : List Int) (a3sent : List (List Int)) (a4 : Int) (a5Accts : List K3q) (a5Bil : List (List Int)) (a5Mul : List Int) (a5Pos : List (List Int)) : Option Bool :=
 bif !(decide (a0From = a1)) then some false
 else bif boundOk a1 a3spent.length then ((acct_Kept k a2Balance a2Credit a2Reserve (a3spent.getD a1.toNat 0)).bind fun x0 =>
  bif decide (a0Class = 3) then (bif decide (a4 < x0) then some true
   else bif boundOk a1 a5Pos.length then (bif boundOk a0To (a5Pos.getD a1.toNat []).length then (bif boundOk a1 a3sent.length then (bif boundOk a0To (a3sent.getD a1.toNat []).length then (bif boundOk a1 a5Bil.length then (bif boundOk a0To (a5Bil.getD a1.toNat []).length then ((fits_over k (w64 (((a5Pos.getD a1.toNat []).getD a0To.toNat 0) + ((a3sent.getD a1.toNat []).getD a0To.toNat 0))) ((a5Bil.getD a1.toNat []).getD a0To.toNat 0)).bind fun x1 =>
         some x1)
        else none)
       else none)
      else none)
     else none)
    else none)
   else none)
  else bif boundOk a1 a5Pos.length then (bif boundOk a0To (a5Pos.getD a1.toNat []).length then (bif boundOk a1 a3sent.length then (bif boundOk a0To (a3sent.getD a1.toNat []).length then (bif boundOk a1 a5Bil.length then (bif boundOk a0To (a5Bil.getD a1.toNat []).length then ((fits_over k (w64 (((a5Pos.getD a1.toNat []).getD a0To.toNat 0) + ((a3sent.getD a1.toNat []).getD a0To.toNat 0))) ((a5Bil.getD a1.toNat []).getD a0To.toNat 0)).bind fun x2 =>
        some x2)
       else none)
      else none)
     else none)
    else none)
   else none)
  else none)
 else none

abbrev slices_IndexFunc_Pay__fits_move_isShort_fn1_L0T : Type := List K2q → Int → Int → Int → Int → Int → Int → List Int → List Int → List (List Int) → Int → List K3q → List (List Int) → List Int → List (List Int) → Option (Unit ⊕ Int)
def slices_IndexFunc_Pay__fits_move_isShort_fn1_L0b (k : Nat) (rec : slices_IndexFunc_Pay__fits_move_isShort_fn1_L0T) (s0 : List K2q) (s7 : Int) (s8 : Int) (b0_0 : Int) (b1_0 : Int) (b1_1 : Int) (b1_2 : Int) (b2_0 : List Int) (b2_1 : List Int) (b2_2 : List (List Int)) (b3_0 : Int) (b4_0 : List K3q) (b4_1 : List (List Int)) (b4_2 : List Int) (b4_3 : List (List Int)) : Option (Unit ⊕ Int) :=
 bif decide (s8 < s7) then (bif boundOk s8 s0.length then ((fits_move_isShort_fn1 k (s0.getD s8.toNat (0, 0, 0, 0, 0, 0, 0)).1 (s0.getD s8.toNat (0, 0, 0, 0, 0, 0, 0)).2.1 (s0.getD s8.toNat (0, 0, 0, 0, 0, 0, 0)).2.2.1 (s0.getD s8.toNat (0, 0, 0, 0, 0, 0, 0)).2.2.2.1 (s0.getD s8.toNat (0, 0, 0, 0, 0, 0, 0)).2.2.2.2.1 (s0.getD s8.toNat (0, 0, 0, 0, 0, 0, 0)).2.2.2.2.2.1 (s0.getD s8.toNat (0, 0, 0, 0, 0, 0, 0)).2.2.2.2.2.2 b0_0 b1_0 b1_1 b1_2 b2_0 b2_1 b2_2 b3_0 b4_0 b4_1 b4_2 b4_3).bind fun x0 =>
   bif x0 then some (.inr s8)
   else rec s0 s7 (w64 (s8 + 1)) b0_0 b1_0 b1_1 b1_2 b2_0 b2_1 b2_2 b3_0 b4_0 b4_1 b4_2 b4_3)
  else none)
 else some (.inl ())
def slices_IndexFunc_Pay__fits_move_isShort_fn1_L0 (k : Nat) : Nat → slices_IndexFunc_Pay__fits_move_isShort_fn1_L0T
 | 0, _, _, _, _, _, _, _, _, _, _, _, _, _, _, _ => none
 | n + 1, s0, s7, s8, b0_0, b1_0, b1_1, b1_2, b2_0, b2_1, b2_2, b3_0, b4_0, b4_1, b4_2, b4_3 => slices_IndexFunc_Pay__fits_move_isShort_fn1_L0b k (slices_IndexFunc_Pay__fits_move_isShort_fn1_L0 k n) s0 s7 s8 b0_0 b1_0 b1_1 b1_2 b2_0 b2_1 b2_2 b3_0 b4_0 b4_1 b4_2 b4_3
/-- slices.IndexFunc[[]giro/api.Pay,giro/api.Pay] -/
def slices_IndexFunc_Pay__fits_move_isShort_fn1 (k : Nat) (a0 : List K2q) (a1_0 : Int) (a1_1Balance : Int) (a1_1Credit : Int) (a1_1Reserve : Int) (a1_2more : List Int) (a1_2spent : List Int) (a1_2sent : List (List Int)) (a1_3 : Int) (a1_4Accts : List K3q) (a1_4Bil : List (List Int)) (a1_4Mul : List Int) (a1_4Pos : List (List Int)) : Option Int :=
 (slices_IndexFunc_Pay__fits_move_isShort_fn1_L0 k k a0 (a0.length : Int) 0 a1_0 a1_1Balance a1_1Credit a1_1Reserve a1_2more a1_2spent a1_2sent a1_3 a1_4Accts a1_4Bil a1_4Mul a1_4Pos).bind fun z =>
 match z with
 | .inl z1 => some (-1)
 | .inr z2 => some z2

/-- slices.ContainsFunc[[]giro/api.Pay,giro/api.Pay] -/
def slices_ContainsFunc_Pay__fits_move_isShort_fn1 (k : Nat) (a0 : List K2q) (a1_0 : Int) (a1_1Balance : Int) (a1_1Credit : Int) (a1_1Reserve : Int) (a1_2more : List Int) (a1_2spent : List Int) (a1_2sent : List (List Int)) (a1_3 : Int) (a1_4Accts : List K3q) (a1_4Bil : List (List Int)) (a1_4Mul : List Int) (a1_4Pos : List (List Int)) : Option Bool :=
 (slices_IndexFunc_Pay__fits_move_isShort_fn1 k a0 a1_0 a1_1Balance a1_1Credit a1_1Reserve a1_2more a1_2spent a1_2sent a1_3 a1_4Accts a1_4Bil a1_4Mul a1_4Pos).bind fun x0 =>
 some (decide (x0 ≥ 0))

abbrev fits_move_isShort_L0X : Type := (List K2q) × Int × (List Int) × (List Int) × (List (List Int)) × (List K3q) × (List (List Int)) × (List Int) × (List (List Int)) × Int × Int × Int × Int × Int
abbrev fits_move_isShort_L0T : Type := List K2q → Int → List Int → Int → Int → List Int → List Int → List (List Int) → List K3q → List (List Int) → List Int → List (List Int) → Int → Int → Int → Int → Int → Option fits_move_isShort_L0X
def fits_move_isShort_L0b (k : Nat) (rec : fits_move_isShort_L0T) (s3 : List K2q) (s11 : Int) (s39 : List Int) (s40 : Int) (s41 : Int) (b0_0 : List Int) (b0_1 : List Int) (b0_2 : List (List Int)) (b1_0 : List K3q) (b1_1 : List (List Int)) (b1_2 : List Int) (b1_3 : List (List Int)) (b2_0 : Int) (b3_0 : Int) (b3_1 : Int) (b3_2 : Int) (b4_0 : Int) : Option fits_move_isShort_L0X :=
 bif decide (s41 < s40) then (bif boundOk s41 s39.length then (rec s3 (w64 (s11 + (s39.getD s41.toNat 0))) s39 s40 (w64 (s41 + 1)) b0_0 b0_1 b0_2 b1_0 b1_1 b1_2 b1_3 b2_0 b3_0 b3_1 b3_2 b4_0)
  else none)
 else some (s3, s11, b0_0, b0_1, b0_2, b1_0, b1_1, b1_2, b1_3, b2_0, b3_0, b3_1, b3_2, b4_0)
def fits_move_isShort_L0 (k : Nat) : Nat → fits_move_isShort_L0T
 | 0, _, _, _, _, _, _, _, _, _, _, _, _, _, _, _, _, _ => none
 | n + 1, s3, s11, s39, s40, s41, b0_0, b0_1, b0_2, b1_0, b1_1, b1_2, b1_3, b2_0, b3_0, b3_1, b3_2, b4_0 => fits_move_isShort_L0b k (fits_move_isShort_L0 k n) s3 s11 s39 s40 s41 b0_0 b0_1 b0_2 b1_0 b1_1 b1_2 b1_3 b2_0 b3_0 b3_1 b3_2 b4_0
/-- (giro/fits.move).isShort -/
def fits_move_isShort (k : Nat) (a0more : List Int) (a0spent : List Int) (a0sent : List (List Int)) (a1Accts : List K3q) (a1Bil : List (List Int)) (a1Mul : List Int) (a1Pos : List (List Int)) (a2 : Int) (a3 : List K2q) : Option Bool :=
 bif boundOk a2 a1Accts.length then (bif boundOk a2 a0more.length then (bif decide ((w64 ((w64 ((a1Accts.getD a2.toNat (0, 0, 0)).1 + (a1Accts.getD a2.toNat (0, 0, 0)).2.1)) + (a0more.getD a2.toNat 0))) < 0) then some true
   else (lim_Net k a1Accts a1Bil a1Mul a1Pos a2).bind fun x0 =>
   bif boundOk a2 a0sent.length then ((fits_move_isShort_L0 k k a3 x0 (a0sent.getD a2.toNat []) ((a0sent.getD a2.toNat []).length : Int) 0 a0more a0spent a0sent a1Accts a1Bil a1Mul a1Pos a2 (a1Accts.getD a2.toNat (0, 0, 0)).1 (a1Accts.getD a2.toNat (0, 0, 0)).2.1 (a1Accts.getD a2.toNat (0, 0, 0)).2.2 (w64 ((w64 ((a1Accts.getD a2.toNat (0, 0, 0)).1 + (a1Accts.getD a2.toNat (0, 0, 0)).2.1)) + (a0more.getD a2.toNat 0)))).bind fun z =>
    bif boundOk z.2.2.2.2.2.2.2.2.2.1 z.2.2.2.2.2.2.2.1.length then ((fits_over k z.2.1 (z.2.2.2.2.2.2.2.1.getD z.2.2.2.2.2.2.2.2.2.1.toNat 0)).bind fun x1 =>
     bif x1 then some true
     else (slices_ContainsFunc_Pay__fits_move_isShort_fn1 k z.1 z.2.2.2.2.2.2.2.2.2.1 z.2.2.2.2.2.2.2.2.2.2.1 z.2.2.2.2.2.2.2.2.2.2.2.1 z.2.2.2.2.2.2.2.2.2.2.2.2.1 z.2.2.1 z.2.2.2.1 z.2.2.2.2.1 z.2.2.2.2.2.2.2.2.2.2.2.2.2 z.2.2.2.2.2.1 z.2.2.2.2.2.2.1 z.2.2.2.2.2.2.2.1 z.2.2.2.2.2.2.2.2.1).bind fun x2 =>
     some x2)
    else none)
   else none)
  else none)
 else none

abbrev fits_Short_L0T : Type := List K2q → Int → Int → List K3q → List (List Int) → List Int → List (List Int) → List Int → List Int → List (List Int) → List Int → Option (List Int)
def fits_Short_L0b (k : Nat) (rec : fits_Short_L0T) (s1 : List K2q) (s16 : Int) (s17 : Int) (b0_0 : List K3q) (b0_1 : List (List Int)) (b0_2 : List Int) (b0_3 : List (List Int)) (r2 : List Int) (r3 : List Int) (m4 : List (List Int)) (r5 : List Int) : Option (List Int) :=
 bif decide (s17 < s16) then ((slices_ContainsFunc_Pay__fits_Short_fn1 k s1 s17).bind fun x1 =>
  bif x1 then ((fits_move_isShort k r2 r3 m4 b0_0 b0_1 b0_2 b0_3 s17 s1).bind fun x2 =>
   bif x2 then (bif roomB (r5.length + 1) 8 then (rec s1 s16 (w64 (s17 + 1)) b0_0 b0_1 b0_2 b0_3 r2 r3 m4 (r5 ++ [s17]))
    else none)
   else rec s1 s16 (w64 (s17 + 1)) b0_0 b0_1 b0_2 b0_3 r2 r3 m4 r5)
  else rec s1 s16 (w64 (s17 + 1)) b0_0 b0_1 b0_2 b0_3 r2 r3 m4 r5)
 else some r5
def fits_Short_L0 (k : Nat) : Nat → fits_Short_L0T
 | 0, _, _, _, _, _, _, _, _, _, _, _ => none
 | n + 1, s1, s16, s17, b0_0, b0_1, b0_2, b0_3, r2, r3, m4, r5 => fits_Short_L0b k (fits_Short_L0 k n) s1 s16 s17 b0_0 b0_1 b0_2 b0_3 r2 r3 m4 r5
/-- giro/fits.Short -/
def fits_Short (k : Nat) (a0Accts : List K3q) (a0Bil : List (List Int)) (a0Mul : List Int) (a0Pos : List (List Int)) (a1 : List K2q) : Option (List Int) :=
 (fits_moved k (a0Accts.length : Int) a1).bind fun x0 =>
 (fits_Short_L0 k k a1 (a0Accts.length : Int) 0 a0Accts a0Bil a0Mul a0Pos x0.1 x0.2.1 x0.2.2 []).bind fun z =>
 some z

abbrev knot_Most_L0X : Type := Int × (List K3q) × (List (List Int)) × (List Int) × (List (List Int)) × (List Int) × (List K2q)
abbrev knot_Most_L0T : Type := Int → Int → Int → List K3q → List (List Int) → List Int → List (List Int) → List Int → List K2q → Option knot_Most_L0X
def knot_Most_L0b (k : Nat) (rec : knot_Most_L0T) (s7 : Int) (s18 : Int) (s19 : Int) (b0_0 : List K3q) (b0_1 : List (List Int)) (b0_2 : List Int) (b0_3 : List (List Int)) (r1 : List Int) (r2 : List K2q) : Option knot_Most_L0X :=
 bif decide (s19 < s18) then ((view_Of k r2 s19).bind fun x1 =>
  bif roomB (r1.length + 1) 8 then (rec s7 s18 (w64 (s19 + 1)) b0_0 b0_1 b0_2 b0_3 (r1 ++ [(x1.length : Int)]) r2)
  else none)
 else some (s7, b0_0, b0_1, b0_2, b0_3, r1, r2)
def knot_Most_L0 (k : Nat) : Nat → knot_Most_L0T
 | 0, _, _, _, _, _, _, _, _, _ => none
 | n + 1, s7, s18, s19, b0_0, b0_1, b0_2, b0_3, r1, r2 => knot_Most_L0b k (knot_Most_L0 k n) s7 s18 s19 b0_0 b0_1 b0_2 b0_3 r1 r2
abbrev knot_Most_L2X : Type := Int × (List K3q) × (List (List Int)) × (List Int) × (List (List Int)) × (List Int) × (List K2q)
abbrev knot_Most_L2T : Type := Int → Int → Int → List K3q → List (List Int) → List Int → List (List Int) → List Int → List K2q → List Int → Option knot_Most_L2X
def knot_Most_L2b (k : Nat) (rec : knot_Most_L2T) (s7 : Int) (s43 : Int) (s44 : Int) (b0_0 : List K3q) (b0_1 : List (List Int)) (b0_2 : List Int) (b0_3 : List (List Int)) (r1 : List Int) (r2 : List K2q) (r3 : List Int) : Option knot_Most_L2X :=
 bif decide (s44 < s43) then (bif boundOk s44 r3.length then (bif boundOk (r3.getD s44.toNat 0) r1.length then (bif boundOk (r3.getD s44.toNat 0) r1.length then (let y0 : List Int := (r1.set (r3.getD s44.toNat 0).toNat (w64 ((r1.getD (r3.getD s44.toNat 0).toNat 0) - 1)))
     rec s7 s43 (w64 (s44 + 1)) b0_0 b0_1 b0_2 b0_3 y0 r2 r3)
    else none)
   else none)
  else none)
 else some (s7, b0_0, b0_1, b0_2, b0_3, r1, r2)
def knot_Most_L2 (k : Nat) : Nat → knot_Most_L2T
 | 0, _, _, _, _, _, _, _, _, _, _ => none
 | n + 1, s7, s43, s44, b0_0, b0_1, b0_2, b0_3, r1, r2, r3 => knot_Most_L2b k (knot_Most_L2 k n) s7 s43 s44 b0_0 b0_1 b0_2 b0_3 r1 r2 r3
abbrev knot_Most_L1T : Type := Int → List K3q → List (List Int) → List Int → List (List Int) → List Int → List K2q → Option (Int × (List Int))
def knot_Most_L1b (k : Nat) (rec : knot_Most_L1T) (s7 : Int) (b0_0 : List K3q) (b0_1 : List (List Int)) (b0_2 : List Int) (b0_3 : List (List Int)) (r1 : List Int) (r2 : List K2q) : Option (Int × (List Int)) :=
 (view_Heads k r2 r1).bind fun x2 =>
 (fits_Short k b0_0 b0_1 b0_2 b0_3 x2).bind fun x3 =>
 bif decide ((x3.length : Int) = 0) then some ((w64 (s7 + 1)), r1)
 else (knot_Most_L2 k k (w64 (s7 + 1)) (x3.length : Int) 0 b0_0 b0_1 b0_2 b0_3 r1 r2 x3).bind fun z1 =>
 rec z1.1 z1.2.1 z1.2.2.1 z1.2.2.2.1 z1.2.2.2.2.1 z1.2.2.2.2.2.1 z1.2.2.2.2.2.2
def knot_Most_L1 (k : Nat) : Nat → knot_Most_L1T
 | 0, _, _, _, _, _, _, _ => none
 | n + 1, s7, b0_0, b0_1, b0_2, b0_3, r1, r2 => knot_Most_L1b k (knot_Most_L1 k n) s7 b0_0 b0_1 b0_2 b0_3 r1 r2
/-- giro/knot.Most -/
def knot_Most (k : Nat) (a0Accts : List K3q) (a0Bil : List (List Int)) (a0Mul : List Int) (a0Pos : List (List Int)) (a1 : List K2q) (a2 : Int) : Option ((List Int) × Int) :=
 (view_Ready k a1 a2).bind fun x0 =>
 (knot_Most_L0 k k 0 (a0Accts.length : Int) 0 a0Accts a0Bil a0Mul a0Pos [] x0).bind fun z =>
 (knot_Most_L1 k k z.1 z.2.1 z.2.2.1 z.2.2.2.1 z.2.2.2.2.1 z.2.2.2.2.2.1 z.2.2.2.2.2.2).bind fun z2 =>
 some (z2.2, z2.1)

/-- giro/giroref11.Ready -/
def giroref11_Ready (k : Nat) (a0ID : Int) (a0From : Int) (a0To : Int) (a0Amount : Int) (a0Class : Int) (a0Start : Int) (a0Till : Int) (a1 : Int) : Option Bool :=
 bif decide (a1 ≥ a0Start) then some (decide (a1 ≤ a0Till))
 else some false

abbrev giroref14_Ready_L0X : Type := List K2q
abbrev giroref14_Ready_L0T : Type := List K2q → Int → Int → List K2q → Option giroref14_Ready_L0X
def giroref14_Ready_L0b (k : Nat) (rec : giroref14_Ready_L0T) (s0 : List K2q) (s1 : Int) (s6 : Int) (r0 : List K2q) : Option giroref14_Ready_L0X :=
 bif decide (s6 < (s0.length : Int)) then (bif boundOk s6 s0.length then ((giroref11_Ready k (s0.getD s6.toNat (0, 0, 0, 0, 0, 0, 0)).1 (s0.getD s6.toNat (0, 0, 0, 0, 0, 0, 0)).2.1 (s0.getD s6.toNat (0, 0, 0, 0, 0, 0, 0)).2.2.1 (s0.getD s6.toNat (0, 0, 0, 0, 0, 0, 0)).2.2.2.1 (s0.getD s6.toNat (0, 0, 0, 0, 0, 0, 0)).2.2.2.2.1 (s0.getD s6.toNat (0, 0, 0, 0, 0, 0, 0)).2.2.2.2.2.1 (s0.getD s6.toNat (0, 0, 0, 0, 0, 0, 0)).2.2.2.2.2.2 s1).bind fun x0 =>
   bif x0 then (bif boundOk s6 s0.length then (bif roomB (r0.length + 1) 56 then (let y0 : List K2q := (r0 ++ [(s0.getD s6.toNat (0, 0, 0, 0, 0, 0, 0))])
      rec s0 s1 (w64 (s6 + 1)) y0)
     else none)
    else none)
   else rec s0 s1 (w64 (s6 + 1)) r0)
  else none)
 else some r0
def giroref14_Ready_L0 (k : Nat) : Nat → giroref14_Ready_L0T
 | 0, _, _, _, _ => none
 | n + 1, s0, s1, s6, r0 => giroref14_Ready_L0b k (giroref14_Ready_L0 k n) s0 s1 s6 r0
/-- giro/giroref14.Ready -/
def giroref14_Ready (k : Nat) (a0 : List K2q) (a1 : Int) : Option (List K2q) :=
 (giroref14_Ready_L0 k k a0 a1 0 []).bind fun z =>
 some z

abbrev giroref14_Of_L0X : Type := List K2q
abbrev giroref14_Of_L0T : Type := List K2q → Int → Int → List K2q → Option giroref14_Of_L0X
def giroref14_Of_L0b (k : Nat) (rec : giroref14_Of_L0T) (s0 : List K2q) (s1 : Int) (s6 : Int) (r0 : List K2q) : Option giroref14_Of_L0X :=
 bif decide (s6 < (s0.length : Int)) then (bif boundOk s6 s0.length then (bif decide ((s0.getD s6.toNat (0, 0, 0, 0, 0, 0, 0)).2.1 = s1) then (bif boundOk s6 s0.length then (bif roomB (r0.length + 1) 56 then (let y0 : List K2q := (r0 ++ [(s0.getD s6.toNat (0, 0, 0, 0, 0, 0, 0))])
      rec s0 s1 (w64 (s6 + 1)) y0)
     else none)
    else none)
   else rec s0 s1 (w64 (s6 + 1)) r0)
  else none)
 else some r0
def giroref14_Of_L0 (k : Nat) : Nat → giroref14_Of_L0T
 | 0, _, _, _, _ => none
 | n + 1, s0, s1, s6, r0 => giroref14_Of_L0b k (giroref14_Of_L0 k n) s0 s1 s6 r0
/-- giro/giroref14.Of -/
def giroref14_Of (k : Nat) (a0 : List K2q) (a1 : Int) : Option (List K2q) :=
 (giroref14_Of_L0 k k a0 a1 0 []).bind fun z =>
 some z

abbrev giroref14_Heads_L0X : Type := List K2q
abbrev giroref14_Heads_L0T : Type := List K2q → List Int → Int → List K2q → Option giroref14_Heads_L0X
def giroref14_Heads_L0b (k : Nat) (rec : giroref14_Heads_L0T) (s0 : List K2q) (s1 : List Int) (s6 : Int) (r0 : List K2q) : Option giroref14_Heads_L0X :=
 bif decide (s6 < (s0.length : Int)) then (bif (decide (0 ≤ s6)) && (decide (s6 ≤ (s0.length : Int))) then (bif boundOk s6 s0.length then ((giroref14_Of k (List.take s6.toNat s0) (s0.getD s6.toNat (0, 0, 0, 0, 0, 0, 0)).2.1).bind fun x0 =>
    bif boundOk s6 s0.length then (bif decide ((s0.getD s6.toNat (0, 0, 0, 0, 0, 0, 0)).2.1 ≥ 0) then (bif boundOk s6 s0.length then (bif decide ((s0.getD s6.toNat (0, 0, 0, 0, 0, 0, 0)).2.1 < (s1.length : Int)) then (bif boundOk s6 s0.length then (bif boundOk (s0.getD s6.toNat (0, 0, 0, 0, 0, 0, 0)).2.1 s1.length then (bif decide ((x0.length : Int) < (s1.getD (s0.getD s6.toNat (0, 0, 0, 0, 0, 0, 0)).2.1.toNat 0)) then (bif boundOk s6 s0.length then (bif roomB (r0.length + 1) 56 then (let y0 : List K2q := (r0 ++ [(s0.getD s6.toNat (0, 0, 0, 0, 0, 0, 0))])
             rec s0 s1 (w64 (s6 + 1)) y0)
            else none)
           else none)
          else rec s0 s1 (w64 (s6 + 1)) r0)
         else none)
        else none)
       else rec s0 s1 (w64 (s6 + 1)) r0)
      else none)
     else rec s0 s1 (w64 (s6 + 1)) r0)
    else none)
   else none)
  else none)
 else some r0
def giroref14_Heads_L0 (k : Nat) : Nat → giroref14_Heads_L0T
 | 0, _, _, _, _ => none
 | n + 1, s0, s1, s6, r0 => giroref14_Heads_L0b k (giroref14_Heads_L0 k n) s0 s1 s6 r0
/-- giro/giroref14.Heads -/
def giroref14_Heads (k : Nat) (a0 : List K2q) (a1 : List Int) : Option (List K2q) :=
 (giroref14_Heads_L0 k k a0 a1 0 []).bind fun z =>
 some z

abbrev giroref15_classed_L0T : Type := List K2q → Int → Int → Int → Int → Option (Int × Int)
def giroref15_classed_L0b (k : Nat) (rec : giroref15_classed_L0T) (s0 : List K2q) (s1 : Int) (s6 : Int) (s7 : Int) (s8 : Int) : Option (Int × Int) :=
 bif decide (s8 < (s0.length : Int)) then (bif boundOk s8 s0.length then (bif !(decide ((s0.getD s8.toNat (0, 0, 0, 0, 0, 0, 0)).2.1 = s1)) then (rec s0 s1 s6 s7 (w64 (s8 + 1)))
   else bif boundOk s8 s0.length then (bif decide ((s0.getD s8.toNat (0, 0, 0, 0, 0, 0, 0)).2.2.2.2.1 = 3) then (bif boundOk s8 s0.length then (rec s0 s1 (w64 (s6 + (s0.getD s8.toNat (0, 0, 0, 0, 0, 0, 0)).2.2.2.1)) s7 (w64 (s8 + 1)))
     else none)
    else bif boundOk s8 s0.length then (rec s0 s1 s6 (w64 (s7 + (s0.getD s8.toNat (0, 0, 0, 0, 0, 0, 0)).2.2.2.1)) (w64 (s8 + 1)))
    else none)
   else none)
  else none)
 else some (s6, s7)
def giroref15_classed_L0 (k : Nat) : Nat → giroref15_classed_L0T
 | 0, _, _, _, _, _ => none
 | n + 1, s0, s1, s6, s7, s8 => giroref15_classed_L0b k (giroref15_classed_L0 k n) s0 s1 s6 s7 s8
/-- giro/giroref15.classed -/
def giroref15_classed (k : Nat) (a0 : List K2q) (a1 : Int) : Option (Int × Int) :=
 (giroref15_classed_L0 k k a0 a1 0 0 0).bind fun z =>
 some (z.1, z.2)

abbrev giroref10_Net_L0T : Type := Int → Int → Int → List K3q → List (List Int) → List Int → List (List Int) → Option Int
def giroref10_Net_L0b (k : Nat) (rec : giroref10_Net_L0T) (s1 : Int) (s5 : Int) (s6 : Int) (b0_0 : List K3q) (b0_1 : List (List Int)) (b0_2 : List Int) (b0_3 : List (List Int)) : Option Int :=
 bif boundOk s1 b0_3.length then (bif decide (s6 < ((b0_3.getD s1.toNat []).length : Int)) then (bif boundOk s1 b0_3.length then (bif boundOk s6 (b0_3.getD s1.toNat []).length then (rec s1 (w64 (s5 + ((b0_3.getD s1.toNat []).getD s6.toNat 0))) (w64 (s6 + 1)) b0_0 b0_1 b0_2 b0_3)
    else none)
   else none)
  else some s5)
 else none
def giroref10_Net_L0 (k : Nat) : Nat → giroref10_Net_L0T
 | 0, _, _, _, _, _, _, _ => none
 | n + 1, s1, s5, s6, b0_0, b0_1, b0_2, b0_3 => giroref10_Net_L0b k (giroref10_Net_L0 k n) s1 s5 s6 b0_0 b0_1 b0_2 b0_3
/-- giro/giroref10.Net -/
def giroref10_Net (k : Nat) (a0Accts : List K3q) (a0Bil : List (List Int)) (a0Mul : List Int) (a0Pos : List (List Int)) (a1 : Int) : Option Int :=
 (giroref10_Net_L0 k k a1 0 0 a0Accts a0Bil a0Mul a0Pos).bind fun z =>
 some z

abbrev giroref15_sent_L0T : Type := List K2q → Int → Int → Int → Int → Option Int
def giroref15_sent_L0b (k : Nat) (rec : giroref15_sent_L0T) (s0 : List K2q) (s1 : Int) (s2 : Int) (s7 : Int) (s8 : Int) : Option Int :=
 bif decide (s8 < (s0.length : Int)) then (bif boundOk s8 s0.length then (bif decide ((s0.getD s8.toNat (0, 0, 0, 0, 0, 0, 0)).2.1 = s1) then (bif boundOk s8 s0.length then (bif decide ((s0.getD s8.toNat (0, 0, 0, 0, 0, 0, 0)).2.2.1 = s2) then (bif boundOk s8 s0.length then (rec s0 s1 s2 (w64 (s7 + (s0.getD s8.toNat (0, 0, 0, 0, 0, 0, 0)).2.2.2.1)) (w64 (s8 + 1)))
      else none)
     else rec s0 s1 s2 s7 (w64 (s8 + 1)))
    else none)
   else rec s0 s1 s2 s7 (w64 (s8 + 1)))
  else none)
 else some s7
def giroref15_sent_L0 (k : Nat) : Nat → giroref15_sent_L0T
 | 0, _, _, _, _, _ => none
 | n + 1, s0, s1, s2, s7, s8 => giroref15_sent_L0b k (giroref15_sent_L0 k n) s0 s1 s2 s7 s8
/-- giro/giroref15.sent -/
def giroref15_sent (k : Nat) (a0 : List K2q) (a1 : Int) (a2 : Int) : Option Int :=
 (giroref15_sent_L0 k k a0 a1 a2 0 0).bind fun z =>
 some z

/-- giro/giroref9.Kept -/
def giroref9_Kept (k : Nat) (a0Balance : Int) (a0Credit : Int) (a0Reserve : Int) (a1 : Int) : Option Int :=
 bif decide (a1 ≥ a0Reserve) then some 0
 else some (w64 (a0Reserve - a1))

abbrev giroref15_short_L0X : Type := (Int × Int × Int × Int × Int × (List K3q) × (List (List Int)) × (List Int) × (List (List Int))) ⊕ Bool
abbrev giroref15_short_L0T : Type := List K2q → Int → Int → Int → Int → Int → Int → List K3q → List (List Int) → List Int → List (List Int) → Option giroref15_short_L0X
def giroref15_short_L0b (k : Nat) (rec : giroref15_short_L0T) (s1 : List K2q) (s2 : Int) (s7 : Int) (s8 : Int) (s9 : Int) (s10 : Int) (s11 : Int) (b0_0 : List K3q) (b0_1 : List (List Int)) (b0_2 : List Int) (b0_3 : List (List Int)) : Option giroref15_short_L0X :=
 bif decide (s11 < (b0_0.length : Int)) then ((giroref15_sent k s1 s2 s11).bind fun x2 =>
  (giroref15_sent k s1 s11 s2).bind fun x3 =>
  (giroref15_sent k s1 s2 s11).bind fun x4 =>
  bif decide (x4 > 0) then (bif boundOk s2 b0_1.length then (bif boundOk s11 (b0_1.getD s2.toNat []).length then (bif !(decide (((b0_1.getD s2.toNat []).getD s11.toNat 0) = (-1))) then (bif boundOk s2 b0_3.length then (bif boundOk s11 (b0_3.getD s2.toNat []).length then (bif boundOk s2 b0_1.length then (bif boundOk s11 (b0_1.getD s2.toNat []).length then (bif decide ((w64 (((b0_3.getD s2.toNat []).getD s11.toNat 0) + (w64 (x2 - x3)))) > ((b0_1.getD s2.toNat []).getD s11.toNat 0)) then some (.inr true)
          else rec s1 s2 s7 s8 (w64 (s9 - (w64 (x2 - x3)))) (w64 (s10 + (w64 (x2 - x3)))) (w64 (s11 + 1)) b0_0 b0_1 b0_2 b0_3)
         else none)
        else none)
       else none)
      else none)
     else rec s1 s2 s7 s8 (w64 (s9 - (w64 (x2 - x3)))) (w64 (s10 + (w64 (x2 - x3)))) (w64 (s11 + 1)) b0_0 b0_1 b0_2 b0_3)
    else none)
   else none)
  else rec s1 s2 s7 s8 (w64 (s9 - (w64 (x2 - x3)))) (w64 (s10 + (w64 (x2 - x3)))) (w64 (s11 + 1)) b0_0 b0_1 b0_2 b0_3)
 else some (.inl (s2, s7, s8, s9, s10, b0_0, b0_1, b0_2, b0_3))
def giroref15_short_L0 (k : Nat) : Nat → giroref15_short_L0T
 | 0, _, _, _, _, _, _, _, _, _, _, _ => none
 | n + 1, s1, s2, s7, s8, s9, s10, s11, b0_0, b0_1, b0_2, b0_3 => giroref15_short_L0b k (giroref15_short_L0 k n) s1 s2 s7 s8 s9 s10 s11 b0_0 b0_1 b0_2 b0_3
/-- giro/giroref15.short -/
def giroref15_short (k : Nat) (a0Accts : List K3q) (a0Bil : List (List Int)) (a0Mul : List Int) (a0Pos : List (List Int)) (a1 : List K2q) (a2 : Int) : Option Bool :=
 (giroref15_classed k a1 a2).bind fun x0 =>
 bif decide ((w64 (x0.1 + x0.2)) = 0) then some false
 else bif boundOk a2 a0Accts.length then (bif boundOk a2 a0Accts.length then ((giroref10_Net k a0Accts a0Bil a0Mul a0Pos a2).bind fun x1 =>
   (giroref15_short_L0 k k a1 a2 x0.1 x0.2 (w64 ((a0Accts.getD a2.toNat (0, 0, 0)).1 + (a0Accts.getD a2.toNat (0, 0, 0)).2.1)) x1 0 a0Accts a0Bil a0Mul a0Pos).bind fun z =>
   match z with
   | .inl z1 => bif decide (z1.2.2.2.1 < 0) then some true
    else bif decide (z1.2.1 > 0) then (bif boundOk z1.1 z1.2.2.2.2.2.1.length then ((giroref9_Kept k (z1.2.2.2.2.2.1.getD z1.1.toNat (0, 0, 0)).1 (z1.2.2.2.2.2.1.getD z1.1.toNat (0, 0, 0)).2.1 (z1.2.2.2.2.2.1.getD z1.1.toNat (0, 0, 0)).2.2 z1.2.2.1).bind fun x5 =>
      bif decide (z1.2.2.2.1 < x5) then some true
      else bif boundOk z1.1 z1.2.2.2.2.2.2.2.1.length then (bif !(decide ((z1.2.2.2.2.2.2.2.1.getD z1.1.toNat 0) = (-1))) then (bif boundOk z1.1 z1.2.2.2.2.2.2.2.1.length then some (decide (z1.2.2.2.2.1 > (z1.2.2.2.2.2.2.2.1.getD z1.1.toNat 0)))
        else none)
       else some false)
      else none)
     else none)
    else bif boundOk z1.1 z1.2.2.2.2.2.2.2.1.length then (bif !(decide ((z1.2.2.2.2.2.2.2.1.getD z1.1.toNat 0) = (-1))) then (bif boundOk z1.1 z1.2.2.2.2.2.2.2.1.length then some (decide (z1.2.2.2.2.1 > (z1.2.2.2.2.2.2.2.1.getD z1.1.toNat 0)))
      else none)
     else some false)
    else none
   | .inr z2 => some z2)
  else none)
 else none

abbrev giroref15_Short_L0T : Type := List K2q → Int → List K3q → List (List Int) → List Int → List (List Int) → List Int → Option (List Int)
def giroref15_Short_L0b (k : Nat) (rec : giroref15_Short_L0T) (s1 : List K2q) (s6 : Int) (b0_0 : List K3q) (b0_1 : List (List Int)) (b0_2 : List Int) (b0_3 : List (List Int)) (r1 : List Int) : Option (List Int) :=
 bif decide (s6 < (b0_0.length : Int)) then ((giroref15_short k b0_0 b0_1 b0_2 b0_3 s1 s6).bind fun x0 =>
  bif x0 then (bif roomB (r1.length + 1) 8 then (rec s1 (w64 (s6 + 1)) b0_0 b0_1 b0_2 b0_3 (r1 ++ [s6]))
   else none)
  else rec s1 (w64 (s6 + 1)) b0_0 b0_1 b0_2 b0_3 r1)
 else some r1
def giroref15_Short_L0 (k : Nat) : Nat → giroref15_Short_L0T
 | 0, _, _, _, _, _, _, _ => none
 | n + 1, s1, s6, b0_0, b0_1, b0_2, b0_3, r1 => giroref15_Short_L0b k (giroref15_Short_L0 k n) s1 s6 b0_0 b0_1 b0_2 b0_3 r1
/-- giro/giroref15.Short -/
def giroref15_Short (k : Nat) (a0Accts : List K3q) (a0Bil : List (List Int)) (a0Mul : List Int) (a0Pos : List (List Int)) (a1 : List K2q) : Option (List Int) :=
 (giroref15_Short_L0 k k a1 0 a0Accts a0Bil a0Mul a0Pos []).bind fun z =>
 some z

abbrev giroref20_Most_L0X : Type := (List K3q) × (List (List Int)) × (List Int) × (List (List Int)) × (List K2q) × (List Int)
abbrev giroref20_Most_L0T : Type := Int → List K3q → List (List Int) → List Int → List (List Int) → List K2q → List Int → Option giroref20_Most_L0X
def giroref20_Most_L0b (k : Nat) (rec : giroref20_Most_L0T) (s10 : Int) (b0_0 : List K3q) (b0_1 : List (List Int)) (b0_2 : List Int) (b0_3 : List (List Int)) (r1 : List K2q) (r2 : List Int) : Option giroref20_Most_L0X :=
 bif decide (s10 < (b0_0.length : Int)) then ((giroref14_Of k r1 s10).bind fun x1 =>
  bif roomB (r2.length + 1) 8 then (rec (w64 (s10 + 1)) b0_0 b0_1 b0_2 b0_3 r1 (r2 ++ [(x1.length : Int)]))
  else none)
 else some (b0_0, b0_1, b0_2, b0_3, r1, r2)
def giroref20_Most_L0 (k : Nat) : Nat → giroref20_Most_L0T
 | 0, _, _, _, _, _, _, _ => none
 | n + 1, s10, b0_0, b0_1, b0_2, b0_3, r1, r2 => giroref20_Most_L0b k (giroref20_Most_L0 k n) s10 b0_0 b0_1 b0_2 b0_3 r1 r2
abbrev giroref20_Most_L2X : Type := Int × (List K3q) × (List (List Int)) × (List Int) × (List (List Int)) × (List K2q) × (List Int)
abbrev giroref20_Most_L2T : Type := Int → Int → List K3q → List (List Int) → List Int → List (List Int) → List K2q → List Int → List Int → Option giroref20_Most_L2X
def giroref20_Most_L2b (k : Nat) (rec : giroref20_Most_L2T) (s11 : Int) (s13 : Int) (b0_0 : List K3q) (b0_1 : List (List Int)) (b0_2 : List Int) (b0_3 : List (List Int)) (r1 : List K2q) (r2 : List Int) (r3 : List Int) : Option giroref20_Most_L2X :=
 bif decide (s13 < (r3.length : Int)) then (bif boundOk s13 r3.length then (bif boundOk (r3.getD s13.toNat 0) r2.length then (bif boundOk (r3.getD s13.toNat 0) r2.length then (let y0 : List Int := (r2.set (r3.getD s13.toNat 0).toNat (w64 ((r2.getD (r3.getD s13.toNat 0).toNat 0) - 1)))
     rec s11 (w64 (s13 + 1)) b0_0 b0_1 b0_2 b0_3 r1 y0 r3)
    else none)
   else none)
  else none)
 else some (s11, b0_0, b0_1, b0_2, b0_3, r1, r2)
def giroref20_Most_L2 (k : Nat) : Nat → giroref20_Most_L2T
 | 0, _, _, _, _, _, _, _, _, _ => none
 | n + 1, s11, s13, b0_0, b0_1, b0_2, b0_3, r1, r2, r3 => giroref20_Most_L2b k (giroref20_Most_L2 k n) s11 s13 b0_0 b0_1 b0_2 b0_3 r1 r2 r3
abbrev giroref20_Most_L1T : Type := Int → List K3q → List (List Int) → List Int → List (List Int) → List K2q → List Int → Option (Int × (List Int))
def giroref20_Most_L1b (k : Nat) (rec : giroref20_Most_L1T) (s11 : Int) (b0_0 : List K3q) (b0_1 : List (List Int)) (b0_2 : List Int) (b0_3 : List (List Int)) (r1 : List K2q) (r2 : List Int) : Option (Int × (List Int)) :=
 (giroref14_Heads k r1 r2).bind fun x2 =>
 (giroref15_Short k b0_0 b0_1 b0_2 b0_3 x2).bind fun x3 =>
 bif decide ((x3.length : Int) = 0) then some (s11, r2)
 else (giroref20_Most_L2 k k s11 0 b0_0 b0_1 b0_2 b0_3 r1 r2 x3).bind fun z1 =>
 rec (w64 (z1.1 + 1)) z1.2.1 z1.2.2.1 z1.2.2.2.1 z1.2.2.2.2.1 z1.2.2.2.2.2.1 z1.2.2.2.2.2.2
def giroref20_Most_L1 (k : Nat) : Nat → giroref20_Most_L1T
 | 0, _, _, _, _, _, _, _ => none
 | n + 1, s11, b0_0, b0_1, b0_2, b0_3, r1, r2 => giroref20_Most_L1b k (giroref20_Most_L1 k n) s11 b0_0 b0_1 b0_2 b0_3 r1 r2
/-- giro/giroref20.Most -/
def giroref20_Most (k : Nat) (a0Accts : List K3q) (a0Bil : List (List Int)) (a0Mul : List Int) (a0Pos : List (List Int)) (a1 : List K2q) (a2 : Int) : Option ((List Int) × Int) :=
 (giroref14_Ready k a1 a2).bind fun x0 =>
 (giroref20_Most_L0 k k 0 a0Accts a0Bil a0Mul a0Pos x0 []).bind fun z =>
 (giroref20_Most_L1 k k 1 z.1 z.2.1 z.2.2.1 z.2.2.2.1 z.2.2.2.2.1 z.2.2.2.2.2).bind fun z2 =>
 some (z2.2, z2.1)

/-- giro/fits.May -/
def fits_May (k : Nat) (a0Accts : List K3q) (a0Bil : List (List Int)) (a0Mul : List Int) (a0Pos : List (List Int)) (a1ID : Int) (a1From : Int) (a1To : Int) (a1Amount : Int) (a1Class : Int) (a1Start : Int) (a1Till : Int) : Option Bool :=
 bif decide (a1From ≥ 0) then (bif decide (a1From < (a0Accts.length : Int)) then (bif decide (a1To ≥ 0) then (bif decide (a1To < (a0Accts.length : Int)) then (bif !(decide (a1From = a1To)) then (bif decide (a1Amount ≥ 1) then (bif decide (a1Amount ≤ 1099511627776) then (bif decide (a1Class ≥ 1) then some (decide (a1Class ≤ 3))
        else some false)
       else some false)
      else some false)
     else some false)
    else some false)
   else some false)
  else some false)
 else some false

/-- giro/post.Post$1 -/
def post_Post_fn1 (k : Nat) (a0ID : Int) (a0From : Int) (a0To : Int) (a0Amount : Int) (a0Class : Int) (a0Start : Int) (a0Till : Int) (a1Accts : List K3q) (a1Bil : List (List Int)) (a1Mul : List Int) (a1Pos : List (List Int)) : Option Bool :=
 (fits_May k a1Accts a1Bil a1Mul a1Pos a0ID a0From a0To a0Amount a0Class a0Start a0Till).bind fun x0 =>
 some (!x0)

abbrev slices_IndexFunc_Pay__post_Post_fn1_L0T : Type := List K2q → Int → Int → List K3q → List (List Int) → List Int → List (List Int) → Option (Unit ⊕ Int)
def slices_IndexFunc_Pay__post_Post_fn1_L0b (k : Nat) (rec : slices_IndexFunc_Pay__post_Post_fn1_L0T) (s0 : List K2q) (s7 : Int) (s8 : Int) (b0_0 : List K3q) (b0_1 : List (List Int)) (b0_2 : List Int) (b0_3 : List (List Int)) : Option (Unit ⊕ Int) :=
 bif decide (s8 < s7) then (bif boundOk s8 s0.length then ((post_Post_fn1 k (s0.getD s8.toNat (0, 0, 0, 0, 0, 0, 0)).1 (s0.getD s8.toNat (0, 0, 0, 0, 0, 0, 0)).2.1 (s0.getD s8.toNat (0, 0, 0, 0, 0, 0, 0)).2.2.1 (s0.getD s8.toNat (0, 0, 0, 0, 0, 0, 0)).2.2.2.1 (s0.getD s8.toNat (0, 0, 0, 0, 0, 0, 0)).2.2.2.2.1 (s0.getD s8.toNat (0, 0, 0, 0, 0, 0, 0)).2.2.2.2.2.1 (s0.getD s8.toNat (0, 0, 0, 0, 0, 0, 0)).2.2.2.2.2.2 b0_0 b0_1 b0_2 b0_3).bind fun x0 =>
   bif x0 then some (.inr s8)
   else rec s0 s7 (w64 (s8 + 1)) b0_0 b0_1 b0_2 b0_3)
  else none)
 else some (.inl ())
def slices_IndexFunc_Pay__post_Post_fn1_L0 (k : Nat) : Nat → slices_IndexFunc_Pay__post_Post_fn1_L0T
 | 0, _, _, _, _, _, _, _ => none
 | n + 1, s0, s7, s8, b0_0, b0_1, b0_2, b0_3 => slices_IndexFunc_Pay__post_Post_fn1_L0b k (slices_IndexFunc_Pay__post_Post_fn1_L0 k n) s0 s7 s8 b0_0 b0_1 b0_2 b0_3
/-- slices.IndexFunc[[]giro/api.Pay,giro/api.Pay] -/
def slices_IndexFunc_Pay__post_Post_fn1 (k : Nat) (a0 : List K2q) (a1_0Accts : List K3q) (a1_0Bil : List (List Int)) (a1_0Mul : List Int) (a1_0Pos : List (List Int)) : Option Int :=
 (slices_IndexFunc_Pay__post_Post_fn1_L0 k k a0 (a0.length : Int) 0 a1_0Accts a1_0Bil a1_0Mul a1_0Pos).bind fun z =>
 match z with
 | .inl z1 => some (-1)
 | .inr z2 => some z2

/-- slices.ContainsFunc[[]giro/api.Pay,giro/api.Pay] -/
def slices_ContainsFunc_Pay__post_Post_fn1 (k : Nat) (a0 : List K2q) (a1_0Accts : List K3q) (a1_0Bil : List (List Int)) (a1_0Mul : List Int) (a1_0Pos : List (List Int)) : Option Bool :=
 (slices_IndexFunc_Pay__post_Post_fn1 k a0 a1_0Accts a1_0Bil a1_0Mul a1_0Pos).bind fun x0 =>
 some (decide (x0 ≥ 0))

/-- slices.Clone[[]giro/api.Acct,giro/api.Acct] -/
def slices_Clone_Acct (k : Nat) (a0 : List K3q) : Option (List K3q) :=
 bif roomB (0 + a0.length) 24 then some a0
 else none

/-- slices.Clone[[][]int64,[]int64] -/
def slices_Clone_Rowint64 (k : Nat) (a0 : List (List Int)) : Option Nat :=
 bif roomB (0 + a0.length) 24 then some a0.length
 else none

/-- slices.Clone[[]int64,int64] -/
def slices_Clone_int64 (k : Nat) (a0 : List Int) : Option (List Int) :=
 bif roomB (0 + a0.length) 8 then some a0
 else none

abbrev lim_copied_L0T : Type := List (List Int) → Int → Int → List (List Int) → Nat → Option ((List (List Int)) × Nat)
def lim_copied_L0b (k : Nat) (rec : lim_copied_L0T) (s8 : List (List Int)) (s9 : Int) (s10 : Int) (m0 : List (List Int)) (n0 : Nat) : Option ((List (List Int)) × Nat) :=
 bif decide (s10 < s9) then (bif boundOk s10 s8.length then ((slices_Clone_int64 k (s8.getD s10.toNat [])).bind fun x1 =>
   bif boundOk s10 n0 then (bif Nat.beq s10.toNat m0.length then (rec s8 s9 (w64 (s10 + 1)) (m0 ++ [x1]) n0)
    else none)
   else none)
  else none)
 else some (m0, n0)
def lim_copied_L0 (k : Nat) : Nat → lim_copied_L0T
 | 0, _, _, _, _, _ => none
 | n + 1, s8, s9, s10, m0, n0 => lim_copied_L0b k (lim_copied_L0 k n) s8 s9 s10 m0 n0
/-- giro/lim.copied -/
def lim_copied (k : Nat) (a0 : List (List Int)) : Option (List (List Int)) :=
 (slices_Clone_Rowint64 k a0).bind fun x0 =>
 (lim_copied_L0 k k a0 (a0.length : Int) 0 [] x0).bind fun z =>
 pmatEnd z.1 z.2

/-- giro/lim.Copy -/
def lim_Copy (k : Nat) (a0Accts : List K3q) (a0Bil : List (List Int)) (a0Mul : List Int) (a0Pos : List (List Int)) : Option ((List K3q) × (List (List Int)) × (List Int) × (List (List Int))) :=
 (slices_Clone_Acct k a0Accts).bind fun x0 =>
 (lim_copied k a0Bil).bind fun x1 =>
 (slices_Clone_int64 k a0Mul).bind fun x2 =>
 (lim_copied k a0Pos).bind fun x3 =>
 some (x0, x1, x2, x3)

/-- giro/acct.Is -/
def acct_Is (k : Nat) (a0Balance : Int) (a0Credit : Int) (a0Reserve : Int) : Option Bool :=
 bif decide (a0Balance > (-4611686018427387904)) then (bif decide (a0Balance < 4611686018427387904) then (bif decide (a0Credit ≥ 0) then (bif decide (a0Credit ≤ 2305843009213693952) then (bif decide (a0Reserve ≥ 0) then some (decide (a0Reserve ≤ 2305843009213693952))
     else some false)
    else some false)
   else some false)
  else some false)
 else some false

/-- giro/lim.Is$1 -/
def lim_Is_fn1 (k : Nat) (a0Balance : Int) (a0Credit : Int) (a0Reserve : Int) : Option Bool :=
 (acct_Is k a0Balance a0Credit a0Reserve).bind fun x0 =>
 some (!x0)

abbrev slices_IndexFunc_Acct__lim_Is_fn1_L0T : Type := List K3q → Int → Int → Option (Unit ⊕ Int)
def slices_IndexFunc_Acct__lim_Is_fn1_L0b (k : Nat) (rec : slices_IndexFunc_Acct__lim_Is_fn1_L0T) (s0 : List K3q) (s7 : Int) (s8 : Int) : Option (Unit ⊕ Int) :=
 bif decide (s8 < s7) then (bif boundOk s8 s0.length then ((lim_Is_fn1 k (s0.getD s8.toNat (0, 0, 0)).1 (s0.getD s8.toNat (0, 0, 0)).2.1 (s0.getD s8.toNat (0, 0, 0)).2.2).bind fun x0 =>
   bif x0 then some (.inr s8)
   else rec s0 s7 (w64 (s8 + 1)))
  else none)
 else some (.inl ())
def slices_IndexFunc_Acct__lim_Is_fn1_L0 (k : Nat) : Nat → slices_IndexFunc_Acct__lim_Is_fn1_L0T
 | 0, _, _, _ => none
 | n + 1, s0, s7, s8 => slices_IndexFunc_Acct__lim_Is_fn1_L0b k (slices_IndexFunc_Acct__lim_Is_fn1_L0 k n) s0 s7 s8
/-- slices.IndexFunc[[]giro/api.Acct,giro/api.Acct] -/
def slices_IndexFunc_Acct__lim_Is_fn1 (k : Nat) (a0 : List K3q) : Option Int :=
 (slices_IndexFunc_Acct__lim_Is_fn1_L0 k k a0 (a0.length : Int) 0).bind fun z =>
 match z with
 | .inl z1 => some (-1)
 | .inr z2 => some z2

/-- slices.ContainsFunc[[]giro/api.Acct,giro/api.Acct] -/
def slices_ContainsFunc_Acct__lim_Is_fn1 (k : Nat) (a0 : List K3q) : Option Bool :=
 (slices_IndexFunc_Acct__lim_Is_fn1 k a0).bind fun x0 =>
 some (decide (x0 ≥ 0))

/-- giro/lim.isLimit -/
def lim_isLimit (k : Nat) (a0 : Int) : Option Bool :=
 bif decide (a0 ≥ (-1)) then some (decide (a0 ≤ 2305843009213693952))
 else some false

/-- giro/lim.isRow$1 -/
def lim_isRow_fn1__lim_isLimit (k : Nat) (a0 : Int) : Option Bool :=
 (lim_isLimit k a0).bind fun x0 =>
 some (!x0)

abbrev slices_IndexFunc_int64__lim_isRow_fn1__lim_isLimit_L0T : Type := List Int → Int → Int → Option (Unit ⊕ Int)
def slices_IndexFunc_int64__lim_isRow_fn1__lim_isLimit_L0b (k : Nat) (rec : slices_IndexFunc_int64__lim_isRow_fn1__lim_isLimit_L0T) (s0 : List Int) (s7 : Int) (s8 : Int) : Option (Unit ⊕ Int) :=
 bif decide (s8 < s7) then (bif boundOk s8 s0.length then ((lim_isRow_fn1__lim_isLimit k (s0.getD s8.toNat 0)).bind fun x0 =>
   bif x0 then some (.inr s8)
   else rec s0 s7 (w64 (s8 + 1)))
  else none)
 else some (.inl ())
def slices_IndexFunc_int64__lim_isRow_fn1__lim_isLimit_L0 (k : Nat) : Nat → slices_IndexFunc_int64__lim_isRow_fn1__lim_isLimit_L0T
 | 0, _, _, _ => none
 | n + 1, s0, s7, s8 => slices_IndexFunc_int64__lim_isRow_fn1__lim_isLimit_L0b k (slices_IndexFunc_int64__lim_isRow_fn1__lim_isLimit_L0 k n) s0 s7 s8
/-- slices.IndexFunc[[]int64,int64] -/
def slices_IndexFunc_int64__lim_isRow_fn1__lim_isLimit (k : Nat) (a0 : List Int) : Option Int :=
 (slices_IndexFunc_int64__lim_isRow_fn1__lim_isLimit_L0 k k a0 (a0.length : Int) 0).bind fun z =>
 match z with
 | .inl z1 => some (-1)
 | .inr z2 => some z2

/-- slices.ContainsFunc[[]int64,int64] -/
def slices_ContainsFunc_int64__lim_isRow_fn1__lim_isLimit (k : Nat) (a0 : List Int) : Option Bool :=
 (slices_IndexFunc_int64__lim_isRow_fn1__lim_isLimit k a0).bind fun x0 =>
 some (decide (x0 ≥ 0))

/-- giro/lim.isRow -/
def lim_isRow__lim_isLimit (k : Nat) (a0 : List Int) (a1 : Int) : Option Bool :=
 bif decide ((a0.length : Int) = a1) then ((slices_ContainsFunc_int64__lim_isRow_fn1__lim_isLimit k a0).bind fun x0 =>
  some (!x0))
 else some false

abbrev lim_isSquare__lim_isLimit_L0T : Type := Int → List (List Int) → Int → Int → Option (Unit ⊕ Bool)
def lim_isSquare__lim_isLimit_L0b (k : Nat) (rec : lim_isSquare__lim_isLimit_L0T) (s1 : Int) (s13 : List (List Int)) (s14 : Int) (s15 : Int) : Option (Unit ⊕ Bool) :=
 bif decide (s15 < s14) then (bif boundOk s15 s13.length then ((lim_isRow__lim_isLimit k (s13.getD s15.toNat []) s1).bind fun x0 =>
   bif !x0 then some (.inr false)
   else rec s1 s13 s14 (w64 (s15 + 1)))
  else none)
 else some (.inl ())
def lim_isSquare__lim_isLimit_L0 (k : Nat) : Nat → lim_isSquare__lim_isLimit_L0T
 | 0, _, _, _, _ => none
 | n + 1, s1, s13, s14, s15 => lim_isSquare__lim_isLimit_L0b k (lim_isSquare__lim_isLimit_L0 k n) s1 s13 s14 s15
/-- giro/lim.isSquare -/
def lim_isSquare__lim_isLimit (k : Nat) (a0 : List (List Int)) (a1 : Int) : Option Bool :=
 bif !(decide ((a0.length : Int) = a1)) then some false
 else (lim_isSquare__lim_isLimit_L0 k k a1 a0 (a0.length : Int) 0).bind fun z =>
 match z with
 | .inl z1 => some true
 | .inr z2 => some z2

/-- giro/lim.isNet -/
def lim_isNet (k : Nat) (a0 : Int) : Option Bool :=
 bif decide (a0 > (-72057594037927936)) then some (decide (a0 < 72057594037927936))
 else some false

/-- giro/lim.isRow$1 -/
def lim_isRow_fn1__lim_isNet (k : Nat) (a0 : Int) : Option Bool :=
 (lim_isNet k a0).bind fun x0 =>
 some (!x0)

abbrev slices_IndexFunc_int64__lim_isRow_fn1__lim_isNet_L0T : Type := List Int → Int → Int → Option (Unit ⊕ Int)
def slices_IndexFunc_int64__lim_isRow_fn1__lim_isNet_L0b (k : Nat) (rec : slices_IndexFunc_int64__lim_isRow_fn1__lim_isNet_L0T) (s0 : List Int) (s7 : Int) (s8 : Int) : Option (Unit ⊕ Int) :=
 bif decide (s8 < s7) then (bif boundOk s8 s0.length then ((lim_isRow_fn1__lim_isNet k (s0.getD s8.toNat 0)).bind fun x0 =>
   bif x0 then some (.inr s8)
   else rec s0 s7 (w64 (s8 + 1)))
  else none)
 else some (.inl ())
def slices_IndexFunc_int64__lim_isRow_fn1__lim_isNet_L0 (k : Nat) : Nat → slices_IndexFunc_int64__lim_isRow_fn1__lim_isNet_L0T
 | 0, _, _, _ => none
 | n + 1, s0, s7, s8 => slices_IndexFunc_int64__lim_isRow_fn1__lim_isNet_L0b k (slices_IndexFunc_int64__lim_isRow_fn1__lim_isNet_L0 k n) s0 s7 s8
/-- slices.IndexFunc[[]int64,int64] -/
def slices_IndexFunc_int64__lim_isRow_fn1__lim_isNet (k : Nat) (a0 : List Int) : Option Int :=
 (slices_IndexFunc_int64__lim_isRow_fn1__lim_isNet_L0 k k a0 (a0.length : Int) 0).bind fun z =>
 match z with
 | .inl z1 => some (-1)
 | .inr z2 => some z2

/-- slices.ContainsFunc[[]int64,int64] -/
def slices_ContainsFunc_int64__lim_isRow_fn1__lim_isNet (k : Nat) (a0 : List Int) : Option Bool :=
 (slices_IndexFunc_int64__lim_isRow_fn1__lim_isNet k a0).bind fun x0 =>
 some (decide (x0 ≥ 0))

/-- giro/lim.isRow -/
def lim_isRow__lim_isNet (k : Nat) (a0 : List Int) (a1 : Int) : Option Bool :=
 bif decide ((a0.length : Int) = a1) then ((slices_ContainsFunc_int64__lim_isRow_fn1__lim_isNet k a0).bind fun x0 =>
  some (!x0))
 else some false

abbrev lim_isSquare__lim_isNet_L0T : Type := Int → List (List Int) → Int → Int → Option (Unit ⊕ Bool)
def lim_isSquare__lim_isNet_L0b (k : Nat) (rec : lim_isSquare__lim_isNet_L0T) (s1 : Int) (s13 : List (List Int)) (s14 : Int) (s15 : Int) : Option (Unit ⊕ Bool) :=
 bif decide (s15 < s14) then (bif boundOk s15 s13.length then ((lim_isRow__lim_isNet k (s13.getD s15.toNat []) s1).bind fun x0 =>
   bif !x0 then some (.inr false)
   else rec s1 s13 s14 (w64 (s15 + 1)))
  else none)
 else some (.inl ())
def lim_isSquare__lim_isNet_L0 (k : Nat) : Nat → lim_isSquare__lim_isNet_L0T
 | 0, _, _, _, _ => none
 | n + 1, s1, s13, s14, s15 => lim_isSquare__lim_isNet_L0b k (lim_isSquare__lim_isNet_L0 k n) s1 s13 s14 s15
/-- giro/lim.isSquare -/
def lim_isSquare__lim_isNet (k : Nat) (a0 : List (List Int)) (a1 : Int) : Option Bool :=
 bif !(decide ((a0.length : Int) = a1)) then some false
 else (lim_isSquare__lim_isNet_L0 k k a1 a0 (a0.length : Int) 0).bind fun z =>
 match z with
 | .inl z1 => some true
 | .inr z2 => some z2

abbrev lim_isTurned_L1X : Type := ((List (List Int)) × (List (List Int)) × Int × Int) ⊕ Bool
abbrev lim_isTurned_L1T : Type := List (List Int) → Int → List (List Int) → Int → Int → List Int → Int → Int → Option lim_isTurned_L1X
def lim_isTurned_L1b (k : Nat) (rec : lim_isTurned_L1T) (s0 : List (List Int)) (s3 : Int) (s7 : List (List Int)) (s8 : Int) (s9 : Int) (s14 : List Int) (s15 : Int) (s16 : Int) : Option lim_isTurned_L1X :=
 bif decide (s16 < s15) then (bif boundOk s16 s14.length then (bif boundOk s16 s0.length then (bif boundOk s3 (s0.getD s16.toNat []).length then (bif !(decide (((s0.getD s16.toNat []).getD s3.toNat 0) = (w64 (0 - (s14.getD s16.toNat 0))))) then some (.inr false)
     else rec s0 s3 s7 s8 s9 s14 s15 (w64 (s16 + 1)))
    else none)
   else none)
  else none)
 else some (.inl (s0, s7, s8, s9))
def lim_isTurned_L1 (k : Nat) : Nat → lim_isTurned_L1T
 | 0, _, _, _, _, _, _, _, _ => none
 | n + 1, s0, s3, s7, s8, s9, s14, s15, s16 => lim_isTurned_L1b k (lim_isTurned_L1 k n) s0 s3 s7 s8 s9 s14 s15 s16
abbrev lim_isTurned_L0T : Type := List (List Int) → List (List Int) → Int → Int → Option (Unit ⊕ Bool)
def lim_isTurned_L0b (k : Nat) (rec : lim_isTurned_L0T) (s0 : List (List Int)) (s7 : List (List Int)) (s8 : Int) (s9 : Int) : Option (Unit ⊕ Bool) :=
 bif decide (s9 < s8) then (bif boundOk s9 s7.length then ((lim_isTurned_L1 k k s0 s9 s7 s8 s9 (s7.getD s9.toNat []) ((s7.getD s9.toNat []).length : Int) 0).bind fun z =>
   match z with
   | .inl z1 => rec z1.1 z1.2.1 z1.2.2.1 (w64 (z1.2.2.2 + 1))
   | .inr z2 => some (.inr z2))
  else none)
 else some (.inl ())
def lim_isTurned_L0 (k : Nat) : Nat → lim_isTurned_L0T
 | 0, _, _, _, _ => none
 | n + 1, s0, s7, s8, s9 => lim_isTurned_L0b k (lim_isTurned_L0 k n) s0 s7 s8 s9
/-- giro/lim.isTurned -/
def lim_isTurned (k : Nat) (a0 : List (List Int)) : Option Bool :=
 (lim_isTurned_L0 k k a0 a0 (a0.length : Int) 0).bind fun z3 =>
 match z3 with
 | .inl z4 => some true
 | .inr z5 => some z5

/-- giro/lim.Is -/
def lim_Is (k : Nat) (a0Accts : List K3q) (a0Bil : List (List Int)) (a0Mul : List Int) (a0Pos : List (List Int)) : Option Bool :=
 bif decide ((a0Accts.length : Int) < 1) then some false
 else bif decide ((a0Accts.length : Int) > 6) then some false
 else (slices_ContainsFunc_Acct__lim_Is_fn1 k a0Accts).bind fun x0 =>
 bif x0 then some false
 else (lim_isSquare__lim_isLimit k a0Bil (a0Accts.length : Int)).bind fun x1 =>
 bif x1 then ((lim_isRow__lim_isLimit k a0Mul (a0Accts.length : Int)).bind fun x2 =>
  bif x2 then ((lim_isSquare__lim_isNet k a0Pos (a0Accts.length : Int)).bind fun x3 =>
   bif x3 then ((lim_isTurned k a0Pos).bind fun x4 =>
    some x4)
   else some false)
  else some false)
 else some false

abbrev post_Post_L0X : Type := (List K3q) × (List (List Int)) × (List Int) × (List (List Int)) × (List K3q) × (List (List Int)) × (List Int) × (List (List Int))
abbrev post_Post_L0T : Type := List K2q → Int → Int → List K3q → List (List Int) → List Int → List (List Int) → List K3q → List (List Int) → List Int → List (List Int) → Option post_Post_L0X
def post_Post_L0b (k : Nat) (rec : post_Post_L0T) (s24 : List K2q) (s25 : Int) (s26 : Int) (b0_0 : List K3q) (b0_1 : List (List Int)) (b0_2 : List Int) (b0_3 : List (List Int)) (r3 : List K3q) (m4 : List (List Int)) (r5 : List Int) (m6 : List (List Int)) : Option post_Post_L0X :=
 bif decide (s26 < s25) then (bif boundOk s26 s24.length then (bif boundOk (s24.getD s26.toNat (0, 0, 0, 0, 0, 0, 0)).2.1 r3.length then (bif boundOk (s24.getD s26.toNat (0, 0, 0, 0, 0, 0, 0)).2.2.1 r3.length then (let y0 : List K3q := (r3.set (s24.getD s26.toNat (0, 0, 0, 0, 0, 0, 0)).2.1.toNat ((w64 ((r3.getD (s24.getD s26.toNat (0, 0, 0, 0, 0, 0, 0)).2.1.toNat (0, 0, 0)).1 - (s24.getD s26.toNat (0, 0, 0, 0, 0, 0, 0)).2.2.2.1)), (r3.getD (s24.getD s26.toNat (0, 0, 0, 0, 0, 0, 0)).2.1.toNat (0, 0, 0)).2))
     let y1 : List K3q := (y0.set (s24.getD s26.toNat (0, 0, 0, 0, 0, 0, 0)).2.2.1.toNat ((w64 ((y0.getD (s24.getD s26.toNat (0, 0, 0, 0, 0, 0, 0)).2.2.1.toNat (0, 0, 0)).1 + (s24.getD s26.toNat (0, 0, 0, 0, 0, 0, 0)).2.2.2.1)), (y0.getD (s24.getD s26.toNat (0, 0, 0, 0, 0, 0, 0)).2.2.1.toNat (0, 0, 0)).2))
     bif !(decide ((s24.getD s26.toNat (0, 0, 0, 0, 0, 0, 0)).2.2.2.2.1 = 3)) then ((acct_Kept k (y1.getD (s24.getD s26.toNat (0, 0, 0, 0, 0, 0, 0)).2.1.toNat (0, 0, 0)).1 (y1.getD (s24.getD s26.toNat (0, 0, 0, 0, 0, 0, 0)).2.1.toNat (0, 0, 0)).2.1 (y1.getD (s24.getD s26.toNat (0, 0, 0, 0, 0, 0, 0)).2.1.toNat (0, 0, 0)).2.2 (s24.getD s26.toNat (0, 0, 0, 0, 0, 0, 0)).2.2.2.1).bind fun x2 =>
      let y2 : List K3q := (y1.set (s24.getD s26.toNat (0, 0, 0, 0, 0, 0, 0)).2.1.toNat ((y1.getD (s24.getD s26.toNat (0, 0, 0, 0, 0, 0, 0)).2.1.toNat (0, 0, 0)).1, (y1.getD (s24.getD s26.toNat (0, 0, 0, 0, 0, 0, 0)).2.1.toNat (0, 0, 0)).2.1, x2))
      bif boundOk (s24.getD s26.toNat (0, 0, 0, 0, 0, 0, 0)).2.1 m6.length then (bif boundOk (s24.getD s26.toNat (0, 0, 0, 0, 0, 0, 0)).2.2.1 (m6.getD (s24.getD s26.toNat (0, 0, 0, 0, 0, 0, 0)).2.1.toNat []).length then (bif boundOk (s24.getD s26.toNat (0, 0, 0, 0, 0, 0, 0)).2.2.1 (m6.getD (s24.getD s26.toNat (0, 0, 0, 0, 0, 0, 0)).2.1.toNat []).length then (let y3 : List (List Int) := (m6.set (s24.getD s26.toNat (0, 0, 0, 0, 0, 0, 0)).2.1.toNat ((m6.getD (s24.getD s26.toNat (0, 0, 0, 0, 0, 0, 0)).2.1.toNat []).set (s24.getD s26.toNat (0, 0, 0, 0, 0, 0, 0)).2.2.1.toNat (w64 (((m6.getD (s24.getD s26.toNat (0, 0, 0, 0, 0, 0, 0)).2.1.toNat []).getD (s24.getD s26.toNat (0, 0, 0, 0, 0, 0, 0)).2.2.1.toNat 0) + (s24.getD s26.toNat (0, 0, 0, 0, 0, 0, 0)).2.2.2.1))))
         bif boundOk (s24.getD s26.toNat (0, 0, 0, 0, 0, 0, 0)).2.2.1 y3.length then (bif boundOk (s24.getD s26.toNat (0, 0, 0, 0, 0, 0, 0)).2.1 (y3.getD (s24.getD s26.toNat (0, 0, 0, 0, 0, 0, 0)).2.2.1.toNat []).length then (bif boundOk (s24.getD s26.toNat (0, 0, 0, 0, 0, 0, 0)).2.1 (y3.getD (s24.getD s26.toNat (0, 0, 0, 0, 0, 0, 0)).2.2.1.toNat []).length then (let y4 : List (List Int) := (y3.set (s24.getD s26.toNat (0, 0, 0, 0, 0, 0, 0)).2.2.1.toNat ((y3.getD (s24.getD s26.toNat (0, 0, 0, 0, 0, 0, 0)).2.2.1.toNat []).set (s24.getD s26.toNat (0, 0, 0, 0, 0, 0, 0)).2.1.toNat (w64 (((y3.getD (s24.getD s26.toNat (0, 0, 0, 0, 0, 0, 0)).2.2.1.toNat []).getD (s24.getD s26.toNat (0, 0, 0, 0, 0, 0, 0)).2.1.toNat 0) - (s24.getD s26.toNat (0, 0, 0, 0, 0, 0, 0)).2.2.2.1))))
            rec s24 s25 (w64 (s26 + 1)) b0_0 b0_1 b0_2 b0_3 y2 m4 r5 y4)
           else none)
          else none)
         else none)
        else none)
       else none)
      else none)
     else bif boundOk (s24.getD s26.toNat (0, 0, 0, 0, 0, 0, 0)).2.1 m6.length then (bif boundOk (s24.getD s26.toNat (0, 0, 0, 0, 0, 0, 0)).2.2.1 (m6.getD (s24.getD s26.toNat (0, 0, 0, 0, 0, 0, 0)).2.1.toNat []).length then (bif boundOk (s24.getD s26.toNat (0, 0, 0, 0, 0, 0, 0)).2.2.1 (m6.getD (s24.getD s26.toNat (0, 0, 0, 0, 0, 0, 0)).2.1.toNat []).length then (let y5 : List (List Int) := (m6.set (s24.getD s26.toNat (0, 0, 0, 0, 0, 0, 0)).2.1.toNat ((m6.getD (s24.getD s26.toNat (0, 0, 0, 0, 0, 0, 0)).2.1.toNat []).set (s24.getD s26.toNat (0, 0, 0, 0, 0, 0, 0)).2.2.1.toNat (w64 (((m6.getD (s24.getD s26.toNat (0, 0, 0, 0, 0, 0, 0)).2.1.toNat []).getD (s24.getD s26.toNat (0, 0, 0, 0, 0, 0, 0)).2.2.1.toNat 0) + (s24.getD s26.toNat (0, 0, 0, 0, 0, 0, 0)).2.2.2.1))))
        bif boundOk (s24.getD s26.toNat (0, 0, 0, 0, 0, 0, 0)).2.2.1 y5.length then (bif boundOk (s24.getD s26.toNat (0, 0, 0, 0, 0, 0, 0)).2.1 (y5.getD (s24.getD s26.toNat (0, 0, 0, 0, 0, 0, 0)).2.2.1.toNat []).length then (bif boundOk (s24.getD s26.toNat (0, 0, 0, 0, 0, 0, 0)).2.1 (y5.getD (s24.getD s26.toNat (0, 0, 0, 0, 0, 0, 0)).2.2.1.toNat []).length then (let y6 : List (List Int) := (y5.set (s24.getD s26.toNat (0, 0, 0, 0, 0, 0, 0)).2.2.1.toNat ((y5.getD (s24.getD s26.toNat (0, 0, 0, 0, 0, 0, 0)).2.2.1.toNat []).set (s24.getD s26.toNat (0, 0, 0, 0, 0, 0, 0)).2.1.toNat (w64 (((y5.getD (s24.getD s26.toNat (0, 0, 0, 0, 0, 0, 0)).2.2.1.toNat []).getD (s24.getD s26.toNat (0, 0, 0, 0, 0, 0, 0)).2.1.toNat 0) - (s24.getD s26.toNat (0, 0, 0, 0, 0, 0, 0)).2.2.2.1))))
           rec s24 s25 (w64 (s26 + 1)) b0_0 b0_1 b0_2 b0_3 y1 m4 r5 y6)
          else none)
         else none)
        else none)
       else none)
      else none)
     else none)
    else none)
   else none)
  else none)
 else some (b0_0, b0_1, b0_2, b0_3, r3, m4, r5, m6)
def post_Post_L0 (k : Nat) : Nat → post_Post_L0T
 | 0, _, _, _, _, _, _, _, _, _, _, _ => none
 | n + 1, s24, s25, s26, b0_0, b0_1, b0_2, b0_3, r3, m4, r5, m6 => post_Post_L0b k (post_Post_L0 k n) s24 s25 s26 b0_0 b0_1 b0_2 b0_3 r3 m4 r5 m6
/-- giro/post.Post -/
def post_Post (k : Nat) (a0Accts : List K3q) (a0Bil : List (List Int)) (a0Mul : List Int) (a0Pos : List (List Int)) (a1 : List K2q) : Option ((List K3q) × (List (List Int)) × (List Int) × (List (List Int)) × Int) :=
 bif decide ((a1.length : Int) > 64) then some (a0Accts, a0Bil, a0Mul, a0Pos, 1)
 else (slices_ContainsFunc_Pay__post_Post_fn1 k a1 a0Accts a0Bil a0Mul a0Pos).bind fun x0 =>
 bif x0 then some (a0Accts, a0Bil, a0Mul, a0Pos, 1)
 else (lim_Copy k a0Accts a0Bil a0Mul a0Pos).bind fun x1 =>
 (post_Post_L0 k k a1 (a1.length : Int) 0 a0Accts a0Bil a0Mul a0Pos x1.1 x1.2.1 x1.2.2.1 x1.2.2.2).bind fun z =>
 (lim_Is k z.2.2.2.2.1 z.2.2.2.2.2.1 z.2.2.2.2.2.2.1 z.2.2.2.2.2.2.2).bind fun x3 =>
 bif !x3 then some (z.1, z.2.1, z.2.2.1, z.2.2.2.1, 8)
 else some (z.2.2.2.2.1, z.2.2.2.2.2.1, z.2.2.2.2.2.2.1, z.2.2.2.2.2.2.2, 0)

/-- giro/row.Find$1 -/
def row_Find_fn1 (k : Nat) (a0ID : Int) (a0From : Int) (a0To : Int) (a0Amount : Int) (a0Class : Int) (a0Start : Int) (a0Till : Int) (a1 : Int) : Option Bool :=
 some (decide (a0ID = a1))

abbrev slices_IndexFunc_Pay__row_Find_fn1_L0T : Type := List K2q → Int → Int → Int → Option (Unit ⊕ Int)
def slices_IndexFunc_Pay__row_Find_fn1_L0b (k : Nat) (rec : slices_IndexFunc_Pay__row_Find_fn1_L0T) (s0 : List K2q) (s7 : Int) (s8 : Int) (b0_0 : Int) : Option (Unit ⊕ Int) :=
 bif decide (s8 < s7) then (bif boundOk s8 s0.length then ((row_Find_fn1 k (s0.getD s8.toNat (0, 0, 0, 0, 0, 0, 0)).1 (s0.getD s8.toNat (0, 0, 0, 0, 0, 0, 0)).2.1 (s0.getD s8.toNat (0, 0, 0, 0, 0, 0, 0)).2.2.1 (s0.getD s8.toNat (0, 0, 0, 0, 0, 0, 0)).2.2.2.1 (s0.getD s8.toNat (0, 0, 0, 0, 0, 0, 0)).2.2.2.2.1 (s0.getD s8.toNat (0, 0, 0, 0, 0, 0, 0)).2.2.2.2.2.1 (s0.getD s8.toNat (0, 0, 0, 0, 0, 0, 0)).2.2.2.2.2.2 b0_0).bind fun x0 =>
   bif x0 then some (.inr s8)
   else rec s0 s7 (w64 (s8 + 1)) b0_0)
  else none)
 else some (.inl ())
def slices_IndexFunc_Pay__row_Find_fn1_L0 (k : Nat) : Nat → slices_IndexFunc_Pay__row_Find_fn1_L0T
 | 0, _, _, _, _ => none
 | n + 1, s0, s7, s8, b0_0 => slices_IndexFunc_Pay__row_Find_fn1_L0b k (slices_IndexFunc_Pay__row_Find_fn1_L0 k n) s0 s7 s8 b0_0
/-- slices.IndexFunc[[]giro/api.Pay,giro/api.Pay] -/
def slices_IndexFunc_Pay__row_Find_fn1 (k : Nat) (a0 : List K2q) (a1_0 : Int) : Option Int :=
 (slices_IndexFunc_Pay__row_Find_fn1_L0 k k a0 (a0.length : Int) 0 a1_0).bind fun z =>
 match z with
 | .inl z1 => some (-1)
 | .inr z2 => some z2

/-- giro/row.Find -/
def row_Find (k : Nat) (a0 : List K2q) (a1 : Int) : Option Int :=
 (slices_IndexFunc_Pay__row_Find_fn1 k a0 a1).bind fun x0 =>
 some x0

/-- slices.Clone[[]giro/api.Pay,giro/api.Pay] -/
def slices_Clone_Pay (k : Nat) (a0 : List K2q) : Option (List K2q) :=
 bif roomB (0 + a0.length) 56 then some a0
 else none

/-- slices.Delete[[]giro/api.Pay,giro/api.Pay] -/
def slices_Delete_Pay (k : Nat) (a0 : List K2q) (a1 : Int) (a2 : Int) : Option (List K2q) :=
 bif ((((decide (0 ≤ a1)) && (decide (a1 ≤ a2))) && (decide (a2 ≤ (a0.length : Int)))) && (decide (((a2.toNat : Nat) : Int) ≤ (a0.length : Int)))) && (decide ((a0.length : Int) ≤ (a0.length : Int))) then (bif decide (a1 = a2) then some a0
  else bif (decide (0 ≤ a1)) && (decide (a1 ≤ (a0.length : Int))) then (bif (decide (0 ≤ a2)) && (decide (a2 ≤ (a0.length : Int))) then (bif Nat.ble (a1.toNat - 0) (0 + a2.toNat) then (let y0 : List K2q := (((List.take (a1.toNat - 0) a0) ++ (slc a0 (0 + a2.toNat) (a0.length - a2.toNat))) ++ (List.drop ((a1.toNat - 0) + (a0.length - a2.toNat)) a0))
     bif ((decide (0 ≤ ((slc y0 0 ((a1.toNat - 0) + (a0.length - a2.toNat))).length : Int))) && (decide (((slc y0 0 ((a1.toNat - 0) + (a0.length - a2.toNat))).length : Int) ≤ (a0.length : Int)))) && (decide ((a0.length : Int) ≤ (((y0.length - 0) : Nat) : Int))) then (let y1 : List K2q := (((List.take (0 + (slc y0 0 ((a1.toNat - 0) + (a0.length - a2.toNat))).length) y0) ++ (List.replicate (a0.length - (slc y0 0 ((a1.toNat - 0) + (a0.length - a2.toNat))).length) ((0, 0, 0, 0, 0, 0, 0) : Int × Int × Int × Int × Int × Int × Int))) ++ (List.drop ((0 + (slc y0 0 ((a1.toNat - 0) + (a0.length - a2.toNat))).length) + (a0.length - (slc y0 0 ((a1.toNat - 0) + (a0.length - a2.toNat))).length)) y0))
      some (List.take ((a1.toNat - 0) + (a0.length - a2.toNat)) y1))
     else none)
    else none)
   else none)
  else none)
 else none

/-- giro/row.Drop -/
def row_Drop (k : Nat) (a0 : List K2q) (a1 : Int) : Option ((List K2q) × Int × Int × Int × Int × Int × Int × Int × Int) :=
 (row_Find k a0 a1).bind fun x0 =>
 bif decide (x0 < 0) then some (a0, 0, 0, 0, 0, 0, 0, 0, 4)
 else (slices_Clone_Pay k a0).bind fun x1 =>
 (slices_Delete_Pay k x1 x0 (w64 (x0 + 1))).bind fun x2 =>
 bif boundOk x0 a0.length then some (x2, (a0.getD x0.toNat (0, 0, 0, 0, 0, 0, 0)).1, (a0.getD x0.toNat (0, 0, 0, 0, 0, 0, 0)).2.1, (a0.getD x0.toNat (0, 0, 0, 0, 0, 0, 0)).2.2.1, (a0.getD x0.toNat (0, 0, 0, 0, 0, 0, 0)).2.2.2.1, (a0.getD x0.toNat (0, 0, 0, 0, 0, 0, 0)).2.2.2.2.1, (a0.getD x0.toNat (0, 0, 0, 0, 0, 0, 0)).2.2.2.2.2.1, (a0.getD x0.toNat (0, 0, 0, 0, 0, 0, 0)).2.2.2.2.2.2, 0)
 else none

abbrev knot_Run_L0X : Type := (List K2q) × (List K3q) × (List (List Int)) × (List Int) × (List (List Int)) × (List K2q)
abbrev knot_Run_L0T : Type := List K2q → Int → Int → List K3q → List (List Int) → List Int → List (List Int) → List K2q → Option knot_Run_L0X
def knot_Run_L0b (k : Nat) (rec : knot_Run_L0T) (s7 : List K2q) (s39 : Int) (s40 : Int) (b0_0 : List K3q) (b0_1 : List (List Int)) (b0_2 : List Int) (b0_3 : List (List Int)) (r1 : List K2q) : Option knot_Run_L0X :=
 bif decide (s40 < s39) then (bif boundOk s40 r1.length then ((row_Drop k s7 (r1.getD s40.toNat (0, 0, 0, 0, 0, 0, 0)).1).bind fun x4 =>
   rec x4.1 s39 (w64 (s40 + 1)) b0_0 b0_1 b0_2 b0_3 r1)
  else none)
 else some (s7, b0_0, b0_1, b0_2, b0_3, r1)
def knot_Run_L0 (k : Nat) : Nat → knot_Run_L0T
 | 0, _, _, _, _, _, _, _, _ => none
 | n + 1, s7, s39, s40, b0_0, b0_1, b0_2, b0_3, r1 => knot_Run_L0b k (knot_Run_L0 k n) s7 s39 s40 b0_0 b0_1 b0_2 b0_3 r1
/-- giro/knot.Run -/
def knot_Run (k : Nat) (a0Accts : List K3q) (a0Bil : List (List Int)) (a0Mul : List Int) (a0Pos : List (List Int)) (a1 : List K2q) (a2 : Int) : Option ((List K3q) × (List (List Int)) × (List Int) × (List (List Int)) × (List K2q) × (List K2q)) :=
 (knot_Most k a0Accts a0Bil a0Mul a0Pos a1 a2).bind fun x0 =>
 (view_Ready k a1 a2).bind fun x1 =>
 (view_Heads k x1 x0.1).bind fun x2 =>
 (post_Post k a0Accts a0Bil a0Mul a0Pos x2).bind fun x3 =>
 bif !(decide (x3.2.2.2.2 = 0)) then some (a0Accts, a0Bil, a0Mul, a0Pos, a1, [])
 else (knot_Run_L0 k k a1 (x2.length : Int) 0 x3.1 x3.2.1 x3.2.2.1 x3.2.2.2.1 x2).bind fun z =>
 some (z.2.1, z.2.2.1, z.2.2.2.1, z.2.2.2.2.1, z.1, z.2.2.2.2.2)

/-- giro/giroref15.May -/
def giroref15_May (k : Nat) (a0Accts : List K3q) (a0Bil : List (List Int)) (a0Mul : List Int) (a0Pos : List (List Int)) (a1ID : Int) (a1From : Int) (a1To : Int) (a1Amount : Int) (a1Class : Int) (a1Start : Int) (a1Till : Int) : Option Bool :=
 bif decide (a1From ≥ 0) then (bif decide (a1From < (a0Accts.length : Int)) then (bif decide (a1To ≥ 0) then (bif decide (a1To < (a0Accts.length : Int)) then (bif !(decide (a1From = a1To)) then (bif decide (a1Amount ≥ 1) then (bif decide (a1Amount ≤ 1099511627776) then (bif decide (a1Class ≥ 1) then some (decide (a1Class ≤ 3))
        else some false)
       else some false)
      else some false)
     else some false)
    else some false)
   else some false)
  else some false)
 else some false

abbrev giroref15_All_L0X : Type := (List K2q) ⊕ Bool
abbrev giroref15_All_L0T : Type := List K2q → Int → List K3q → List (List Int) → List Int → List (List Int) → Option giroref15_All_L0X
def giroref15_All_L0b (k : Nat) (rec : giroref15_All_L0T) (s1 : List K2q) (s5 : Int) (b0_0 : List K3q) (b0_1 : List (List Int)) (b0_2 : List Int) (b0_3 : List (List Int)) : Option giroref15_All_L0X :=
 bif decide (s5 < (s1.length : Int)) then (bif boundOk s5 s1.length then ((giroref15_May k b0_0 b0_1 b0_2 b0_3 (s1.getD s5.toNat (0, 0, 0, 0, 0, 0, 0)).1 (s1.getD s5.toNat (0, 0, 0, 0, 0, 0, 0)).2.1 (s1.getD s5.toNat (0, 0, 0, 0, 0, 0, 0)).2.2.1 (s1.getD s5.toNat (0, 0, 0, 0, 0, 0, 0)).2.2.2.1 (s1.getD s5.toNat (0, 0, 0, 0, 0, 0, 0)).2.2.2.2.1 (s1.getD s5.toNat (0, 0, 0, 0, 0, 0, 0)).2.2.2.2.2.1 (s1.getD s5.toNat (0, 0, 0, 0, 0, 0, 0)).2.2.2.2.2.2).bind fun x0 =>
   bif !x0 then some (.inr false)
   else rec s1 (w64 (s5 + 1)) b0_0 b0_1 b0_2 b0_3)
  else none)
 else some (.inl s1)
def giroref15_All_L0 (k : Nat) : Nat → giroref15_All_L0T
 | 0, _, _, _, _, _, _ => none
 | n + 1, s1, s5, b0_0, b0_1, b0_2, b0_3 => giroref15_All_L0b k (giroref15_All_L0 k n) s1 s5 b0_0 b0_1 b0_2 b0_3
/-- giro/giroref15.All -/
def giroref15_All (k : Nat) (a0Accts : List K3q) (a0Bil : List (List Int)) (a0Mul : List Int) (a0Pos : List (List Int)) (a1 : List K2q) : Option Bool :=
 (giroref15_All_L0 k k a1 0 a0Accts a0Bil a0Mul a0Pos).bind fun z =>
 match z with
 | .inl z1 => some (decide ((z1.length : Int) ≤ 64))
 | .inr z2 => some z2

abbrev giroref10_rows_L0T : Type := List (List Int) → Int → List (List Int) → Option (List (List Int))
def giroref10_rows_L0b (k : Nat) (rec : giroref10_rows_L0T) (s0 : List (List Int)) (s4 : Int) (m0 : List (List Int)) : Option (List (List Int)) :=
 bif decide (s4 < (s0.length : Int)) then (bif boundOk s4 s0.length then (bif roomB (0 + (s0.getD s4.toNat []).length) 8 then (bif roomB (m0.length + 1) 24 then (rec s0 (w64 (s4 + 1)) (m0 ++ [(s0.getD s4.toNat [])]))
    else none)
   else none)
  else none)
 else some m0
def giroref10_rows_L0 (k : Nat) : Nat → giroref10_rows_L0T
 | 0, _, _, _ => none
 | n + 1, s0, s4, m0 => giroref10_rows_L0b k (giroref10_rows_L0 k n) s0 s4 m0
/-- giro/giroref10.rows -/
def giroref10_rows (k : Nat) (a0 : List (List Int)) : Option (List (List Int)) :=
 (giroref10_rows_L0 k k a0 0 []).bind fun z =>
 some z

/-- giro/giroref10.Copy -/
def giroref10_Copy (k : Nat) (a0Accts : List K3q) (a0Bil : List (List Int)) (a0Mul : List Int) (a0Pos : List (List Int)) : Option ((List K3q) × (List (List Int)) × (List Int) × (List (List Int))) :=
 bif roomB (0 + a0Accts.length) 24 then ((giroref10_rows k a0Bil).bind fun x0 =>
  bif roomB (0 + a0Mul.length) 8 then ((giroref10_rows k a0Pos).bind fun x1 =>
   some (a0Accts, x0, a0Mul, x1))
  else none)
 else none

/-- giro/giroref15.Spent -/
def giroref15_Spent (k : Nat) (a0 : List K2q) (a1 : Int) : Option Int :=
 (giroref15_classed k a0 a1).bind fun x0 =>
 some x0.2

/-- giro/giroref15.Sent -/
def giroref15_Sent (k : Nat) (a0 : List K2q) (a1 : Int) (a2 : Int) : Option Int :=
 (giroref15_sent k a0 a1 a2).bind fun x0 =>
 (giroref15_sent k a0 a2 a1).bind fun x1 =>
 some (w64 (x0 - x1))

abbrev giroref10_square_L0T : Type := List (List Int) → Int → Int → Option (Unit ⊕ Bool)
def giroref10_square_L0b (k : Nat) (rec : giroref10_square_L0T) (s0 : List (List Int)) (s1 : Int) (s5 : Int) : Option (Unit ⊕ Bool) :=
 bif decide (s5 < s1) then (bif boundOk s5 s0.length then (bif !(decide (((s0.getD s5.toNat []).length : Int) = s1)) then some (.inr false)
   else rec s0 s1 (w64 (s5 + 1)))
  else none)
 else some (.inl ())
def giroref10_square_L0 (k : Nat) : Nat → giroref10_square_L0T
 | 0, _, _, _ => none
 | n + 1, s0, s1, s5 => giroref10_square_L0b k (giroref10_square_L0 k n) s0 s1 s5
/-- giro/giroref10.square -/
def giroref10_square (k : Nat) (a0 : List (List Int)) (a1 : Int) : Option Bool :=
 bif !(decide ((a0.length : Int) = a1)) then some false
 else (giroref10_square_L0 k k a0 a1 0).bind fun z =>
 match z with
 | .inl z1 => some true
 | .inr z2 => some z2

/-- giro/giroref9.Is -/
def giroref9_Is (k : Nat) (a0Balance : Int) (a0Credit : Int) (a0Reserve : Int) : Option Bool :=
 bif decide (a0Balance > (-4611686018427387904)) then (bif decide (a0Balance < 4611686018427387904) then (bif decide (a0Credit ≥ 0) then (bif decide (a0Credit ≤ 2305843009213693952) then (bif decide (a0Reserve ≥ 0) then some (decide (a0Reserve ≤ 2305843009213693952))
     else some false)
    else some false)
   else some false)
  else some false)
 else some false

/-- giro/giroref10.limit -/
def giroref10_limit (k : Nat) (a0 : Int) : Option Bool :=
 bif decide (a0 ≥ (-1)) then some (decide (a0 ≤ 2305843009213693952))
 else some false

abbrev giroref10_Is_L1X : Type := (Int × Int × (List K3q) × (List (List Int)) × (List Int) × (List (List Int))) ⊕ Bool
abbrev giroref10_Is_L1T : Type := Int → Int → Int → List K3q → List (List Int) → List Int → List (List Int) → Option giroref10_Is_L1X
def giroref10_Is_L1b (k : Nat) (rec : giroref10_Is_L1T) (s3 : Int) (s4 : Int) (s5 : Int) (b0_0 : List K3q) (b0_1 : List (List Int)) (b0_2 : List Int) (b0_3 : List (List Int)) : Option giroref10_Is_L1X :=
 bif decide (s5 < s3) then (bif boundOk s4 b0_1.length then (bif boundOk s5 (b0_1.getD s4.toNat []).length then ((giroref10_limit k ((b0_1.getD s4.toNat []).getD s5.toNat 0)).bind fun x4 =>
    bif !x4 then some (.inr false)
    else bif boundOk s4 b0_3.length then (bif boundOk s5 (b0_3.getD s4.toNat []).length then (bif decide (((b0_3.getD s4.toNat []).getD s5.toNat 0) ≤ (-72057594037927936)) then some (.inr false)
      else bif boundOk s4 b0_3.length then (bif boundOk s5 (b0_3.getD s4.toNat []).length then (bif decide (((b0_3.getD s4.toNat []).getD s5.toNat 0) ≥ 72057594037927936) then some (.inr false)
        else bif boundOk s4 b0_3.length then (bif boundOk s5 (b0_3.getD s4.toNat []).length then (bif boundOk s5 b0_3.length then (bif boundOk s4 (b0_3.getD s5.toNat []).length then (bif !(decide (((b0_3.getD s4.toNat []).getD s5.toNat 0) = (w64 (0 - ((b0_3.getD s5.toNat []).getD s4.toNat 0))))) then some (.inr false)
            else rec s3 s4 (w64 (s5 + 1)) b0_0 b0_1 b0_2 b0_3)
           else none)
          else none)
         else none)
        else none)
       else none)
      else none)
     else none)
    else none)
   else none)
  else none)
 else some (.inl (s3, s4, b0_0, b0_1, b0_2, b0_3))
def giroref10_Is_L1 (k : Nat) : Nat → giroref10_Is_L1T
 | 0, _, _, _, _, _, _, _ => none
 | n + 1, s3, s4, s5, b0_0, b0_1, b0_2, b0_3 => giroref10_Is_L1b k (giroref10_Is_L1 k n) s3 s4 s5 b0_0 b0_1 b0_2 b0_3
abbrev giroref10_Is_L0T : Type := Int → Int → List K3q → List (List Int) → List Int → List (List Int) → Option (Unit ⊕ Bool)
def giroref10_Is_L0b (k : Nat) (rec : giroref10_Is_L0T) (s3 : Int) (s4 : Int) (b0_0 : List K3q) (b0_1 : List (List Int)) (b0_2 : List Int) (b0_3 : List (List Int)) : Option (Unit ⊕ Bool) :=
 bif decide (s4 < s3) then (bif boundOk s4 b0_0.length then ((giroref9_Is k (b0_0.getD s4.toNat (0, 0, 0)).1 (b0_0.getD s4.toNat (0, 0, 0)).2.1 (b0_0.getD s4.toNat (0, 0, 0)).2.2).bind fun x2 =>
   bif !x2 then some (.inr false)
   else bif boundOk s4 b0_2.length then ((giroref10_limit k (b0_2.getD s4.toNat 0)).bind fun x3 =>
    bif !x3 then some (.inr false)
    else (giroref10_Is_L1 k k s3 s4 0 b0_0 b0_1 b0_2 b0_3).bind fun z =>
    match z with
    | .inl z1 => rec z1.1 (w64 (z1.2.1 + 1)) z1.2.2.1 z1.2.2.2.1 z1.2.2.2.2.1 z1.2.2.2.2.2
    | .inr z2 => some (.inr z2))
   else none)
  else none)
 else some (.inl ())
def giroref10_Is_L0 (k : Nat) : Nat → giroref10_Is_L0T
 | 0, _, _, _, _, _, _ => none
 | n + 1, s3, s4, b0_0, b0_1, b0_2, b0_3 => giroref10_Is_L0b k (giroref10_Is_L0 k n) s3 s4 b0_0 b0_1 b0_2 b0_3
/-- giro/giroref10.Is -/
def giroref10_Is (k : Nat) (a0Accts : List K3q) (a0Bil : List (List Int)) (a0Mul : List Int) (a0Pos : List (List Int)) : Option Bool :=
 bif decide ((a0Accts.length : Int) < 1) then some false
 else bif decide ((a0Accts.length : Int) > 6) then some false
 else (giroref10_square k a0Bil (a0Accts.length : Int)).bind fun x0 =>
 bif !x0 then some false
 else (giroref10_square k a0Pos (a0Accts.length : Int)).bind fun x1 =>
 bif !x1 then some false
 else bif !(decide ((a0Mul.length : Int) = (a0Accts.length : Int))) then some false
 else (giroref10_Is_L0 k k (a0Accts.length : Int) 0 a0Accts a0Bil a0Mul a0Pos).bind fun z3 =>
 match z3 with
 | .inl z4 => some true
 | .inr z5 => some z5

abbrev giroref16_Post_L1X : Type := (List K2q) × Int × (List K3q) × (List (List Int)) × (List Int) × (List (List Int)) × (List K3q) × (List (List Int)) × (List Int) × (List (List Int))
abbrev giroref16_Post_L1T : Type := List K2q → Int → Int → List K3q → List (List Int) → List Int → List (List Int) → List K3q → List (List Int) → List Int → List (List Int) → Option giroref16_Post_L1X
def giroref16_Post_L1b (k : Nat) (rec : giroref16_Post_L1T) (s1 : List K2q) (s7 : Int) (s8 : Int) (b0_0 : List K3q) (b0_1 : List (List Int)) (b0_2 : List Int) (b0_3 : List (List Int)) (r3 : List K3q) (m4 : List (List Int)) (r5 : List Int) (m6 : List (List Int)) : Option giroref16_Post_L1X :=
 bif decide (s8 < (r3.length : Int)) then ((giroref15_Sent k s1 s7 s8).bind fun x4 =>
  bif boundOk s7 r3.length then (bif boundOk s7 r3.length then (let y1 : List K3q := (r3.set s7.toNat ((w64 ((r3.getD s7.toNat (0, 0, 0)).1 - x4)), (r3.getD s7.toNat (0, 0, 0)).2))
    bif boundOk s7 m6.length then (bif boundOk s7 m6.length then (bif boundOk s8 (m6.getD s7.toNat []).length then (bif boundOk s8 (m6.getD s7.toNat []).length then (let y2 : List (List Int) := (m6.set s7.toNat ((m6.getD s7.toNat []).set s8.toNat (w64 (((m6.getD s7.toNat []).getD s8.toNat 0) + x4))))
        rec s1 s7 (w64 (s8 + 1)) b0_0 b0_1 b0_2 b0_3 y1 m4 r5 y2)
       else none)
      else none)
     else none)
    else none)
   else none)
  else none)
 else some (s1, s7, b0_0, b0_1, b0_2, b0_3, r3, m4, r5, m6)
def giroref16_Post_L1 (k : Nat) : Nat → giroref16_Post_L1T
 | 0, _, _, _, _, _, _, _, _, _, _, _ => none
 | n + 1, s1, s7, s8, b0_0, b0_1, b0_2, b0_3, r3, m4, r5, m6 => giroref16_Post_L1b k (giroref16_Post_L1 k n) s1 s7 s8 b0_0 b0_1 b0_2 b0_3 r3 m4 r5 m6
abbrev giroref16_Post_L0X : Type := (List K3q) × (List (List Int)) × (List Int) × (List (List Int)) × (List K3q) × (List (List Int)) × (List Int) × (List (List Int))
abbrev giroref16_Post_L0T : Type := List K2q → Int → List K3q → List (List Int) → List Int → List (List Int) → List K3q → List (List Int) → List Int → List (List Int) → Option giroref16_Post_L0X
def giroref16_Post_L0b (k : Nat) (rec : giroref16_Post_L0T) (s1 : List K2q) (s7 : Int) (b0_0 : List K3q) (b0_1 : List (List Int)) (b0_2 : List Int) (b0_3 : List (List Int)) (r3 : List K3q) (m4 : List (List Int)) (r5 : List Int) (m6 : List (List Int)) : Option giroref16_Post_L0X :=
 bif decide (s7 < (r3.length : Int)) then (bif boundOk s7 r3.length then ((giroref15_Spent k s1 s7).bind fun x2 =>
   (giroref9_Kept k (r3.getD s7.toNat (0, 0, 0)).1 (r3.getD s7.toNat (0, 0, 0)).2.1 (r3.getD s7.toNat (0, 0, 0)).2.2 x2).bind fun x3 =>
   bif boundOk s7 r3.length then (let y0 : List K3q := (r3.set s7.toNat ((r3.getD s7.toNat (0, 0, 0)).1, (r3.getD s7.toNat (0, 0, 0)).2.1, x3))
    (giroref16_Post_L1 k k s1 s7 0 b0_0 b0_1 b0_2 b0_3 y0 m4 r5 m6).bind fun z =>
    rec z.1 (w64 (z.2.1 + 1)) z.2.2.1 z.2.2.2.1 z.2.2.2.2.1 z.2.2.2.2.2.1 z.2.2.2.2.2.2.1 z.2.2.2.2.2.2.2.1 z.2.2.2.2.2.2.2.2.1 z.2.2.2.2.2.2.2.2.2)
   else none)
  else none)
 else some (b0_0, b0_1, b0_2, b0_3, r3, m4, r5, m6)
def giroref16_Post_L0 (k : Nat) : Nat → giroref16_Post_L0T
 | 0, _, _, _, _, _, _, _, _, _, _ => none
 | n + 1, s1, s7, b0_0, b0_1, b0_2, b0_3, r3, m4, r5, m6 => giroref16_Post_L0b k (giroref16_Post_L0 k n) s1 s7 b0_0 b0_1 b0_2 b0_3 r3 m4 r5 m6
/-- giro/giroref16.Post -/
def giroref16_Post (k : Nat) (a0Accts : List K3q) (a0Bil : List (List Int)) (a0Mul : List Int) (a0Pos : List (List Int)) (a1 : List K2q) : Option ((List K3q) × (List (List Int)) × (List Int) × (List (List Int)) × Int) :=
 (giroref15_All k a0Accts a0Bil a0Mul a0Pos a1).bind fun x0 =>
 bif !x0 then some (a0Accts, a0Bil, a0Mul, a0Pos, 1)
 else (giroref10_Copy k a0Accts a0Bil a0Mul a0Pos).bind fun x1 =>
 (giroref16_Post_L0 k k a1 0 a0Accts a0Bil a0Mul a0Pos x1.1 x1.2.1 x1.2.2.1 x1.2.2.2).bind fun z1 =>
 (giroref10_Is k z1.2.2.2.2.1 z1.2.2.2.2.2.1 z1.2.2.2.2.2.2.1 z1.2.2.2.2.2.2.2).bind fun x5 =>
 bif !x5 then some (z1.1, z1.2.1, z1.2.2.1, z1.2.2.2.1, 8)
 else some (z1.2.2.2.2.1, z1.2.2.2.2.2.1, z1.2.2.2.2.2.2.1, z1.2.2.2.2.2.2.2, 0)

/-- giro/giroref13.Drop -/
def giroref13_Drop (k : Nat) (a0 : List K2q) (a1 : Int) : Option ((List K2q) × Int × Int × Int × Int × Int × Int × Int × Int) :=
 (giroref13_Find k a0 a1).bind fun x0 =>
 bif decide (x0 < 0) then some (a0, 0, 0, 0, 0, 0, 0, 0, 4)
 else bif (decide (0 ≤ x0)) && (decide (x0 ≤ (a0.length : Int))) then (bif roomB (0 + (List.take x0.toNat a0).length) 56 then (bif (decide (0 ≤ (w64 (x0 + 1)))) && (decide ((w64 (x0 + 1)) ≤ (a0.length : Int))) then (bif roomB ((List.take x0.toNat a0).length + (List.drop (w64 (x0 + 1)).toNat a0).length) 56 then (bif boundOk x0 a0.length then some (((List.take x0.toNat a0) ++ (List.drop (w64 (x0 + 1)).toNat a0)), (a0.getD x0.toNat (0, 0, 0, 0, 0, 0, 0)).1, (a0.getD x0.toNat (0, 0, 0, 0, 0, 0, 0)).2.1, (a0.getD x0.toNat (0, 0, 0, 0, 0, 0, 0)).2.2.1, (a0.getD x0.toNat (0, 0, 0, 0, 0, 0, 0)).2.2.2.1, (a0.getD x0.toNat (0, 0, 0, 0, 0, 0, 0)).2.2.2.2.1, (a0.getD x0.toNat (0, 0, 0, 0, 0, 0, 0)).2.2.2.2.2.1, (a0.getD x0.toNat (0, 0, 0, 0, 0, 0, 0)).2.2.2.2.2.2, 0)
     else none)
    else none)
   else none)
  else none)
 else none

abbrev giroref20_Run_L0X : Type := (List K2q) × (List K2q) × (List K3q) × (List (List Int)) × (List Int) × (List (List Int))
abbrev giroref20_Run_L0T : Type := List K2q → Int → List K2q → List K3q → List (List Int) → List Int → List (List Int) → Option giroref20_Run_L0X
def giroref20_Run_L0b (k : Nat) (rec : giroref20_Run_L0T) (s1 : List K2q) (s14 : Int) (r1 : List K2q) (b2_0 : List K3q) (b2_1 : List (List Int)) (b2_2 : List Int) (b2_3 : List (List Int)) : Option giroref20_Run_L0X :=
 bif decide (s14 < (r1.length : Int)) then (bif boundOk s14 r1.length then ((giroref13_Drop k s1 (r1.getD s14.toNat (0, 0, 0, 0, 0, 0, 0)).1).bind fun x4 =>
   rec x4.1 (w64 (s14 + 1)) r1 b2_0 b2_1 b2_2 b2_3)
  else none)
 else some (s1, r1, b2_0, b2_1, b2_2, b2_3)
def giroref20_Run_L0 (k : Nat) : Nat → giroref20_Run_L0T
 | 0, _, _, _, _, _, _, _ => none
 | n + 1, s1, s14, r1, b2_0, b2_1, b2_2, b2_3 => giroref20_Run_L0b k (giroref20_Run_L0 k n) s1 s14 r1 b2_0 b2_1 b2_2 b2_3
/-- giro/giroref20.Run -/
def giroref20_Run (k : Nat) (a0Accts : List K3q) (a0Bil : List (List Int)) (a0Mul : List Int) (a0Pos : List (List Int)) (a1 : List K2q) (a2 : Int) : Option ((List K3q) × (List (List Int)) × (List Int) × (List (List Int)) × (List K2q) × (List K2q)) :=
 (giroref20_Most k a0Accts a0Bil a0Mul a0Pos a1 a2).bind fun x0 =>
 (giroref14_Ready k a1 a2).bind fun x1 =>
 (giroref14_Heads k x1 x0.1).bind fun x2 =>
 (giroref16_Post k a0Accts a0Bil a0Mul a0Pos x2).bind fun x3 =>
 bif !(decide (x3.2.2.2.2 = 0)) then some (a0Accts, a0Bil, a0Mul, a0Pos, a1, [])
 else (giroref20_Run_L0 k k a1 0 x2 x3.1 x3.2.1 x3.2.2.1 x3.2.2.2.1).bind fun z =>
 some (z.2.2.1, z.2.2.2.1, z.2.2.2.2.1, z.2.2.2.2.2, z.1, z.2.1)

abbrev giroref2_Same_L0T : Type := List Int → List Int → Int → Option (Unit ⊕ Bool)
def giroref2_Same_L0b (k : Nat) (rec : giroref2_Same_L0T) (s0 : List Int) (s1 : List Int) (s5 : Int) : Option (Unit ⊕ Bool) :=
 bif decide (s5 < (s0.length : Int)) then (bif boundOk s5 s0.length then (bif boundOk s5 s1.length then (bif !(decide ((s0.getD s5.toNat 0) = (s1.getD s5.toNat 0))) then some (.inr false)
    else rec s0 s1 (w64 (s5 + 1)))
   else none)
  else none)
 else some (.inl ())
def giroref2_Same_L0 (k : Nat) : Nat → giroref2_Same_L0T
 | 0, _, _, _ => none
 | n + 1, s0, s1, s5 => giroref2_Same_L0b k (giroref2_Same_L0 k n) s0 s1 s5
/-- giro/giroref2.Same -/
def giroref2_Same (k : Nat) (a0 : List Int) (a1 : List Int) : Option Bool :=
 bif !(decide ((a0.length : Int) = (a1.length : Int))) then some false
 else (giroref2_Same_L0 k k a0 a1 0).bind fun z =>
 match z with
 | .inl z1 => some true
 | .inr z2 => some z2

abbrev giroref10_Rows_L0T : Type := List (List Int) → List (List Int) → Int → Option (Unit ⊕ Bool)
def giroref10_Rows_L0b (k : Nat) (rec : giroref10_Rows_L0T) (s0 : List (List Int)) (s1 : List (List Int)) (s5 : Int) : Option (Unit ⊕ Bool) :=
 bif decide (s5 < (s0.length : Int)) then (bif boundOk s5 s0.length then (bif boundOk s5 s1.length then ((giroref2_Same k (s0.getD s5.toNat []) (s1.getD s5.toNat [])).bind fun x0 =>
    bif !x0 then some (.inr false)
    else rec s0 s1 (w64 (s5 + 1)))
   else none)
  else none)
 else some (.inl ())
def giroref10_Rows_L0 (k : Nat) : Nat → giroref10_Rows_L0T
 | 0, _, _, _ => none
 | n + 1, s0, s1, s5 => giroref10_Rows_L0b k (giroref10_Rows_L0 k n) s0 s1 s5
/-- giro/giroref10.Rows -/
def giroref10_Rows (k : Nat) (a0 : List (List Int)) (a1 : List (List Int)) : Option Bool :=
 bif !(decide ((a0.length : Int) = (a1.length : Int))) then some false
 else (giroref10_Rows_L0 k k a0 a1 0).bind fun z =>
 match z with
 | .inl z1 => some true
 | .inr z2 => some z2

abbrev giroref10_Same_L0T : Type := Int → List K3q → List (List Int) → List Int → List (List Int) → List K3q → List (List Int) → List Int → List (List Int) → Option (Unit ⊕ Bool)
def giroref10_Same_L0b (k : Nat) (rec : giroref10_Same_L0T) (s5 : Int) (b0_0 : List K3q) (b0_1 : List (List Int)) (b0_2 : List Int) (b0_3 : List (List Int)) (b1_0 : List K3q) (b1_1 : List (List Int)) (b1_2 : List Int) (b1_3 : List (List Int)) : Option (Unit ⊕ Bool) :=
 bif decide (s5 < (b0_0.length : Int)) then (bif boundOk s5 b0_0.length then (bif boundOk s5 b1_0.length then (bif !((decide ((b0_0.getD s5.toNat (0, 0, 0)).1 = (b1_0.getD s5.toNat (0, 0, 0)).1)) && ((decide ((b0_0.getD s5.toNat (0, 0, 0)).2.1 = (b1_0.getD s5.toNat (0, 0, 0)).2.1)) && (decide ((b0_0.getD s5.toNat (0, 0, 0)).2.2 = (b1_0.getD s5.toNat (0, 0, 0)).2.2)))) then some (.inr false)
    else rec (w64 (s5 + 1)) b0_0 b0_1 b0_2 b0_3 b1_0 b1_1 b1_2 b1_3)
   else none)
  else none)
 else some (.inl ())
def giroref10_Same_L0 (k : Nat) : Nat → giroref10_Same_L0T
 | 0, _, _, _, _, _, _, _, _, _ => none
 | n + 1, s5, b0_0, b0_1, b0_2, b0_3, b1_0, b1_1, b1_2, b1_3 => giroref10_Same_L0b k (giroref10_Same_L0 k n) s5 b0_0 b0_1 b0_2 b0_3 b1_0 b1_1 b1_2 b1_3
/-- giro/giroref10.Same -/
def giroref10_Same (k : Nat) (a0Accts : List K3q) (a0Bil : List (List Int)) (a0Mul : List Int) (a0Pos : List (List Int)) (a1Accts : List K3q) (a1Bil : List (List Int)) (a1Mul : List Int) (a1Pos : List (List Int)) : Option Bool :=
 bif !(decide ((a0Accts.length : Int) = (a1Accts.length : Int))) then some false
 else (giroref10_Rows k a0Bil a1Bil).bind fun x0 =>
 bif !x0 then some false
 else (giroref10_Rows k a0Pos a1Pos).bind fun x1 =>
 bif !x1 then some false
 else (giroref2_Same k a0Mul a1Mul).bind fun x2 =>
 bif !x2 then some false
 else (giroref10_Same_L0 k k 0 a0Accts a0Bil a0Mul a0Pos a1Accts a1Bil a1Mul a1Pos).bind fun z =>
 match z with
 | .inl z1 => some true
 | .inr z2 => some z2

abbrev giroref11_Same_L0T : Type := List K2q → List K2q → Int → Option (Unit ⊕ Bool)
def giroref11_Same_L0b (k : Nat) (rec : giroref11_Same_L0T) (s0 : List K2q) (s1 : List K2q) (s5 : Int) : Option (Unit ⊕ Bool) :=
 bif decide (s5 < (s0.length : Int)) then (bif boundOk s5 s0.length then (bif boundOk s5 s1.length then (bif !((decide ((s0.getD s5.toNat (0, 0, 0, 0, 0, 0, 0)).1 = (s1.getD s5.toNat (0, 0, 0, 0, 0, 0, 0)).1)) && ((decide ((s0.getD s5.toNat (0, 0, 0, 0, 0, 0, 0)).2.1 = (s1.getD s5.toNat (0, 0, 0, 0, 0, 0, 0)).2.1)) && ((decide ((s0.getD s5.toNat (0, 0, 0, 0, 0, 0, 0)).2.2.1 = (s1.getD s5.toNat (0, 0, 0, 0, 0, 0, 0)).2.2.1)) && ((decide ((s0.getD s5.toNat (0, 0, 0, 0, 0, 0, 0)).2.2.2.1 = (s1.getD s5.toNat (0, 0, 0, 0, 0, 0, 0)).2.2.2.1)) && ((decide ((s0.getD s5.toNat (0, 0, 0, 0, 0, 0, 0)).2.2.2.2.1 = (s1.getD s5.toNat (0, 0, 0, 0, 0, 0, 0)).2.2.2.2.1)) && ((decide ((s0.getD s5.toNat (0, 0, 0, 0, 0, 0, 0)).2.2.2.2.2.1 = (s1.getD s5.toNat (0, 0, 0, 0, 0, 0, 0)).2.2.2.2.2.1)) && (decide ((s0.getD s5.toNat (0, 0, 0, 0, 0, 0, 0)).2.2.2.2.2.2 = (s1.getD s5.toNat (0, 0, 0, 0, 0, 0, 0)).2.2.2.2.2.2)))))))) then some (.inr false)
    else rec s0 s1 (w64 (s5 + 1)))
   else none)
  else none)
 else some (.inl ())
def giroref11_Same_L0 (k : Nat) : Nat → giroref11_Same_L0T
 | 0, _, _, _ => none
 | n + 1, s0, s1, s5 => giroref11_Same_L0b k (giroref11_Same_L0 k n) s0 s1 s5
/-- giro/giroref11.Same -/
def giroref11_Same (k : Nat) (a0 : List K2q) (a1 : List K2q) : Option Bool :=
 bif !(decide ((a0.length : Int) = (a1.length : Int))) then some false
 else (giroref11_Same_L0 k k a0 a1 0).bind fun z =>
 match z with
 | .inl z1 => some true
 | .inr z2 => some z2

/-- giro/girolaw20.same -/
def girolaw20_same (k : Nat) (a0Accts : List K3q) (a0Bil : List (List Int)) (a0Mul : List Int) (a0Pos : List (List Int)) (a1 : List K2q) (a2 : List K2q) (a3Accts : List K3q) (a3Bil : List (List Int)) (a3Mul : List Int) (a3Pos : List (List Int)) (a4 : List K2q) (a5 : List K2q) : Option Bool :=
 (giroref10_Same k a0Accts a0Bil a0Mul a0Pos a3Accts a3Bil a3Mul a3Pos).bind fun x0 =>
 bif x0 then ((giroref11_Same k a1 a4).bind fun x1 =>
  bif x1 then ((giroref11_Same k a2 a5).bind fun x2 =>
   some x2)
  else some false)
 else some false

abbrev girolaw20_ring_L0X : Type := List K2q
abbrev girolaw20_ring_L0T : Type := Int → Int → List K2q → Option girolaw20_ring_L0X
def girolaw20_ring_L0b (k : Nat) (rec : girolaw20_ring_L0T) (s0 : Int) (s4 : Int) (r0 : List K2q) : Option girolaw20_ring_L0X :=
 bif decide (s4 < 3) then (bif roomB (r0.length + 1) 56 then (let y0 : List K2q := (r0 ++ [((w64 (s4 + 1)), s4, (Int.tmod (w64 (s4 + 1)) 3), s0, 3, 0, 9)])
   rec s0 (w64 (s4 + 1)) y0)
  else none)
 else some r0
def girolaw20_ring_L0 (k : Nat) : Nat → girolaw20_ring_L0T
 | 0, _, _, _ => none
 | n + 1, s0, s4, r0 => girolaw20_ring_L0b k (girolaw20_ring_L0 k n) s0 s4 r0
/-- giro/girolaw20.ring -/
def girolaw20_ring (k : Nat) (a0 : Int) : Option (List K2q) :=
 (girolaw20_ring_L0 k k a0 0 []).bind fun z =>
 some z

/-- giro/girolaw20.known -/
def girolaw20_known (k : Nat) : Option Bool :=
 (girolaw20_some k [] 0).bind fun x0 =>
 (girolaw20_ring k 5).bind fun x1 =>
 (knot_Most k x0.1 x0.2.1 x0.2.2.1 x0.2.2.2 x1 1).bind fun x2 =>
 (girolaw20_some k [] 0).bind fun x3 =>
 (girolaw20_ring k 5).bind fun x4 =>
 (knot_Run k x3.1 x3.2.1 x3.2.2.1 x3.2.2.2 x4 1).bind fun x5 =>
 bif decide ((x2.1.length : Int) = 3) then (bif boundOk 0 x2.1.length then (bif decide ((x2.1.getD 0 0) = 1) then (bif boundOk 2 x2.1.length then (bif decide ((x2.1.getD 2 0) = 1) then (bif decide (x2.2 = 1) then (bif decide ((x5.2.2.2.2.1.length : Int) = 0) then some (decide ((x5.2.2.2.2.2.length : Int) = 3))
       else some false)
      else some false)
     else some false)
    else none)
   else some false)
  else none)
 else some false

abbrev girolaw20_KnotRuns_L0X : Type := (Int × (List K2q) × (List K3q) × (List (List Int)) × (List Int) × (List (List Int))) ⊕ Bool
abbrev girolaw20_KnotRuns_L0T : Type := Int → List K2q → Int → List K3q → List (List Int) → List Int → List (List Int) → List Int → List Int → Option girolaw20_KnotRuns_L0X
def girolaw20_KnotRuns_L0b (k : Nat) (rec : girolaw20_KnotRuns_L0T) (s3 : Int) (s10 : List K2q) (s15 : Int) (r1 : List K3q) (m2 : List (List Int)) (r3 : List Int) (m4 : List (List Int)) (r5 : List Int) (r6 : List Int) : Option girolaw20_KnotRuns_L0X :=
 bif decide (s15 < (r5.length : Int)) then (bif boundOk s15 r5.length then (bif boundOk s15 r6.length then (bif !(decide ((r5.getD s15.toNat 0) = (r6.getD s15.toNat 0))) then some (.inr false)
    else rec s3 s10 (w64 (s15 + 1)) r1 m2 r3 m4 r5 r6)
   else none)
  else none)
 else some (.inl (s3, s10, r1, m2, r3, m4))
def girolaw20_KnotRuns_L0 (k : Nat) : Nat → girolaw20_KnotRuns_L0T
 | 0, _, _, _, _, _, _, _, _, _ => none
 | n + 1, s3, s10, s15, r1, m2, r3, m4, r5, r6 => girolaw20_KnotRuns_L0b k (girolaw20_KnotRuns_L0 k n) s3 s10 s15 r1 m2 r3 m4 r5 r6
/-- giro/girolaw20.KnotRuns -/
def girolaw20_KnotRuns (k : Nat) (a0 : List Int) (a1 : Int) (a2 : List K2q) (a3 : Int) : Option Bool :=
 bif decide ((a2.length : Int) > 30) then some true
 else (girolaw20_some k a0 a1).bind fun x0 =>
 (girolaw20_rowed k a2).bind fun x1 =>
 (knot_Most k x0.1 x0.2.1 x0.2.2.1 x0.2.2.2 x1 a3).bind fun x2 =>
 (giroref20_Most k x0.1 x0.2.1 x0.2.2.1 x0.2.2.2 x1 a3).bind fun x3 =>
 bif !(decide ((x2.1.length : Int) = (x3.1.length : Int))) then some false
 else bif !(decide (x2.2 = x3.2)) then some false
 else (girolaw20_KnotRuns_L0 k k a3 x1 0 x0.1 x0.2.1 x0.2.2.1 x0.2.2.2 x2.1 x3.1).bind fun z =>
 match z with
 | .inl z1 => (knot_Run k z1.2.2.1 z1.2.2.2.1 z1.2.2.2.2.1 z1.2.2.2.2.2 z1.2.1 z1.1).bind fun x4 =>
  (giroref20_Run k z1.2.2.1 z1.2.2.2.1 z1.2.2.2.2.1 z1.2.2.2.2.2 z1.2.1 z1.1).bind fun x5 =>
  (girolaw20_same k x4.1 x4.2.1 x4.2.2.1 x4.2.2.2.1 x4.2.2.2.2.1 x4.2.2.2.2.2 x5.1 x5.2.1 x5.2.2.1 x5.2.2.2.1 x5.2.2.2.2.1 x5.2.2.2.2.2).bind fun x6 =>
  bif x6 then ((girolaw20_known k).bind fun x7 =>
   some x7)
  else some false
 | .inr z2 => some z2

/-- giro/giroref15.Fits -/
def giroref15_Fits (k : Nat) (a0Accts : List K3q) (a0Bil : List (List Int)) (a0Mul : List Int) (a0Pos : List (List Int)) (a1 : List K2q) : Option Bool :=
 (giroref15_All k a0Accts a0Bil a0Mul a0Pos a1).bind fun x0 =>
 bif x0 then ((giroref15_Short k a0Accts a0Bil a0Mul a0Pos a1).bind fun x1 =>
  some (decide ((x1.length : Int) = 0)))
 else some false

/-- giro/girolaw20.KnotAll -/
def girolaw20_KnotAll (k : Nat) (a0 : List Int) (a1 : Int) (a2 : List K2q) (a3 : Int) : Option Bool :=
 bif decide ((a2.length : Int) > 30) then some true
 else (girolaw20_some k a0 a1).bind fun x0 =>
 (girolaw20_rowed k a2).bind fun x1 =>
 (giroref14_Ready k x1 a3).bind fun x2 =>
 (giroref15_Fits k x0.1 x0.2.1 x0.2.2.1 x0.2.2.2 x2).bind fun x3 =>
 bif !x3 then some true
 else (knot_Most k x0.1 x0.2.1 x0.2.2.1 x0.2.2.2 x1 a3).bind fun x4 =>
 (knot_Run k x0.1 x0.2.1 x0.2.2.1 x0.2.2.2 x1 a3).bind fun x5 =>
 (giroref16_Post k x0.1 x0.2.1 x0.2.2.1 x0.2.2.2 x2).bind fun x6 =>
 bif decide (x4.2 = 1) then (bif decide (x6.2.2.2.2 = 0) then ((giroref10_Same k x5.1 x5.2.1 x5.2.2.1 x5.2.2.2.1 x6.1 x6.2.1 x6.2.2.1 x6.2.2.2.1).bind fun x7 =>
   bif x7 then ((giroref11_Same k x5.2.2.2.2.2 x2).bind fun x8 =>
    bif x8 then (bif decide ((x5.2.2.2.2.1.length : Int) = (w64 ((x1.length : Int) - (x2.length : Int)))) then ((girolaw20_known k).bind fun x9 =>
      some x9)
     else some false)
    else some false)
   else some false)
  else some false)
 else some false

abbrev girolaw21_some_L0X : Type := Int × (List K3q) × (List (List Int)) × (List Int) × (List (List Int))
abbrev girolaw21_some_L0T : Type := List Int → Int → Int → List K3q → List (List Int) → List Int → List (List Int) → Option girolaw21_some_L0X
def girolaw21_some_L0b (k : Nat) (rec : girolaw21_some_L0T) (s0 : List Int) (s1 : Int) (s6 : Int) (r2 : List K3q) (m3 : List (List Int)) (r4 : List Int) (m5 : List (List Int)) : Option girolaw21_some_L0X :=
 bif decide (s6 < 3) then (bif decide (s6 < (s0.length : Int)) then (bif boundOk s6 s0.length then (bif roomB (r2.length + 1) 24 then (rec s0 s1 (w64 (s6 + 1)) (r2 ++ [((band .i64 (s0.getD s6.toNat 0) 63), 0, 0)]) m3 r4 m5)
    else none)
   else none)
  else bif roomB (r2.length + 1) 24 then (rec s0 s1 (w64 (s6 + 1)) (r2 ++ [(0, 0, 0)]) m3 r4 m5)
  else none)
 else some (s1, r2, m3, r4, m5)
def girolaw21_some_L0 (k : Nat) : Nat → girolaw21_some_L0T
 | 0, _, _, _, _, _, _, _ => none
 | n + 1, s0, s1, s6, r2, m3, r4, m5 => girolaw21_some_L0b k (girolaw21_some_L0 k n) s0 s1 s6 r2 m3 r4 m5
/-- giro/girolaw21.some -/
def girolaw21_some (k : Nat) (a0 : List Int) (a1 : Int) : Option ((List K3q) × (List (List Int)) × (List Int) × (List (List Int))) :=
 (girolaw21_some_L0 k k a0 a1 0 [] [[(-1), (-1), (-1)], [(-1), (-1), (-1)], [(-1), (-1), (-1)]] [(-1), (-1), (-1)] [[0, 0, 0], [0, 0, 0], [0, 0, 0]]).bind fun z =>
 bif decide ((band .i64 z.1 1) = 1) then (bif boundOk 0 z.2.1.length then (let y0 : List K3q := (z.2.1.set 0 ((z.2.1.getD 0 (0, 0, 0)).1, 7, (z.2.1.getD 0 (0, 0, 0)).2.2))
   bif boundOk 1 y0.length then (let y1 : List K3q := (y0.set 1 ((y0.getD 1 (0, 0, 0)).1, (y0.getD 1 (0, 0, 0)).2.1, 5))
    bif boundOk 2 y1.length then (let y2 : List K3q := (y1.set 2 ((y1.getD 2 (0, 0, 0)).1, 3, (y1.getD 2 (0, 0, 0)).2.2))
     bif decide ((band .i64 z.1 2) = 2) then (bif boundOk 0 z.2.2.1.length then (bif boundOk 1 z.2.2.1.length then (bif boundOk 1 (z.2.2.1.getD 0 []).length then (let y3 : List (List Int) := (z.2.2.1.set 0 ((z.2.2.1.getD 0 []).set 1 6))
         bif boundOk 2 (y3.getD 1 []).length then (bif boundOk 2 z.2.2.2.1.length then (bif decide ((band .i64 z.1 4) = 4) then (bif boundOk 0 z.2.2.2.2.length then (bif boundOk 1 z.2.2.2.2.length then (bif boundOk 1 (z.2.2.2.2.getD 0 []).length then (let y4 : List (List Int) := (z.2.2.2.2.set 0 ((z.2.2.2.2.getD 0 []).set 1 3))
               bif boundOk 0 (y4.getD 1 []).length then (bif boundOk 2 y2.length then (let y5 : List K3q := (y2.set 2 ((y2.getD 2 (0, 0, 0)).1, (y2.getD 2 (0, 0, 0)).2.1, 9))
                 bif boundOk 0 (z.2.2.2.1.set 2 4).length then some (y5, (y3.set 1 ((y3.getD 1 []).set 2 0)), ((z.2.2.2.1.set 2 4).set 0 8), (y4.set 1 ((y4.getD 1 []).set 0 (-3))))
                 else none)
                else none)
               else none)
              else none)
             else none)
            else none)
           else some (y2, (y3.set 1 ((y3.getD 1 []).set 2 0)), (z.2.2.2.1.set 2 4), z.2.2.2.2))
          else none)
         else none)
        else none)
       else none)
      else none)
     else bif decide ((band .i64 z.1 4) = 4) then (bif boundOk 0 z.2.2.2.2.length then (bif boundOk 1 z.2.2.2.2.length then (bif boundOk 1 (z.2.2.2.2.getD 0 []).length then (let y6 : List (List Int) := (z.2.2.2.2.set 0 ((z.2.2.2.2.getD 0 []).set 1 3))
         bif boundOk 0 (y6.getD 1 []).length then (bif boundOk 2 y2.length then (let y7 : List K3q := (y2.set 2 ((y2.getD 2 (0, 0, 0)).1, (y2.getD 2 (0, 0, 0)).2.1, 9))
           bif boundOk 0 z.2.2.2.1.length then some (y7, z.2.2.1, (z.2.2.2.1.set 0 8), (y6.set 1 ((y6.getD 1 []).set 0 (-3))))
           else none)
          else none)
         else none)
        else none)
       else none)
      else none)
     else some (y2, z.2.2.1, z.2.2.2.1, z.2.2.2.2))
    else none)
   else none)
  else none)
 else bif decide ((band .i64 z.1 2) = 2) then (bif boundOk 0 z.2.2.1.length then (bif boundOk 1 z.2.2.1.length then (bif boundOk 1 (z.2.2.1.getD 0 []).length then (let y8 : List (List Int) := (z.2.2.1.set 0 ((z.2.2.1.getD 0 []).set 1 6))
     bif boundOk 2 (y8.getD 1 []).length then (bif boundOk 2 z.2.2.2.1.length then (bif decide ((band .i64 z.1 4) = 4) then (bif boundOk 0 z.2.2.2.2.length then (bif boundOk 1 z.2.2.2.2.length then (bif boundOk 1 (z.2.2.2.2.getD 0 []).length then (let y9 : List (List Int) := (z.2.2.2.2.set 0 ((z.2.2.2.2.getD 0 []).set 1 3))
           bif boundOk 0 (y9.getD 1 []).length then (bif boundOk 2 z.2.1.length then (let y10 : List K3q := (z.2.1.set 2 ((z.2.1.getD 2 (0, 0, 0)).1, (z.2.1.getD 2 (0, 0, 0)).2.1, 9))
             bif boundOk 0 (z.2.2.2.1.set 2 4).length then some (y10, (y8.set 1 ((y8.getD 1 []).set 2 0)), ((z.2.2.2.1.set 2 4).set 0 8), (y9.set 1 ((y9.getD 1 []).set 0 (-3))))
             else none)
            else none)
           else none)
          else none)
         else none)
        else none)
       else some (z.2.1, (y8.set 1 ((y8.getD 1 []).set 2 0)), (z.2.2.2.1.set 2 4), z.2.2.2.2))
      else none)
     else none)
    else none)
   else none)
  else none)
 else bif decide ((band .i64 z.1 4) = 4) then (bif boundOk 0 z.2.2.2.2.length then (bif boundOk 1 z.2.2.2.2.length then (bif boundOk 1 (z.2.2.2.2.getD 0 []).length then (let y11 : List (List Int) := (z.2.2.2.2.set 0 ((z.2.2.2.2.getD 0 []).set 1 3))
     bif boundOk 0 (y11.getD 1 []).length then (bif boundOk 2 z.2.1.length then (let y12 : List K3q := (z.2.1.set 2 ((z.2.1.getD 2 (0, 0, 0)).1, (z.2.1.getD 2 (0, 0, 0)).2.1, 9))
       bif boundOk 0 z.2.2.2.1.length then some (y12, z.2.2.1, (z.2.2.2.1.set 0 8), (y11.set 1 ((y11.getD 1 []).set 0 (-3))))
       else none)
      else none)
     else none)
    else none)
   else none)
  else none)
 else some (z.2.1, z.2.2.1, z.2.2.2.1, z.2.2.2.2)

abbrev girolaw21_rowed_L0X : Type := List K2q
abbrev girolaw21_rowed_L0T : Type := List K2q → List K2q → Int → Option girolaw21_rowed_L0X
def girolaw21_rowed_L0b (k : Nat) (rec : girolaw21_rowed_L0T) (s0 : List K2q) (s3 : List K2q) (s4 : Int) : Option girolaw21_rowed_L0X :=
 bif decide (s4 < (s0.length : Int)) then (bif boundOk s4 s0.length then (bif decide ((Int.tmod (band .i64 (s0.getD s4.toNat (0, 0, 0, 0, 0, 0, 0)).2.1 255) 3) = (Int.tmod (band .i64 (s0.getD s4.toNat (0, 0, 0, 0, 0, 0, 0)).2.2.1 255) 3)) then ((giroref13_Put k s3 (w64 (s4 + 1)) (Int.tmod (band .i64 (s0.getD s4.toNat (0, 0, 0, 0, 0, 0, 0)).2.1 255) 3) (Int.tmod (w64 ((Int.tmod (band .i64 (s0.getD s4.toNat (0, 0, 0, 0, 0, 0, 0)).2.1 255) 3) + 1)) 3) (w64 (1 + (band .i64 (s0.getD s4.toNat (0, 0, 0, 0, 0, 0, 0)).2.2.2.1 31))) (w64 (1 + (Int.tmod (band .i64 (s0.getD s4.toNat (0, 0, 0, 0, 0, 0, 0)).2.2.2.2.1 255) 3))) (band .i64 (s0.getD s4.toNat (0, 0, 0, 0, 0, 0, 0)).2.2.2.2.2.1 7) (w64 ((band .i64 (s0.getD s4.toNat (0, 0, 0, 0, 0, 0, 0)).2.2.2.2.2.1 7) + (band .i64 (s0.getD s4.toNat (0, 0, 0, 0, 0, 0, 0)).2.2.2.2.2.2 15)))).bind fun x0 =>
    bif decide (x0.2 = 0) then (rec s0 x0.1 (w64 (s4 + 1)))
    else rec s0 s3 (w64 (s4 + 1)))
   else (giroref13_Put k s3 (w64 (s4 + 1)) (Int.tmod (band .i64 (s0.getD s4.toNat (0, 0, 0, 0, 0, 0, 0)).2.1 255) 3) (Int.tmod (band .i64 (s0.getD s4.toNat (0, 0, 0, 0, 0, 0, 0)).2.2.1 255) 3) (w64 (1 + (band .i64 (s0.getD s4.toNat (0, 0, 0, 0, 0, 0, 0)).2.2.2.1 31))) (w64 (1 + (Int.tmod (band .i64 (s0.getD s4.toNat (0, 0, 0, 0, 0, 0, 0)).2.2.2.2.1 255) 3))) (band .i64 (s0.getD s4.toNat (0, 0, 0, 0, 0, 0, 0)).2.2.2.2.2.1 7) (w64 ((band .i64 (s0.getD s4.toNat (0, 0, 0, 0, 0, 0, 0)).2.2.2.2.2.1 7) + (band .i64 (s0.getD s4.toNat (0, 0, 0, 0, 0, 0, 0)).2.2.2.2.2.2 15)))).bind fun x1 =>
   bif decide (x1.2 = 0) then (rec s0 x1.1 (w64 (s4 + 1)))
   else rec s0 s3 (w64 (s4 + 1)))
  else none)
 else some s3
def girolaw21_rowed_L0 (k : Nat) : Nat → girolaw21_rowed_L0T
 | 0, _, _, _ => none
 | n + 1, s0, s3, s4 => girolaw21_rowed_L0b k (girolaw21_rowed_L0 k n) s0 s3 s4
/-- giro/girolaw21.rowed -/
def girolaw21_rowed (k : Nat) (a0 : List K2q) : Option (List K2q) :=
 (girolaw21_rowed_L0 k k a0 [] 0).bind fun z =>
 some z

/-- giro/view.May$1$1 -/
def view_May_fn1_fn1 (k : Nat) (a0ID : Int) (a0From : Int) (a0To : Int) (a0Amount : Int) (a0Class : Int) (a0Start : Int) (a0Till : Int) (a1ID : Int) (a1From : Int) (a1To : Int) (a1Amount : Int) (a1Class : Int) (a1Start : Int) (a1Till : Int) : Option Bool :=
 bif decide (a0From = a1From) then some (!(decide (a0Class = 3)))
 else some false

abbrev slices_IndexFunc_Pay__view_May_fn1_fn1_L0T : Type := List K2q → Int → Int → Int → Int → Int → Int → Int → Int → Int → Option (Unit ⊕ Int)
def slices_IndexFunc_Pay__view_May_fn1_fn1_L0b (k : Nat) (rec : slices_IndexFunc_Pay__view_May_fn1_fn1_L0T) (s0 : List K2q) (s7 : Int) (s8 : Int) (b0_0 : Int) (b0_1 : Int) (b0_2 : Int) (b0_3 : Int) (b0_4 : Int) (b0_5 : Int) (b0_6 : Int) : Option (Unit ⊕ Int) :=
 bif decide (s8 < s7) then (bif boundOk s8 s0.length then ((view_May_fn1_fn1 k (s0.getD s8.toNat (0, 0, 0, 0, 0, 0, 0)).1 (s0.getD s8.toNat (0, 0, 0, 0, 0, 0, 0)).2.1 (s0.getD s8.toNat (0, 0, 0, 0, 0, 0, 0)).2.2.1 (s0.getD s8.toNat (0, 0, 0, 0, 0, 0, 0)).2.2.2.1 (s0.getD s8.toNat (0, 0, 0, 0, 0, 0, 0)).2.2.2.2.1 (s0.getD s8.toNat (0, 0, 0, 0, 0, 0, 0)).2.2.2.2.2.1 (s0.getD s8.toNat (0, 0, 0, 0, 0, 0, 0)).2.2.2.2.2.2 b0_0 b0_1 b0_2 b0_3 b0_4 b0_5 b0_6).bind fun x0 =>
   bif x0 then some (.inr s8)
   else rec s0 s7 (w64 (s8 + 1)) b0_0 b0_1 b0_2 b0_3 b0_4 b0_5 b0_6)
  else none)
 else some (.inl ())
def slices_IndexFunc_Pay__view_May_fn1_fn1_L0 (k : Nat) : Nat → slices_IndexFunc_Pay__view_May_fn1_fn1_L0T
 | 0, _, _, _, _, _, _, _, _, _, _ => none
 | n + 1, s0, s7, s8, b0_0, b0_1, b0_2, b0_3, b0_4, b0_5, b0_6 => slices_IndexFunc_Pay__view_May_fn1_fn1_L0b k (slices_IndexFunc_Pay__view_May_fn1_fn1_L0 k n) s0 s7 s8 b0_0 b0_1 b0_2 b0_3 b0_4 b0_5 b0_6
/-- slices.IndexFunc[[]giro/api.Pay,giro/api.Pay] -/
def slices_IndexFunc_Pay__view_May_fn1_fn1 (k : Nat) (a0 : List K2q) (a1_0ID : Int) (a1_0From : Int) (a1_0To : Int) (a1_0Amount : Int) (a1_0Class : Int) (a1_0Start : Int) (a1_0Till : Int) : Option Int :=
 (slices_IndexFunc_Pay__view_May_fn1_fn1_L0 k k a0 (a0.length : Int) 0 a1_0ID a1_0From a1_0To a1_0Amount a1_0Class a1_0Start a1_0Till).bind fun z =>
 match z with
 | .inl z1 => some (-1)
 | .inr z2 => some z2

/-- slices.ContainsFunc[[]giro/api.Pay,giro/api.Pay] -/
def slices_ContainsFunc_Pay__view_May_fn1_fn1 (k : Nat) (a0 : List K2q) (a1_0ID : Int) (a1_0From : Int) (a1_0To : Int) (a1_0Amount : Int) (a1_0Class : Int) (a1_0Start : Int) (a1_0Till : Int) : Option Bool :=
 (slices_IndexFunc_Pay__view_May_fn1_fn1 k a0 a1_0ID a1_0From a1_0To a1_0Amount a1_0Class a1_0Start a1_0Till).bind fun x0 =>
 some (decide (x0 ≥ 0))

/-- giro/view.May$1 -/
def view_May_fn1 (k : Nat) (a0ID : Int) (a0From : Int) (a0To : Int) (a0Amount : Int) (a0Class : Int) (a0Start : Int) (a0Till : Int) (a1 : List (Int × Bool)) (a2 : List K2q) : Option (Bool × (List (Int × Bool))) :=
 bif !(Option.getD (List.lookup a0From a1) false) then some (true, ((a0From, true) :: a1))
 else bif decide (a0Class = 3) then ((slices_ContainsFunc_Pay__view_May_fn1_fn1 k a2 a0ID a0From a0To a0Amount a0Class a0Start a0Till).bind fun x0 =>
  some ((!x0), ((a0From, true) :: a1)))
 else some (false, ((a0From, true) :: a1))

abbrev view_all__view_May_fn1_L0X : Type := (List (Int × Bool)) × (List K2q) × (List K2q)
abbrev view_all__view_May_fn1_L0T : Type := List K2q → Int → Int → List (Int × Bool) → List K2q → List K2q → Option view_all__view_May_fn1_L0X
def view_all__view_May_fn1_L0b (k : Nat) (rec : view_all__view_May_fn1_L0T) (s8 : List K2q) (s9 : Int) (s10 : Int) (p1 : List (Int × Bool)) (b2_0 : List K2q) (r3 : List K2q) : Option view_all__view_May_fn1_L0X :=
 bif decide (s10 < s9) then (bif boundOk s10 s8.length then ((view_May_fn1 k (s8.getD s10.toNat (0, 0, 0, 0, 0, 0, 0)).1 (s8.getD s10.toNat (0, 0, 0, 0, 0, 0, 0)).2.1 (s8.getD s10.toNat (0, 0, 0, 0, 0, 0, 0)).2.2.1 (s8.getD s10.toNat (0, 0, 0, 0, 0, 0, 0)).2.2.2.1 (s8.getD s10.toNat (0, 0, 0, 0, 0, 0, 0)).2.2.2.2.1 (s8.getD s10.toNat (0, 0, 0, 0, 0, 0, 0)).2.2.2.2.2.1 (s8.getD s10.toNat (0, 0, 0, 0, 0, 0, 0)).2.2.2.2.2.2 p1 b2_0).bind fun x0 =>
   bif x0.1 then (bif roomB (r3.length + 1) 56 then (let y0 : List K2q := (r3 ++ [(s8.getD s10.toNat (0, 0, 0, 0, 0, 0, 0))])
     rec s8 s9 (w64 (s10 + 1)) x0.2 b2_0 y0)
    else none)
   else rec s8 s9 (w64 (s10 + 1)) x0.2 b2_0 r3)
  else none)
 else some (p1, b2_0, r3)
def view_all__view_May_fn1_L0 (k : Nat) : Nat → view_all__view_May_fn1_L0T
 | 0, _, _, _, _, _, _ => none
 | n + 1, s8, s9, s10, p1, b2_0, r3 => view_all__view_May_fn1_L0b k (view_all__view_May_fn1_L0 k n) s8 s9 s10 p1 b2_0 r3
/-- giro/view.all -/
def view_all__view_May_fn1 (k : Nat) (a0 : List K2q) (a1_0 : List (Int × Bool)) (a1_1 : List K2q) : Option ((List K2q) × (List (Int × Bool))) :=
 (view_all__view_May_fn1_L0 k k a0 (a0.length : Int) 0 a1_0 a1_1 []).bind fun z =>
 some (z.2.2, z.1)

/-- giro/view.May -/
def view_May (k : Nat) (a0 : List K2q) (a1 : Int) : Option (List K2q) :=
 (view_Ready k a0 a1).bind fun x0 =>
 (view_all__view_May_fn1 k x0 [] x0).bind fun x1 =>
 some x1.1

/-- giro/fits.Fits$1 -/
def fits_Fits_fn1 (k : Nat) (a0ID : Int) (a0From : Int) (a0To : Int) (a0Amount : Int) (a0Class : Int) (a0Start : Int) (a0Till : Int) (a1Accts : List K3q) (a1Bil : List (List Int)) (a1Mul : List Int) (a1Pos : List (List Int)) : Option Bool :=
 (fits_May k a1Accts a1Bil a1Mul a1Pos a0ID a0From a0To a0Amount a0Class a0Start a0Till).bind fun x0 =>
 some (!x0)

abbrev slices_IndexFunc_Pay__fits_Fits_fn1_L0T : Type := List K2q → Int → Int → List K3q → List (List Int) → List Int → List (List Int) → Option (Unit ⊕ Int)
def slices_IndexFunc_Pay__fits_Fits_fn1_L0b (k : Nat) (rec : slices_IndexFunc_Pay__fits_Fits_fn1_L0T) (s0 : List K2q) (s7 : Int) (s8 : Int) (b0_0 : List K3q) (b0_1 : List (List Int)) (b0_2 : List Int) (b0_3 : List (List Int)) : Option (Unit ⊕ Int) :=
 bif decide (s8 < s7) then (bif boundOk s8 s0.length then ((fits_Fits_fn1 k (s0.getD s8.toNat (0, 0, 0, 0, 0, 0, 0)).1 (s0.getD s8.toNat (0, 0, 0, 0, 0, 0, 0)).2.1 (s0.getD s8.toNat (0, 0, 0, 0, 0, 0, 0)).2.2.1 (s0.getD s8.toNat (0, 0, 0, 0, 0, 0, 0)).2.2.2.1 (s0.getD s8.toNat (0, 0, 0, 0, 0, 0, 0)).2.2.2.2.1 (s0.getD s8.toNat (0, 0, 0, 0, 0, 0, 0)).2.2.2.2.2.1 (s0.getD s8.toNat (0, 0, 0, 0, 0, 0, 0)).2.2.2.2.2.2 b0_0 b0_1 b0_2 b0_3).bind fun x0 =>
   bif x0 then some (.inr s8)
   else rec s0 s7 (w64 (s8 + 1)) b0_0 b0_1 b0_2 b0_3)
  else none)
 else some (.inl ())
def slices_IndexFunc_Pay__fits_Fits_fn1_L0 (k : Nat) : Nat → slices_IndexFunc_Pay__fits_Fits_fn1_L0T
 | 0, _, _, _, _, _, _, _ => none
 | n + 1, s0, s7, s8, b0_0, b0_1, b0_2, b0_3 => slices_IndexFunc_Pay__fits_Fits_fn1_L0b k (slices_IndexFunc_Pay__fits_Fits_fn1_L0 k n) s0 s7 s8 b0_0 b0_1 b0_2 b0_3
/-- slices.IndexFunc[[]giro/api.Pay,giro/api.Pay] -/
def slices_IndexFunc_Pay__fits_Fits_fn1 (k : Nat) (a0 : List K2q) (a1_0Accts : List K3q) (a1_0Bil : List (List Int)) (a1_0Mul : List Int) (a1_0Pos : List (List Int)) : Option Int :=
 (slices_IndexFunc_Pay__fits_Fits_fn1_L0 k k a0 (a0.length : Int) 0 a1_0Accts a1_0Bil a1_0Mul a1_0Pos).bind fun z =>
 match z with
 | .inl z1 => some (-1)
 | .inr z2 => some z2

/-- slices.ContainsFunc[[]giro/api.Pay,giro/api.Pay] -/
def slices_ContainsFunc_Pay__fits_Fits_fn1 (k : Nat) (a0 : List K2q) (a1_0Accts : List K3q) (a1_0Bil : List (List Int)) (a1_0Mul : List Int) (a1_0Pos : List (List Int)) : Option Bool :=
 (slices_IndexFunc_Pay__fits_Fits_fn1 k a0 a1_0Accts a1_0Bil a1_0Mul a1_0Pos).bind fun x0 =>
 some (decide (x0 ≥ 0))

/-- giro/fits.Fits -/
def fits_Fits (k : Nat) (a0Accts : List K3q) (a0Bil : List (List Int)) (a0Mul : List Int) (a0Pos : List (List Int)) (a1 : List K2q) : Option Bool :=
 bif decide ((a1.length : Int) ≤ 64) then ((slices_ContainsFunc_Pay__fits_Fits_fn1 k a1 a0Accts a0Bil a0Mul a0Pos).bind fun x0 =>
  bif !x0 then ((fits_Short k a0Accts a0Bil a0Mul a0Pos a1).bind fun x1 =>
   some (decide ((x1.length : Int) = 0)))
  else some false)
 else some false

abbrev free_next_L0X : Type := ((List K3q) × (List (List Int)) × (List Int) × (List (List Int)) × Int × Int × Int × Int × Int × Int × Int) ⊕ (Bool × Int × Int × Int × Int × Int × Int × Int × (List K3q) × (List (List Int)) × (List Int) × (List (List Int)))
abbrev free_next_L0T : Type := Int → Int → List K3q → List (List Int) → List Int → List (List Int) → Int → Int → Int → Int → Int → Int → Int → List K2q → Option free_next_L0X
def free_next_L0b (k : Nat) (rec : free_next_L0T) (s16 : Int) (s17 : Int) (b0_0 : List K3q) (b0_1 : List (List Int)) (b0_2 : List Int) (b0_3 : List (List Int)) (b1_0 : Int) (b1_1 : Int) (b1_2 : Int) (b1_3 : Int) (b1_4 : Int) (b1_5 : Int) (b1_6 : Int) (r3 : List K2q) : Option free_next_L0X :=
 bif decide (s17 < s16) then (bif boundOk s17 r3.length then ((fits_Fits k b0_0 b0_1 b0_2 b0_3 [(r3.getD s17.toNat (0, 0, 0, 0, 0, 0, 0))]).bind fun x1 =>
   bif !x1 then (rec s16 (w64 (s17 + 1)) b0_0 b0_1 b0_2 b0_3 b1_0 b1_1 b1_2 b1_3 b1_4 b1_5 b1_6 r3)
   else (post_Post k b0_0 b0_1 b0_2 b0_3 [(r3.getD s17.toNat (0, 0, 0, 0, 0, 0, 0))]).bind fun x2 =>
   bif decide (x2.2.2.2.2 = 0) then some (.inr (true, (r3.getD s17.toNat (0, 0, 0, 0, 0, 0, 0)).1, (r3.getD s17.toNat (0, 0, 0, 0, 0, 0, 0)).2.1, (r3.getD s17.toNat (0, 0, 0, 0, 0, 0, 0)).2.2.1, (r3.getD s17.toNat (0, 0, 0, 0, 0, 0, 0)).2.2.2.1, (r3.getD s17.toNat (0, 0, 0, 0, 0, 0, 0)).2.2.2.2.1, (r3.getD s17.toNat (0, 0, 0, 0, 0, 0, 0)).2.2.2.2.2.1, (r3.getD s17.toNat (0, 0, 0, 0, 0, 0, 0)).2.2.2.2.2.2, x2.1, x2.2.1, x2.2.2.1, x2.2.2.2.1))
   else rec s16 (w64 (s17 + 1)) b0_0 b0_1 b0_2 b0_3 b1_0 b1_1 b1_2 b1_3 b1_4 b1_5 b1_6 r3)
  else none)
 else some (.inl (b0_0, b0_1, b0_2, b0_3, b1_0, b1_1, b1_2, b1_3, b1_4, b1_5, b1_6))
def free_next_L0 (k : Nat) : Nat → free_next_L0T
 | 0, _, _, _, _, _, _, _, _, _, _, _, _, _, _ => none
 | n + 1, s16, s17, b0_0, b0_1, b0_2, b0_3, b1_0, b1_1, b1_2, b1_3, b1_4, b1_5, b1_6, r3 => free_next_L0b k (free_next_L0 k n) s16 s17 b0_0 b0_1 b0_2 b0_3 b1_0 b1_1 b1_2 b1_3 b1_4 b1_5 b1_6 r3
/-- giro/free.next -/
def free_next (k : Nat) (a0Accts : List K3q) (a0Bil : List (List Int)) (a0Mul : List Int) (a0Pos : List (List Int)) (a1 : List K2q) (a2 : Int) : Option (Int × Int × Int × Int × Int × Int × Int × (List K3q) × (List (List Int)) × (List Int) × (List (List Int)) × Bool) :=
 (view_May k a1 a2).bind fun x0 =>
 (free_next_L0 k k (x0.length : Int) 0 a0Accts a0Bil a0Mul a0Pos 0 0 0 0 0 0 0 x0).bind fun z =>
 match z with
 | .inl z1 => some (0, 0, 0, 0, 0, 0, 0, z1.1, z1.2.1, z1.2.2.1, z1.2.2.2.1, false)
 | .inr z2 => some (z2.2.1, z2.2.2.1, z2.2.2.2.1, z2.2.2.2.2.1, z2.2.2.2.2.2.1, z2.2.2.2.2.2.2.1, z2.2.2.2.2.2.2.2.1, z2.2.2.2.2.2.2.2.2.1, z2.2.2.2.2.2.2.2.2.2.1, z2.2.2.2.2.2.2.2.2.2.2.1, z2.2.2.2.2.2.2.2.2.2.2.2, z2.1)

abbrev free_Run_L0X : Type := (List K2q) × (List K3q) × (List (List Int)) × (List Int) × (List (List Int)) × (List K2q)
abbrev free_Run_L0T : Type := Int → List K2q → List K3q → List (List Int) → List Int → List (List Int) → List K2q → Option free_Run_L0X
def free_Run_L0b (k : Nat) (rec : free_Run_L0T) (s2 : Int) (s7 : List K2q) (b0_0 : List K3q) (b0_1 : List (List Int)) (b0_2 : List Int) (b0_3 : List (List Int)) (r1 : List K2q) : Option free_Run_L0X :=
 (free_next k b0_0 b0_1 b0_2 b0_3 s7 s2).bind fun x0 =>
 bif !x0.2.2.2.2.2.2.2.2.2.2.2 then some (s7, b0_0, b0_1, b0_2, b0_3, r1)
 else (row_Drop k s7 x0.1).bind fun x1 =>
 bif roomB (r1.length + 1) 56 then (let y0 : List K2q := (r1 ++ [(x0.1, x0.2.1, x0.2.2.1, x0.2.2.2.1, x0.2.2.2.2.1, x0.2.2.2.2.2.1, x0.2.2.2.2.2.2.1)])
  rec s2 x1.1 x0.2.2.2.2.2.2.2.1 x0.2.2.2.2.2.2.2.2.1 x0.2.2.2.2.2.2.2.2.2.1 x0.2.2.2.2.2.2.2.2.2.2.1 y0)
 else none
def free_Run_L0 (k : Nat) : Nat → free_Run_L0T
 | 0, _, _, _, _, _, _, _ => none
 | n + 1, s2, s7, b0_0, b0_1, b0_2, b0_3, r1 => free_Run_L0b k (free_Run_L0 k n) s2 s7 b0_0 b0_1 b0_2 b0_3 r1
/-- giro/free.Run -/
def free_Run (k : Nat) (a0Accts : List K3q) (a0Bil : List (List Int)) (a0Mul : List Int) (a0Pos : List (List Int)) (a1 : List K2q) (a2 : Int) : Option ((List K3q) × (List (List Int)) × (List Int) × (List (List Int)) × (List K2q) × (List K2q)) :=
 (free_Run_L0 k k a2 a1 a0Accts a0Bil a0Mul a0Pos []).bind fun z =>
 some (z.2.1, z.2.2.1, z.2.2.2.1, z.2.2.2.2.1, z.1, z.2.2.2.2.2)

abbrev pair_next_L1X : Type := (Int × Int × (List K3q) × (List (List Int)) × (List Int) × (List (List Int)) × Int × Int × Int × Int × Int × Int × Int × Int × Int × Int × Int × Int × Int × Int × (List K2q)) ⊕ (Bool × Int × Int × Int × Int × Int × Int × Int × Int × Int × Int × Int × Int × Int × Int × (List K3q) × (List (List Int)) × (List Int) × (List (List Int)))
abbrev pair_next_L1T : Type := Int → Int → Int → Int → List K3q → List (List Int) → List Int → List (List Int) → Int → Int → Int → Int → Int → Int → Int → Int → Int → Int → Int → Int → Int → Int → List K2q → Int → Int → Int → Int → Int → Int → Int → Option pair_next_L1X
def pair_next_L1b (k : Nat) (rec : pair_next_L1T) (s19 : Int) (s20 : Int) (s25 : Int) (s26 : Int) (b0_0 : List K3q) (b0_1 : List (List Int)) (b0_2 : List Int) (b0_3 : List (List Int)) (b1_0 : Int) (b1_1 : Int) (b1_2 : Int) (b1_3 : Int) (b1_4 : Int) (b1_5 : Int) (b1_6 : Int) (b1_7 : Int) (b1_8 : Int) (b1_9 : Int) (b1_10 : Int) (b1_11 : Int) (b1_12 : Int) (b1_13 : Int) (r2 : List K2q) (b3_0 : Int) (b3_1 : Int) (b3_2 : Int) (b3_3 : Int) (b3_4 : Int) (b3_5 : Int) (b3_6 : Int) : Option pair_next_L1X :=
 bif decide (s26 < s25) then (bif boundOk s26 r2.length then (bif !(decide ((r2.getD s26.toNat (0, 0, 0, 0, 0, 0, 0)).2.1 = b3_2)) then (rec s19 s20 s25 (w64 (s26 + 1)) b0_0 b0_1 b0_2 b0_3 b1_0 b1_1 b1_2 b1_3 b1_4 b1_5 b1_6 b1_7 b1_8 b1_9 b1_10 b1_11 b1_12 b1_13 r2 b3_0 b3_1 b3_2 b3_3 b3_4 b3_5 b3_6)
   else bif !(decide ((r2.getD s26.toNat (0, 0, 0, 0, 0, 0, 0)).2.2.1 = b3_1)) then (rec s19 s20 s25 (w64 (s26 + 1)) b0_0 b0_1 b0_2 b0_3 b1_0 b1_1 b1_2 b1_3 b1_4 b1_5 b1_6 b1_7 b1_8 b1_9 b1_10 b1_11 b1_12 b1_13 r2 b3_0 b3_1 b3_2 b3_3 b3_4 b3_5 b3_6)
   else bif decide (b3_1 ≥ (r2.getD s26.toNat (0, 0, 0, 0, 0, 0, 0)).2.1) then (rec s19 s20 s25 (w64 (s26 + 1)) b0_0 b0_1 b0_2 b0_3 b1_0 b1_1 b1_2 b1_3 b1_4 b1_5 b1_6 b1_7 b1_8 b1_9 b1_10 b1_11 b1_12 b1_13 r2 b3_0 b3_1 b3_2 b3_3 b3_4 b3_5 b3_6)
   else (fits_Fits k b0_0 b0_1 b0_2 b0_3 [(b3_0, b3_1, b3_2, b3_3, b3_4, b3_5, b3_6), (r2.getD s26.toNat (0, 0, 0, 0, 0, 0, 0))]).bind fun x1 =>
   bif !x1 then (rec s19 s20 s25 (w64 (s26 + 1)) b0_0 b0_1 b0_2 b0_3 b1_0 b1_1 b1_2 b1_3 b1_4 b1_5 b1_6 b1_7 b1_8 b1_9 b1_10 b1_11 b1_12 b1_13 r2 b3_0 b3_1 b3_2 b3_3 b3_4 b3_5 b3_6)
   else (post_Post k b0_0 b0_1 b0_2 b0_3 [(b3_0, b3_1, b3_2, b3_3, b3_4, b3_5, b3_6), (r2.getD s26.toNat (0, 0, 0, 0, 0, 0, 0))]).bind fun x2 =>
   bif decide (x2.2.2.2.2 = 0) then some (.inr (true, b3_0, b3_1, b3_2, b3_3, b3_4, b3_5, b3_6, (r2.getD s26.toNat (0, 0, 0, 0, 0, 0, 0)).1, (r2.getD s26.toNat (0, 0, 0, 0, 0, 0, 0)).2.1, (r2.getD s26.toNat (0, 0, 0, 0, 0, 0, 0)).2.2.1, (r2.getD s26.toNat (0, 0, 0, 0, 0, 0, 0)).2.2.2.1, (r2.getD s26.toNat (0, 0, 0, 0, 0, 0, 0)).2.2.2.2.1, (r2.getD s26.toNat (0, 0, 0, 0, 0, 0, 0)).2.2.2.2.2.1, (r2.getD s26.toNat (0, 0, 0, 0, 0, 0, 0)).2.2.2.2.2.2, x2.1, x2.2.1, x2.2.2.1, x2.2.2.2.1))
   else rec s19 s20 s25 (w64 (s26 + 1)) b0_0 b0_1 b0_2 b0_3 b1_0 b1_1 b1_2 b1_3 b1_4 b1_5 b1_6 b1_7 b1_8 b1_9 b1_10 b1_11 b1_12 b1_13 r2 b3_0 b3_1 b3_2 b3_3 b3_4 b3_5 b3_6)
  else none)
 else some (.inl (s19, s20, b0_0, b0_1, b0_2, b0_3, b1_0, b1_1, b1_2, b1_3, b1_4, b1_5, b1_6, b1_7, b1_8, b1_9, b1_10, b1_11, b1_12, b1_13, r2))
def pair_next_L1 (k : Nat) : Nat → pair_next_L1T
 | 0, _, _, _, _, _, _, _, _, _, _, _, _, _, _, _, _, _, _, _, _, _, _, _, _, _, _, _, _, _, _ => none
 | n + 1, s19, s20, s25, s26, b0_0, b0_1, b0_2, b0_3, b1_0, b1_1, b1_2, b1_3, b1_4, b1_5, b1_6, b1_7, b1_8, b1_9, b1_10, b1_11, b1_12, b1_13, r2, b3_0, b3_1, b3_2, b3_3, b3_4, b3_5, b3_6 => pair_next_L1b k (pair_next_L1 k n) s19 s20 s25 s26 b0_0 b0_1 b0_2 b0_3 b1_0 b1_1 b1_2 b1_3 b1_4 b1_5 b1_6 b1_7 b1_8 b1_9 b1_10 b1_11 b1_12 b1_13 r2 b3_0 b3_1 b3_2 b3_3 b3_4 b3_5 b3_6
abbrev pair_next_L0X : Type := (Int × Int × Int × Int × Int × Int × Int × Int × Int × Int × Int × Int × Int × Int) ⊕ (Bool × Int × Int × Int × Int × Int × Int × Int × Int × Int × Int × Int × Int × Int × Int × (List K3q) × (List (List Int)) × (List Int) × (List (List Int)))
abbrev pair_next_L0T : Type := Int → Int → List K3q → List (List Int) → List Int → List (List Int) → Int → Int → Int → Int → Int → Int → Int → Int → Int → Int → Int → Int → Int → Int → List K2q → Option pair_next_L0X
def pair_next_L0b (k : Nat) (rec : pair_next_L0T) (s19 : Int) (s20 : Int) (b0_0 : List K3q) (b0_1 : List (List Int)) (b0_2 : List Int) (b0_3 : List (List Int)) (b1_0 : Int) (b1_1 : Int) (b1_2 : Int) (b1_3 : Int) (b1_4 : Int) (b1_5 : Int) (b1_6 : Int) (b1_7 : Int) (b1_8 : Int) (b1_9 : Int) (b1_10 : Int) (b1_11 : Int) (b1_12 : Int) (b1_13 : Int) (r2 : List K2q) : Option pair_next_L0X :=
 bif decide (s20 < s19) then (bif boundOk s20 r2.length then ((pair_next_L1 k k s19 s20 (r2.length : Int) 0 b0_0 b0_1 b0_2 b0_3 b1_0 b1_1 b1_2 b1_3 b1_4 b1_5 b1_6 b1_7 b1_8 b1_9 b1_10 b1_11 b1_12 b1_13 r2 (r2.getD s20.toNat (0, 0, 0, 0, 0, 0, 0)).1 (r2.getD s20.toNat (0, 0, 0, 0, 0, 0, 0)).2.1 (r2.getD s20.toNat (0, 0, 0, 0, 0, 0, 0)).2.2.1 (r2.getD s20.toNat (0, 0, 0, 0, 0, 0, 0)).2.2.2.1 (r2.getD s20.toNat (0, 0, 0, 0, 0, 0, 0)).2.2.2.2.1 (r2.getD s20.toNat (0, 0, 0, 0, 0, 0, 0)).2.2.2.2.2.1 (r2.getD s20.toNat (0, 0, 0, 0, 0, 0, 0)).2.2.2.2.2.2).bind fun z =>
   match z with
   | .inl z1 => rec z1.1 (w64 (z1.2.1 + 1)) z1.2.2.1 z1.2.2.2.1 z1.2.2.2.2.1 z1.2.2.2.2.2.1 z1.2.2.2.2.2.2.1 z1.2.2.2.2.2.2.2.1 z1.2.2.2.2.2.2.2.2.1 z1.2.2.2.2.2.2.2.2.2.1 z1.2.2.2.2.2.2.2.2.2.2.1 z1.2.2.2.2.2.2.2.2.2.2.2.1 z1.2.2.2.2.2.2.2.2.2.2.2.2.1 z1.2.2.2.2.2.2.2.2.2.2.2.2.2.1 z1.2.2.2.2.2.2.2.2.2.2.2.2.2.2.1 z1.2.2.2.2.2.2.2.2.2.2.2.2.2.2.2.1 z1.2.2.2.2.2.2.2.2.2.2.2.2.2.2.2.2.1 z1.2.2.2.2.2.2.2.2.2.2.2.2.2.2.2.2.2.1 z1.2.2.2.2.2.2.2.2.2.2.2.2.2.2.2.2.2.2.1 z1.2.2.2.2.2.2.2.2.2.2.2.2.2.2.2.2.2.2.2.1 z1.2.2.2.2.2.2.2.2.2.2.2.2.2.2.2.2.2.2.2.2
   | .inr z2 => some (.inr (z2.1, z2.2.1, z2.2.2.1, z2.2.2.2.1, z2.2.2.2.2.1, z2.2.2.2.2.2.1, z2.2.2.2.2.2.2.1, z2.2.2.2.2.2.2.2.1, z2.2.2.2.2.2.2.2.2.1, z2.2.2.2.2.2.2.2.2.2.1, z2.2.2.2.2.2.2.2.2.2.2.1, z2.2.2.2.2.2.2.2.2.2.2.2.1, z2.2.2.2.2.2.2.2.2.2.2.2.2.1, z2.2.2.2.2.2.2.2.2.2.2.2.2.2.1, z2.2.2.2.2.2.2.2.2.2.2.2.2.2.2.1, z2.2.2.2.2.2.2.2.2.2.2.2.2.2.2.2.1, z2.2.2.2.2.2.2.2.2.2.2.2.2.2.2.2.2.1, z2.2.2.2.2.2.2.2.2.2.2.2.2.2.2.2.2.2.1, z2.2.2.2.2.2.2.2.2.2.2.2.2.2.2.2.2.2.2)))
  else none)
 else some (.inl (b1_0, b1_1, b1_2, b1_3, b1_4, b1_5, b1_6, b1_7, b1_8, b1_9, b1_10, b1_11, b1_12, b1_13))
def pair_next_L0 (k : Nat) : Nat → pair_next_L0T
 | 0, _, _, _, _, _, _, _, _, _, _, _, _, _, _, _, _, _, _, _, _, _ => none
 | n + 1, s19, s20, b0_0, b0_1, b0_2, b0_3, b1_0, b1_1, b1_2, b1_3, b1_4, b1_5, b1_6, b1_7, b1_8, b1_9, b1_10, b1_11, b1_12, b1_13, r2 => pair_next_L0b k (pair_next_L0 k n) s19 s20 b0_0 b0_1 b0_2 b0_3 b1_0 b1_1 b1_2 b1_3 b1_4 b1_5 b1_6 b1_7 b1_8 b1_9 b1_10 b1_11 b1_12 b1_13 r2
/-- giro/pair.next -/
def pair_next (k : Nat) (a0Accts : List K3q) (a0Bil : List (List Int)) (a0Mul : List Int) (a0Pos : List (List Int)) (a1 : List K2q) (a2 : Int) : Option (Int × Int × Int × Int × Int × Int × Int × Int × Int × Int × Int × Int × Int × Int × (List K3q) × (List (List Int)) × (List Int) × (List (List Int)) × Bool) :=
 (view_May k a1 a2).bind fun x0 =>
 (pair_next_L0 k k (x0.length : Int) 0 a0Accts a0Bil a0Mul a0Pos 0 0 0 0 0 0 0 0 0 0 0 0 0 0 x0).bind fun z3 =>
 match z3 with
 | .inl z4 => some (0, 0, 0, 0, 0, 0, 0, 0, 0, 0, 0, 0, 0, 0, [], [], [], [], false)
 | .inr z5 => some (z5.2.1, z5.2.2.1, z5.2.2.2.1, z5.2.2.2.2.1, z5.2.2.2.2.2.1, z5.2.2.2.2.2.2.1, z5.2.2.2.2.2.2.2.1, z5.2.2.2.2.2.2.2.2.1, z5.2.2.2.2.2.2.2.2.2.1, z5.2.2.2.2.2.2.2.2.2.2.1, z5.2.2.2.2.2.2.2.2.2.2.2.1, z5.2.2.2.2.2.2.2.2.2.2.2.2.1, z5.2.2.2.2.2.2.2.2.2.2.2.2.2.1, z5.2.2.2.2.2.2.2.2.2.2.2.2.2.2.1, z5.2.2.2.2.2.2.2.2.2.2.2.2.2.2.2.1, z5.2.2.2.2.2.2.2.2.2.2.2.2.2.2.2.2.1, z5.2.2.2.2.2.2.2.2.2.2.2.2.2.2.2.2.2.1, z5.2.2.2.2.2.2.2.2.2.2.2.2.2.2.2.2.2.2, z5.1)

abbrev pair_Run_L1X : Type := Int × (List K2q) × (List K3q) × (List (List Int)) × (List Int) × (List (List Int)) × (List K2q)
abbrev pair_Run_L1T : Type := Int → List K2q → Int → Int → List K3q → List (List Int) → List Int → List (List Int) → List K2q → List K2q → Option pair_Run_L1X
def pair_Run_L1b (k : Nat) (rec : pair_Run_L1T) (s2 : Int) (s7 : List K2q) (s34 : Int) (s35 : Int) (b0_0 : List K3q) (b0_1 : List (List Int)) (b0_2 : List Int) (b0_3 : List (List Int)) (r1 : List K2q) (r2 : List K2q) : Option pair_Run_L1X :=
 bif decide (s35 < s34) then (bif boundOk s35 r2.length then ((row_Drop k s7 (r2.getD s35.toNat (0, 0, 0, 0, 0, 0, 0)).1).bind fun x1 =>
   bif roomB (r1.length + 1) 56 then (let y0 : List K2q := (r1 ++ [(r2.getD s35.toNat (0, 0, 0, 0, 0, 0, 0))])
    rec s2 x1.1 s34 (w64 (s35 + 1)) b0_0 b0_1 b0_2 b0_3 y0 r2)
   else none)
  else none)
 else some (s2, s7, b0_0, b0_1, b0_2, b0_3, r1)
def pair_Run_L1 (k : Nat) : Nat → pair_Run_L1T
 | 0, _, _, _, _, _, _, _, _, _, _ => none
 | n + 1, s2, s7, s34, s35, b0_0, b0_1, b0_2, b0_3, r1, r2 => pair_Run_L1b k (pair_Run_L1 k n) s2 s7 s34 s35 b0_0 b0_1 b0_2 b0_3 r1 r2
abbrev pair_Run_L0X : Type := (List K2q) × (List K3q) × (List (List Int)) × (List Int) × (List (List Int)) × (List K2q)
abbrev pair_Run_L0T : Type := Int → List K2q → List K3q → List (List Int) → List Int → List (List Int) → List K2q → Option pair_Run_L0X
def pair_Run_L0b (k : Nat) (rec : pair_Run_L0T) (s2 : Int) (s7 : List K2q) (b0_0 : List K3q) (b0_1 : List (List Int)) (b0_2 : List Int) (b0_3 : List (List Int)) (r1 : List K2q) : Option pair_Run_L0X :=
 (pair_next k b0_0 b0_1 b0_2 b0_3 s7 s2).bind fun x0 =>
 bif !x0.2.2.2.2.2.2.2.2.2.2.2.2.2.2.2.2.2.2 then some (s7, b0_0, b0_1, b0_2, b0_3, r1)
 else (pair_Run_L1 k k s2 s7 2 0 x0.2.2.2.2.2.2.2.2.2.2.2.2.2.2.1 x0.2.2.2.2.2.2.2.2.2.2.2.2.2.2.2.1 x0.2.2.2.2.2.2.2.2.2.2.2.2.2.2.2.2.1 x0.2.2.2.2.2.2.2.2.2.2.2.2.2.2.2.2.2.1 r1 [(x0.1, x0.2.1, x0.2.2.1, x0.2.2.2.1, x0.2.2.2.2.1, x0.2.2.2.2.2.1, x0.2.2.2.2.2.2.1), (x0.2.2.2.2.2.2.2.1, x0.2.2.2.2.2.2.2.2.1, x0.2.2.2.2.2.2.2.2.2.1, x0.2.2.2.2.2.2.2.2.2.2.1, x0.2.2.2.2.2.2.2.2.2.2.2.1, x0.2.2.2.2.2.2.2.2.2.2.2.2.1, x0.2.2.2.2.2.2.2.2.2.2.2.2.2.1)]).bind fun z =>
 rec z.1 z.2.1 z.2.2.1 z.2.2.2.1 z.2.2.2.2.1 z.2.2.2.2.2.1 z.2.2.2.2.2.2
def pair_Run_L0 (k : Nat) : Nat → pair_Run_L0T
 | 0, _, _, _, _, _, _, _ => none
 | n + 1, s2, s7, b0_0, b0_1, b0_2, b0_3, r1 => pair_Run_L0b k (pair_Run_L0 k n) s2 s7 b0_0 b0_1 b0_2 b0_3 r1
/-- giro/pair.Run -/
def pair_Run (k : Nat) (a0Accts : List K3q) (a0Bil : List (List Int)) (a0Mul : List Int) (a0Pos : List (List Int)) (a1 : List K2q) (a2 : Int) : Option ((List K3q) × (List (List Int)) × (List Int) × (List (List Int)) × (List K2q) × (List K2q)) :=
 (pair_Run_L0 k k a2 a1 a0Accts a0Bil a0Mul a0Pos []).bind fun z1 =>
 some (z1.2.1, z1.2.2.1, z1.2.2.2.1, z1.2.2.2.2.1, z1.1, z1.2.2.2.2.2)

abbrev settle_some_L0X : Type := (List K2q) × (List K3q) × (List (List Int)) × (List Int) × (List (List Int)) × (List K2q)
abbrev settle_some_L0T : Type := Int → List K2q → List K3q → List (List Int) → List Int → List (List Int) → List K2q → Option settle_some_L0X
def settle_some_L0b (k : Nat) (rec : settle_some_L0T) (s2 : Int) (s7 : List K2q) (b0_0 : List K3q) (b0_1 : List (List Int)) (b0_2 : List Int) (b0_3 : List (List Int)) (r1 : List K2q) : Option settle_some_L0X :=
 (free_Run k b0_0 b0_1 b0_2 b0_3 s7 s2).bind fun x0 =>
 (pair_Run k x0.1 x0.2.1 x0.2.2.1 x0.2.2.2.1 x0.2.2.2.2.1 s2).bind fun x1 =>
 bif roomB (r1.length + x0.2.2.2.2.2.length) 56 then (bif roomB ((r1 ++ x0.2.2.2.2.2).length + x1.2.2.2.2.2.length) 56 then (let y0 : List K2q := ((r1 ++ x0.2.2.2.2.2) ++ x1.2.2.2.2.2)
   bif decide ((x1.2.2.2.2.2.length : Int) = 0) then some (x1.2.2.2.2.1, x1.1, x1.2.1, x1.2.2.1, x1.2.2.2.1, y0)
   else rec s2 x1.2.2.2.2.1 x1.1 x1.2.1 x1.2.2.1 x1.2.2.2.1 y0)
  else none)
 else none
def settle_some_L0 (k : Nat) : Nat → settle_some_L0T
 | 0, _, _, _, _, _, _, _ => none
 | n + 1, s2, s7, b0_0, b0_1, b0_2, b0_3, r1 => settle_some_L0b k (settle_some_L0 k n) s2 s7 b0_0 b0_1 b0_2 b0_3 r1
/-- giro/settle.some -/
def settle_some (k : Nat) (a0Accts : List K3q) (a0Bil : List (List Int)) (a0Mul : List Int) (a0Pos : List (List Int)) (a1 : List K2q) (a2 : Int) : Option ((List K3q) × (List (List Int)) × (List Int) × (List (List Int)) × (List K2q) × (List K2q)) :=
 (settle_some_L0 k k a2 a1 a0Accts a0Bil a0Mul a0Pos []).bind fun z =>
 some (z.2.1, z.2.2.1, z.2.2.2.1, z.2.2.2.2.1, z.1, z.2.2.2.2.2)

/-- giro/settle.Run -/
def settle_Run (k : Nat) (a0Accts : List K3q) (a0Bil : List (List Int)) (a0Mul : List Int) (a0Pos : List (List Int)) (a1 : List K2q) (a2 : Int) (a3 : Bool) : Option ((List K3q) × (List (List Int)) × (List Int) × (List (List Int)) × (List K2q) × (List K2q)) :=
 (settle_some k a0Accts a0Bil a0Mul a0Pos a1 a2).bind fun x0 =>
 bif !a3 then some (x0.1, x0.2.1, x0.2.2.1, x0.2.2.2.1, x0.2.2.2.2.1, x0.2.2.2.2.2)
 else (knot_Run k x0.1 x0.2.1 x0.2.2.1 x0.2.2.2.1 x0.2.2.2.2.1 a2).bind fun x1 =>
 bif decide ((x1.2.2.2.2.2.length : Int) = 0) then some (x1.1, x1.2.1, x1.2.2.1, x1.2.2.2.1, x1.2.2.2.2.1, x0.2.2.2.2.2)
 else (settle_some k x1.1 x1.2.1 x1.2.2.1 x1.2.2.2.1 x1.2.2.2.2.1 a2).bind fun x2 =>
 bif roomB (x0.2.2.2.2.2.length + x1.2.2.2.2.2.length) 56 then (bif roomB ((x0.2.2.2.2.2 ++ x1.2.2.2.2.2).length + x2.2.2.2.2.2.length) 56 then (let y0 : List K2q := ((x0.2.2.2.2.2 ++ x1.2.2.2.2.2) ++ x2.2.2.2.2.2)
   some (x2.1, x2.2.1, x2.2.2.1, x2.2.2.2.1, x2.2.2.2.2.1, y0))
  else none)
 else none

abbrev giroref14_May_L1X : Type := Int × Bool × (List K2q) × (List K2q) × (List K2q)
abbrev giroref14_May_L1T : Type := Int → Bool → Int → List K2q → List K2q → List K2q → Option giroref14_May_L1X
def giroref14_May_L1b (k : Nat) (rec : giroref14_May_L1T) (s7 : Int) (s9 : Bool) (s10 : Int) (r0 : List K2q) (r1 : List K2q) (r2 : List K2q) : Option giroref14_May_L1X :=
 bif decide (s10 < (r2.length : Int)) then (bif s9 then (bif boundOk s10 r2.length then (rec s7 (decide ((r2.getD s10.toNat (0, 0, 0, 0, 0, 0, 0)).2.2.2.2.1 = 3)) (w64 (s10 + 1)) r0 r1 r2)
   else none)
  else rec s7 false (w64 (s10 + 1)) r0 r1 r2)
 else some (s7, s9, r0, r1, r2)
def giroref14_May_L1 (k : Nat) : Nat → giroref14_May_L1T
 | 0, _, _, _, _, _, _ => none
 | n + 1, s7, s9, s10, r0, r1, r2 => giroref14_May_L1b k (giroref14_May_L1 k n) s7 s9 s10 r0 r1 r2
abbrev giroref14_May_L0X : Type := List K2q
abbrev giroref14_May_L0T : Type := Int → List K2q → List K2q → Option giroref14_May_L0X
def giroref14_May_L0b (k : Nat) (rec : giroref14_May_L0T) (s7 : Int) (r0 : List K2q) (r1 : List K2q) : Option giroref14_May_L0X :=
 bif decide (s7 < (r0.length : Int)) then (bif boundOk s7 r0.length then ((giroref14_Of k r0 (r0.getD s7.toNat (0, 0, 0, 0, 0, 0, 0)).2.1).bind fun x1 =>
   (giroref14_May_L1 k k s7 true 0 r0 r1 x1).bind fun z =>
   bif boundOk 0 z.2.2.2.2.length then (bif boundOk z.1 z.2.2.1.length then (bif (decide ((z.2.2.2.2.getD 0 (0, 0, 0, 0, 0, 0, 0)).1 = (z.2.2.1.getD z.1.toNat (0, 0, 0, 0, 0, 0, 0)).1)) && ((decide ((z.2.2.2.2.getD 0 (0, 0, 0, 0, 0, 0, 0)).2.1 = (z.2.2.1.getD z.1.toNat (0, 0, 0, 0, 0, 0, 0)).2.1)) && ((decide ((z.2.2.2.2.getD 0 (0, 0, 0, 0, 0, 0, 0)).2.2.1 = (z.2.2.1.getD z.1.toNat (0, 0, 0, 0, 0, 0, 0)).2.2.1)) && ((decide ((z.2.2.2.2.getD 0 (0, 0, 0, 0, 0, 0, 0)).2.2.2.1 = (z.2.2.1.getD z.1.toNat (0, 0, 0, 0, 0, 0, 0)).2.2.2.1)) && ((decide ((z.2.2.2.2.getD 0 (0, 0, 0, 0, 0, 0, 0)).2.2.2.2.1 = (z.2.2.1.getD z.1.toNat (0, 0, 0, 0, 0, 0, 0)).2.2.2.2.1)) && ((decide ((z.2.2.2.2.getD 0 (0, 0, 0, 0, 0, 0, 0)).2.2.2.2.2.1 = (z.2.2.1.getD z.1.toNat (0, 0, 0, 0, 0, 0, 0)).2.2.2.2.2.1)) && (decide ((z.2.2.2.2.getD 0 (0, 0, 0, 0, 0, 0, 0)).2.2.2.2.2.2 = (z.2.2.1.getD z.1.toNat (0, 0, 0, 0, 0, 0, 0)).2.2.2.2.2.2))))))) then (bif boundOk z.1 z.2.2.1.length then (bif roomB (z.2.2.2.1.length + 1) 56 then (let y0 : List K2q := (z.2.2.2.1 ++ [(z.2.2.1.getD z.1.toNat (0, 0, 0, 0, 0, 0, 0))])
        rec (w64 (z.1 + 1)) z.2.2.1 y0)
       else none)
      else none)
     else bif z.2.1 then (bif boundOk z.1 z.2.2.1.length then (bif roomB (z.2.2.2.1.length + 1) 56 then (let y1 : List K2q := (z.2.2.2.1 ++ [(z.2.2.1.getD z.1.toNat (0, 0, 0, 0, 0, 0, 0))])
        rec (w64 (z.1 + 1)) z.2.2.1 y1)
       else none)
      else none)
     else rec (w64 (z.1 + 1)) z.2.2.1 z.2.2.2.1)
    else none)
   else none)
  else none)
 else some r1
def giroref14_May_L0 (k : Nat) : Nat → giroref14_May_L0T
 | 0, _, _, _ => none
 | n + 1, s7, r0, r1 => giroref14_May_L0b k (giroref14_May_L0 k n) s7 r0 r1
/-- giro/giroref14.May -/
def giroref14_May (k : Nat) (a0 : List K2q) (a1 : Int) : Option (List K2q) :=
 (giroref14_Ready k a0 a1).bind fun x0 =>
 (giroref14_May_L0 k k 0 x0 []).bind fun z1 =>
 some z1

/-- giro/giroref18.Goes -/
def giroref18_Goes (k : Nat) (a0Accts : List K3q) (a0Bil : List (List Int)) (a0Mul : List Int) (a0Pos : List (List Int)) (a1 : List K2q) : Option ((List K3q) × (List (List Int)) × (List Int) × (List (List Int)) × Bool) :=
 (giroref16_Post k a0Accts a0Bil a0Mul a0Pos a1).bind fun x0 =>
 bif decide (x0.2.2.2.2 = 0) then ((giroref15_Fits k a0Accts a0Bil a0Mul a0Pos a1).bind fun x1 =>
  some (x0.1, x0.2.1, x0.2.2.1, x0.2.2.2.1, x1))
 else some (x0.1, x0.2.1, x0.2.2.1, x0.2.2.2.1, false)

abbrev giroref18_Next_L0X : Type := K2q ⊕ (Bool × Int × Int × Int × Int × Int × Int × Int)
abbrev giroref18_Next_L0T : Type := Int → List K3q → List (List Int) → List Int → List (List Int) → Int → Int → Int → Int → Int → Int → Int → List K2q → Option giroref18_Next_L0X
def giroref18_Next_L0b (k : Nat) (rec : giroref18_Next_L0T) (s9 : Int) (b0_0 : List K3q) (b0_1 : List (List Int)) (b0_2 : List Int) (b0_3 : List (List Int)) (b1_0 : Int) (b1_1 : Int) (b1_2 : Int) (b1_3 : Int) (b1_4 : Int) (b1_5 : Int) (b1_6 : Int) (r2 : List K2q) : Option giroref18_Next_L0X :=
 bif decide (s9 < (r2.length : Int)) then (bif ((decide (0 ≤ s9)) && (decide (s9 ≤ (w64 (s9 + 1))))) && (decide ((w64 (s9 + 1)) ≤ (r2.length : Int))) then ((giroref18_Goes k b0_0 b0_1 b0_2 b0_3 (slc r2 (0 + s9.toNat) ((w64 (s9 + 1)).toNat - s9.toNat))).bind fun x1 =>
   bif x1.2.2.2.2 then (bif boundOk s9 r2.length then some (.inr (true, (r2.getD s9.toNat (0, 0, 0, 0, 0, 0, 0)).1, (r2.getD s9.toNat (0, 0, 0, 0, 0, 0, 0)).2.1, (r2.getD s9.toNat (0, 0, 0, 0, 0, 0, 0)).2.2.1, (r2.getD s9.toNat (0, 0, 0, 0, 0, 0, 0)).2.2.2.1, (r2.getD s9.toNat (0, 0, 0, 0, 0, 0, 0)).2.2.2.2.1, (r2.getD s9.toNat (0, 0, 0, 0, 0, 0, 0)).2.2.2.2.2.1, (r2.getD s9.toNat (0, 0, 0, 0, 0, 0, 0)).2.2.2.2.2.2))
    else none)
   else rec (w64 (s9 + 1)) b0_0 b0_1 b0_2 b0_3 b1_0 b1_1 b1_2 b1_3 b1_4 b1_5 b1_6 r2)
  else none)
 else some (.inl (b1_0, b1_1, b1_2, b1_3, b1_4, b1_5, b1_6))
def giroref18_Next_L0 (k : Nat) : Nat → giroref18_Next_L0T
 | 0, _, _, _, _, _, _, _, _, _, _, _, _, _ => none
 | n + 1, s9, b0_0, b0_1, b0_2, b0_3, b1_0, b1_1, b1_2, b1_3, b1_4, b1_5, b1_6, r2 => giroref18_Next_L0b k (giroref18_Next_L0 k n) s9 b0_0 b0_1 b0_2 b0_3 b1_0 b1_1 b1_2 b1_3 b1_4 b1_5 b1_6 r2
/-- giro/giroref18.Next -/
def giroref18_Next (k : Nat) (a0Accts : List K3q) (a0Bil : List (List Int)) (a0Mul : List Int) (a0Pos : List (List Int)) (a1 : List K2q) (a2 : Int) : Option (Int × Int × Int × Int × Int × Int × Int × Bool) :=
 (giroref14_May k a1 a2).bind fun x0 =>
 (giroref18_Next_L0 k k 0 a0Accts a0Bil a0Mul a0Pos 0 0 0 0 0 0 0 x0).bind fun z =>
 match z with
 | .inl z1 => some (0, 0, 0, 0, 0, 0, 0, false)
 | .inr z2 => some (z2.2.1, z2.2.2.1, z2.2.2.2.1, z2.2.2.2.2.1, z2.2.2.2.2.2.1, z2.2.2.2.2.2.2.1, z2.2.2.2.2.2.2.2, z2.1)

abbrev giroref19_Next_L1X : Type := (Int × (List K3q) × (List (List Int)) × (List Int) × (List (List Int)) × Int × Int × Int × Int × Int × Int × Int × Int × Int × Int × Int × Int × Int × Int × (List K2q)) ⊕ (Bool × Int × Int × Int × Int × Int × Int × Int × Int × Int × Int × Int × Int × Int × Int)
abbrev giroref19_Next_L1T : Type := Int → Int → List K3q → List (List Int) → List Int → List (List Int) → Int → Int → Int → Int → Int → Int → Int → Int → Int → Int → Int → Int → Int → Int → List K2q → Option giroref19_Next_L1X
def giroref19_Next_L1b (k : Nat) (rec : giroref19_Next_L1T) (s10 : Int) (s11 : Int) (b0_0 : List K3q) (b0_1 : List (List Int)) (b0_2 : List Int) (b0_3 : List (List Int)) (b1_0 : Int) (b1_1 : Int) (b1_2 : Int) (b1_3 : Int) (b1_4 : Int) (b1_5 : Int) (b1_6 : Int) (b2_0 : Int) (b2_1 : Int) (b2_2 : Int) (b2_3 : Int) (b2_4 : Int) (b2_5 : Int) (b2_6 : Int) (r3 : List K2q) : Option giroref19_Next_L1X :=
 bif decide (s11 < (r3.length : Int)) then (bif boundOk s10 r3.length then (bif boundOk s11 r3.length then (bif !(decide ((r3.getD s11.toNat (0, 0, 0, 0, 0, 0, 0)).2.1 = (r3.getD s10.toNat (0, 0, 0, 0, 0, 0, 0)).2.2.1)) then (rec s10 (w64 (s11 + 1)) b0_0 b0_1 b0_2 b0_3 b1_0 b1_1 b1_2 b1_3 b1_4 b1_5 b1_6 b2_0 b2_1 b2_2 b2_3 b2_4 b2_5 b2_6 r3)
    else bif !(decide ((r3.getD s11.toNat (0, 0, 0, 0, 0, 0, 0)).2.2.1 = (r3.getD s10.toNat (0, 0, 0, 0, 0, 0, 0)).2.1)) then (rec s10 (w64 (s11 + 1)) b0_0 b0_1 b0_2 b0_3 b1_0 b1_1 b1_2 b1_3 b1_4 b1_5 b1_6 b2_0 b2_1 b2_2 b2_3 b2_4 b2_5 b2_6 r3)
    else bif decide ((r3.getD s10.toNat (0, 0, 0, 0, 0, 0, 0)).2.1 ≥ (r3.getD s11.toNat (0, 0, 0, 0, 0, 0, 0)).2.1) then (rec s10 (w64 (s11 + 1)) b0_0 b0_1 b0_2 b0_3 b1_0 b1_1 b1_2 b1_3 b1_4 b1_5 b1_6 b2_0 b2_1 b2_2 b2_3 b2_4 b2_5 b2_6 r3)
    else (giroref18_Goes k b0_0 b0_1 b0_2 b0_3 [(r3.getD s10.toNat (0, 0, 0, 0, 0, 0, 0)), (r3.getD s11.toNat (0, 0, 0, 0, 0, 0, 0))]).bind fun x1 =>
    bif x1.2.2.2.2 then some (.inr (true, (r3.getD s10.toNat (0, 0, 0, 0, 0, 0, 0)).1, (r3.getD s10.toNat (0, 0, 0, 0, 0, 0, 0)).2.1, (r3.getD s10.toNat (0, 0, 0, 0, 0, 0, 0)).2.2.1, (r3.getD s10.toNat (0, 0, 0, 0, 0, 0, 0)).2.2.2.1, (r3.getD s10.toNat (0, 0, 0, 0, 0, 0, 0)).2.2.2.2.1, (r3.getD s10.toNat (0, 0, 0, 0, 0, 0, 0)).2.2.2.2.2.1, (r3.getD s10.toNat (0, 0, 0, 0, 0, 0, 0)).2.2.2.2.2.2, (r3.getD s11.toNat (0, 0, 0, 0, 0, 0, 0)).1, (r3.getD s11.toNat (0, 0, 0, 0, 0, 0, 0)).2.1, (r3.getD s11.toNat (0, 0, 0, 0, 0, 0, 0)).2.2.1, (r3.getD s11.toNat (0, 0, 0, 0, 0, 0, 0)).2.2.2.1, (r3.getD s11.toNat (0, 0, 0, 0, 0, 0, 0)).2.2.2.2.1, (r3.getD s11.toNat (0, 0, 0, 0, 0, 0, 0)).2.2.2.2.2.1, (r3.getD s11.toNat (0, 0, 0, 0, 0, 0, 0)).2.2.2.2.2.2))
    else rec s10 (w64 (s11 + 1)) b0_0 b0_1 b0_2 b0_3 b1_0 b1_1 b1_2 b1_3 b1_4 b1_5 b1_6 b2_0 b2_1 b2_2 b2_3 b2_4 b2_5 b2_6 r3)
   else none)
  else none)
 else some (.inl (s10, b0_0, b0_1, b0_2, b0_3, b1_0, b1_1, b1_2, b1_3, b1_4, b1_5, b1_6, b2_0, b2_1, b2_2, b2_3, b2_4, b2_5, b2_6, r3))
def giroref19_Next_L1 (k : Nat) : Nat → giroref19_Next_L1T
 | 0, _, _, _, _, _, _, _, _, _, _, _, _, _, _, _, _, _, _, _, _, _ => none
 | n + 1, s10, s11, b0_0, b0_1, b0_2, b0_3, b1_0, b1_1, b1_2, b1_3, b1_4, b1_5, b1_6, b2_0, b2_1, b2_2, b2_3, b2_4, b2_5, b2_6, r3 => giroref19_Next_L1b k (giroref19_Next_L1 k n) s10 s11 b0_0 b0_1 b0_2 b0_3 b1_0 b1_1 b1_2 b1_3 b1_4 b1_5 b1_6 b2_0 b2_1 b2_2 b2_3 b2_4 b2_5 b2_6 r3
abbrev giroref19_Next_L0X : Type := (Int × Int × Int × Int × Int × Int × Int × Int × Int × Int × Int × Int × Int × Int) ⊕ (Bool × Int × Int × Int × Int × Int × Int × Int × Int × Int × Int × Int × Int × Int × Int)
abbrev giroref19_Next_L0T : Type := Int → List K3q → List (List Int) → List Int → List (List Int) → Int → Int → Int → Int → Int → Int → Int → Int → Int → Int → Int → Int → Int → Int → List K2q → Option giroref19_Next_L0X
def giroref19_Next_L0b (k : Nat) (rec : giroref19_Next_L0T) (s10 : Int) (b0_0 : List K3q) (b0_1 : List (List Int)) (b0_2 : List Int) (b0_3 : List (List Int)) (b1_0 : Int) (b1_1 : Int) (b1_2 : Int) (b1_3 : Int) (b1_4 : Int) (b1_5 : Int) (b1_6 : Int) (b2_0 : Int) (b2_1 : Int) (b2_2 : Int) (b2_3 : Int) (b2_4 : Int) (b2_5 : Int) (b2_6 : Int) (r3 : List K2q) : Option giroref19_Next_L0X :=
 bif decide (s10 < (r3.length : Int)) then ((giroref19_Next_L1 k k s10 0 b0_0 b0_1 b0_2 b0_3 b1_0 b1_1 b1_2 b1_3 b1_4 b1_5 b1_6 b2_0 b2_1 b2_2 b2_3 b2_4 b2_5 b2_6 r3).bind fun z =>
  match z with
  | .inl z1 => rec (w64 (z1.1 + 1)) z1.2.1 z1.2.2.1 z1.2.2.2.1 z1.2.2.2.2.1 z1.2.2.2.2.2.1 z1.2.2.2.2.2.2.1 z1.2.2.2.2.2.2.2.1 z1.2.2.2.2.2.2.2.2.1 z1.2.2.2.2.2.2.2.2.2.1 z1.2.2.2.2.2.2.2.2.2.2.1 z1.2.2.2.2.2.2.2.2.2.2.2.1 z1.2.2.2.2.2.2.2.2.2.2.2.2.1 z1.2.2.2.2.2.2.2.2.2.2.2.2.2.1 z1.2.2.2.2.2.2.2.2.2.2.2.2.2.2.1 z1.2.2.2.2.2.2.2.2.2.2.2.2.2.2.2.1 z1.2.2.2.2.2.2.2.2.2.2.2.2.2.2.2.2.1 z1.2.2.2.2.2.2.2.2.2.2.2.2.2.2.2.2.2.1 z1.2.2.2.2.2.2.2.2.2.2.2.2.2.2.2.2.2.2.1 z1.2.2.2.2.2.2.2.2.2.2.2.2.2.2.2.2.2.2.2
  | .inr z2 => some (.inr (z2.1, z2.2.1, z2.2.2.1, z2.2.2.2.1, z2.2.2.2.2.1, z2.2.2.2.2.2.1, z2.2.2.2.2.2.2.1, z2.2.2.2.2.2.2.2.1, z2.2.2.2.2.2.2.2.2.1, z2.2.2.2.2.2.2.2.2.2.1, z2.2.2.2.2.2.2.2.2.2.2.1, z2.2.2.2.2.2.2.2.2.2.2.2.1, z2.2.2.2.2.2.2.2.2.2.2.2.2.1, z2.2.2.2.2.2.2.2.2.2.2.2.2.2.1, z2.2.2.2.2.2.2.2.2.2.2.2.2.2.2)))
 else some (.inl (b1_0, b1_1, b1_2, b1_3, b1_4, b1_5, b1_6, b2_0, b2_1, b2_2, b2_3, b2_4, b2_5, b2_6))
def giroref19_Next_L0 (k : Nat) : Nat → giroref19_Next_L0T
 | 0, _, _, _, _, _, _, _, _, _, _, _, _, _, _, _, _, _, _, _, _ => none
 | n + 1, s10, b0_0, b0_1, b0_2, b0_3, b1_0, b1_1, b1_2, b1_3, b1_4, b1_5, b1_6, b2_0, b2_1, b2_2, b2_3, b2_4, b2_5, b2_6, r3 => giroref19_Next_L0b k (giroref19_Next_L0 k n) s10 b0_0 b0_1 b0_2 b0_3 b1_0 b1_1 b1_2 b1_3 b1_4 b1_5 b1_6 b2_0 b2_1 b2_2 b2_3 b2_4 b2_5 b2_6 r3
/-- giro/giroref19.Next -/
def giroref19_Next (k : Nat) (a0Accts : List K3q) (a0Bil : List (List Int)) (a0Mul : List Int) (a0Pos : List (List Int)) (a1 : List K2q) (a2 : Int) : Option (Int × Int × Int × Int × Int × Int × Int × Int × Int × Int × Int × Int × Int × Int × Bool) :=
 (giroref14_May k a1 a2).bind fun x0 =>
 (giroref19_Next_L0 k k 0 a0Accts a0Bil a0Mul a0Pos 0 0 0 0 0 0 0 0 0 0 0 0 0 0 x0).bind fun z3 =>
 match z3 with
 | .inl z4 => some (0, 0, 0, 0, 0, 0, 0, 0, 0, 0, 0, 0, 0, 0, false)
 | .inr z5 => some (z5.2.1, z5.2.2.1, z5.2.2.2.1, z5.2.2.2.2.1, z5.2.2.2.2.2.1, z5.2.2.2.2.2.2.1, z5.2.2.2.2.2.2.2.1, z5.2.2.2.2.2.2.2.2.1, z5.2.2.2.2.2.2.2.2.2.1, z5.2.2.2.2.2.2.2.2.2.2.1, z5.2.2.2.2.2.2.2.2.2.2.2.1, z5.2.2.2.2.2.2.2.2.2.2.2.2.1, z5.2.2.2.2.2.2.2.2.2.2.2.2.2.1, z5.2.2.2.2.2.2.2.2.2.2.2.2.2.2, z5.1)

abbrev girolaw21_ring_L0X : Type := List K2q
abbrev girolaw21_ring_L0T : Type := Int → Int → List K2q → Option girolaw21_ring_L0X
def girolaw21_ring_L0b (k : Nat) (rec : girolaw21_ring_L0T) (s0 : Int) (s4 : Int) (r0 : List K2q) : Option girolaw21_ring_L0X :=
 bif decide (s4 < 3) then (bif roomB (r0.length + 1) 56 then (let y0 : List K2q := (r0 ++ [((w64 (s4 + 1)), s4, (Int.tmod (w64 (s4 + 1)) 3), s0, 3, 0, 9)])
   rec s0 (w64 (s4 + 1)) y0)
  else none)
 else some r0
def girolaw21_ring_L0 (k : Nat) : Nat → girolaw21_ring_L0T
 | 0, _, _, _ => none
 | n + 1, s0, s4, r0 => girolaw21_ring_L0b k (girolaw21_ring_L0 k n) s0 s4 r0
/-- giro/girolaw21.ring -/
def girolaw21_ring (k : Nat) (a0 : Int) : Option (List K2q) :=
 (girolaw21_ring_L0 k k a0 0 []).bind fun z =>
 some z

/-- giro/girolaw21.known -/
def girolaw21_known (k : Nat) : Option Bool :=
 (girolaw21_some k [] 0).bind fun x0 =>
 (girolaw21_ring k 5).bind fun x1 =>
 (settle_Run k x0.1 x0.2.1 x0.2.2.1 x0.2.2.2 x1 1 true).bind fun x2 =>
 (girolaw21_some k [] 0).bind fun x3 =>
 (girolaw21_ring k 5).bind fun x4 =>
 (settle_Run k x3.1 x3.2.1 x3.2.2.1 x3.2.2.2 x4 1 false).bind fun x5 =>
 bif decide ((x2.2.2.2.2.1.length : Int) = 0) then (bif decide ((x2.2.2.2.2.2.length : Int) = 3) then (bif decide ((x5.2.2.2.2.1.length : Int) = 3) then some (decide ((x5.2.2.2.2.2.length : Int) = 0))
   else some false)
  else some false)
 else some false

abbrev girolaw21_SettleEnds_L0X : Type := (Int × (List K2q) × (List K3q) × (List (List Int)) × (List Int) × (List (List Int))) ⊕ Bool
abbrev girolaw21_SettleEnds_L0T : Type := Int → List K2q → List K2q → Int → List K3q → List (List Int) → List Int → List (List Int) → List K2q → Option girolaw21_SettleEnds_L0X
def girolaw21_SettleEnds_L0b (k : Nat) (rec : girolaw21_SettleEnds_L0T) (s3 : Int) (s12 : List K2q) (s14 : List K2q) (s16 : Int) (b0_0 : List K3q) (b0_1 : List (List Int)) (b0_2 : List Int) (b0_3 : List (List Int)) (r1 : List K2q) : Option girolaw21_SettleEnds_L0X :=
 bif decide (s16 < (s12.length : Int)) then (bif boundOk s16 s12.length then ((giroref13_Find k s14 (s12.getD s16.toNat (0, 0, 0, 0, 0, 0, 0)).1).bind fun x4 =>
   bif boundOk s16 s12.length then ((giroref13_Find k r1 (s12.getD s16.toNat (0, 0, 0, 0, 0, 0, 0)).1).bind fun x5 =>
    bif eqBool (decide (x4 ≥ 0)) (decide (x5 ≥ 0)) then some (.inr false)
    else rec s3 s12 s14 (w64 (s16 + 1)) b0_0 b0_1 b0_2 b0_3 r1)
   else none)
  else none)
 else some (.inl (s3, s14, b0_0, b0_1, b0_2, b0_3))
def girolaw21_SettleEnds_L0 (k : Nat) : Nat → girolaw21_SettleEnds_L0T
 | 0, _, _, _, _, _, _, _, _, _ => none
 | n + 1, s3, s12, s14, s16, b0_0, b0_1, b0_2, b0_3, r1 => girolaw21_SettleEnds_L0b k (girolaw21_SettleEnds_L0 k n) s3 s12 s14 s16 b0_0 b0_1 b0_2 b0_3 r1
/-- giro/girolaw21.SettleEnds -/
def girolaw21_SettleEnds (k : Nat) (a0 : List Int) (a1 : Int) (a2 : List K2q) (a3 : Int) (a4 : Bool) : Option Bool :=
 bif decide ((a2.length : Int) > 30) then some true
 else (girolaw21_some k a0 a1).bind fun x0 =>
 (girolaw21_rowed k a2).bind fun x1 =>
 (settle_Run k x0.1 x0.2.1 x0.2.2.1 x0.2.2.2 x1 a3 a4).bind fun x2 =>
 (giroref10_Is k x2.1 x2.2.1 x2.2.2.1 x2.2.2.2.1).bind fun x3 =>
 bif !x3 then some false
 else bif !(decide ((w64 ((x2.2.2.2.2.1.length : Int) + (x2.2.2.2.2.2.length : Int))) = (x1.length : Int))) then some false
 else (girolaw21_SettleEnds_L0 k k a3 x1 x2.2.2.2.2.1 0 x2.1 x2.2.1 x2.2.2.1 x2.2.2.2.1 x2.2.2.2.2.2).bind fun z =>
 match z with
 | .inl z1 => (giroref18_Next k z1.2.2.1 z1.2.2.2.1 z1.2.2.2.2.1 z1.2.2.2.2.2 z1.2.1 z1.1).bind fun x6 =>
  (giroref19_Next k z1.2.2.1 z1.2.2.2.1 z1.2.2.2.2.1 z1.2.2.2.2.2 z1.2.1 z1.1).bind fun x7 =>
  bif !x6.2.2.2.2.2.2.2 then (bif !x7.2.2.2.2.2.2.2.2.2.2.2.2.2.2 then ((girolaw21_known k).bind fun x8 =>
    some x8)
   else some false)
  else some false
 | .inr z2 => some z2

/-- giro/girolaw21.SettleAgain -/
def girolaw21_SettleAgain (k : Nat) (a0 : List Int) (a1 : Int) (a2 : List K2q) (a3 : Int) : Option Bool :=
 bif decide ((a2.length : Int) > 30) then some true
 else (girolaw21_some k a0 a1).bind fun x0 =>
 (girolaw21_rowed k a2).bind fun x1 =>
 (settle_Run k x0.1 x0.2.1 x0.2.2.1 x0.2.2.2 x1 a3 false).bind fun x2 =>
 (settle_Run k x2.1 x2.2.1 x2.2.2.1 x2.2.2.2.1 x2.2.2.2.2.1 a3 false).bind fun x3 =>
 (settle_Run k x2.1 x2.2.1 x2.2.2.1 x2.2.2.2.1 x2.2.2.2.2.1 a3 true).bind fun x4 =>
 (giroref20_Run k x2.1 x2.2.1 x2.2.2.1 x2.2.2.2.1 x2.2.2.2.2.1 a3).bind fun x5 =>
 bif decide ((x3.2.2.2.2.2.length : Int) = 0) then (bif decide ((x4.2.2.2.2.2.length : Int) ≥ (x5.2.2.2.2.2.length : Int)) then ((giroref10_Is k x4.1 x4.2.1 x4.2.2.1 x4.2.2.2.1).bind fun x6 =>
   bif x6 then (bif decide ((w64 ((x4.2.2.2.2.1.length : Int) + (x4.2.2.2.2.2.length : Int))) = (x2.2.2.2.2.1.length : Int)) then ((girolaw21_known k).bind fun x7 =>
     some x7)
    else some false)
   else some false)
  else some false)
 else some false

/-- giro/hour.out -/
def hour_out (k : Nat) (a0 : Int) (a1 : Int) (a2 : List Int) : Option K1q :=
 some (a0, a1, (bif (Nat.blt 0 a2.length) then (a2.getD 0 0) else 0), (bif (Nat.blt 1 a2.length) then (a2.getD 1 0) else 0), (bif (Nat.blt 2 a2.length) then (a2.getD 2 0) else 0), (bif (Nat.blt 3 a2.length) then (a2.getD 3 0) else 0), (bif (Nat.blt 4 a2.length) then (a2.getD 4 0) else 0), (bif (Nat.blt 5 a2.length) then (a2.getD 5 0) else 0))

abbrev hour_Told_L1X : Type := (List K2q) × Int × Int × (List K1q)
abbrev hour_Told_L1T : Type := List K2q → Int → Int → Int → Int → List K1q → Int → Int → Int → Int → Int → Int → Int → List Int → Option hour_Told_L1X
def hour_Told_L1b (k : Nat) (rec : hour_Told_L1T) (s8 : List K2q) (s9 : Int) (s10 : Int) (s19 : Int) (s20 : Int) (r0 : List K1q) (b1_0 : Int) (b1_1 : Int) (b1_2 : Int) (b1_3 : Int) (b1_4 : Int) (b1_5 : Int) (b1_6 : Int) (r2 : List Int) : Option hour_Told_L1X :=
 bif decide (s20 < s19) then (bif boundOk s20 r2.length then ((hour_out k (r2.getD s20.toNat 0) 18 [b1_0, b1_1, b1_2, b1_3]).bind fun x0 =>
   bif roomB (r0.length + 1) 64 then (rec s8 s9 s10 s19 (w64 (s20 + 1)) (r0 ++ [x0]) b1_0 b1_1 b1_2 b1_3 b1_4 b1_5 b1_6 r2)
   else none)
  else none)
 else some (s8, s9, s10, r0)
def hour_Told_L1 (k : Nat) : Nat → hour_Told_L1T
 | 0, _, _, _, _, _, _, _, _, _, _, _, _, _, _ => none
 | n + 1, s8, s9, s10, s19, s20, r0, b1_0, b1_1, b1_2, b1_3, b1_4, b1_5, b1_6, r2 => hour_Told_L1b k (hour_Told_L1 k n) s8 s9 s10 s19 s20 r0 b1_0 b1_1 b1_2 b1_3 b1_4 b1_5 b1_6 r2
abbrev hour_Told_L0X : Type := List K1q
abbrev hour_Told_L0T : Type := List K2q → Int → Int → List K1q → Option hour_Told_L0X
def hour_Told_L0b (k : Nat) (rec : hour_Told_L0T) (s8 : List K2q) (s9 : Int) (s10 : Int) (r0 : List K1q) : Option hour_Told_L0X :=
 bif decide (s10 < s9) then (bif boundOk s10 s8.length then ((hour_Told_L1 k k s8 s9 s10 2 0 r0 (s8.getD s10.toNat (0, 0, 0, 0, 0, 0, 0)).1 (s8.getD s10.toNat (0, 0, 0, 0, 0, 0, 0)).2.1 (s8.getD s10.toNat (0, 0, 0, 0, 0, 0, 0)).2.2.1 (s8.getD s10.toNat (0, 0, 0, 0, 0, 0, 0)).2.2.2.1 (s8.getD s10.toNat (0, 0, 0, 0, 0, 0, 0)).2.2.2.2.1 (s8.getD s10.toNat (0, 0, 0, 0, 0, 0, 0)).2.2.2.2.2.1 (s8.getD s10.toNat (0, 0, 0, 0, 0, 0, 0)).2.2.2.2.2.2 [(s8.getD s10.toNat (0, 0, 0, 0, 0, 0, 0)).2.1, (s8.getD s10.toNat (0, 0, 0, 0, 0, 0, 0)).2.2.1]).bind fun z =>
   rec z.1 z.2.1 (w64 (z.2.2.1 + 1)) z.2.2.2)
  else none)
 else some r0
def hour_Told_L0 (k : Nat) : Nat → hour_Told_L0T
 | 0, _, _, _, _ => none
 | n + 1, s8, s9, s10, r0 => hour_Told_L0b k (hour_Told_L0 k n) s8 s9 s10 r0
/-- giro/hour.Told -/
def hour_Told (k : Nat) (a0 : List K2q) : Option (List K1q) :=
 (hour_Told_L0 k k a0 (a0.length : Int) 0 []).bind fun z1 =>
 some z1

abbrev giroref3_Of_L0X : Type := Int × Int × Int × Int × Int × Int × Int × Int × Int × Int × Int × Int × Int × Int
abbrev giroref3_Of_L0T : Type := List Int → Int → Int → Int → Int → Int → Int → Int → Int → Int → Int → Int → Int → Int → Int → Int → Option giroref3_Of_L0X
def giroref3_Of_L0b (k : Nat) (rec : giroref3_Of_L0T) (s1 : List Int) (s6 : Int) (b0_0 : Int) (b0_1 : Int) (b0_2 : Int) (b0_3 : Int) (b0_4 : Int) (b0_5 : Int) (b0_6 : Int) (b1_0 : Int) (b1_1 : Int) (b1_2 : Int) (b1_3 : Int) (b1_4 : Int) (b1_5 : Int) (b1_6 : Int) : Option giroref3_Of_L0X :=
 bif decide (s6 < (s1.length : Int)) then (bif decide (s6 < 6) then (bif boundOk s6 s1.length then (bif decide (s6 = 0) then (rec s1 (w64 (s6 + 1)) b0_0 b0_1 b0_2 b0_3 b0_4 b0_5 b0_6 b1_0 (s1.getD s6.toNat 0) b1_2 b1_3 b1_4 b1_5 b1_6)
    else bif decide (s6 = 1) then (rec s1 (w64 (s6 + 1)) b0_0 b0_1 b0_2 b0_3 b0_4 b0_5 b0_6 b1_0 b1_1 (s1.getD s6.toNat 0) b1_3 b1_4 b1_5 b1_6)
    else bif decide (s6 = 2) then (rec s1 (w64 (s6 + 1)) b0_0 b0_1 b0_2 b0_3 b0_4 b0_5 b0_6 b1_0 b1_1 b1_2 (s1.getD s6.toNat 0) b1_4 b1_5 b1_6)
    else bif decide (s6 = 3) then (rec s1 (w64 (s6 + 1)) b0_0 b0_1 b0_2 b0_3 b0_4 b0_5 b0_6 b1_0 b1_1 b1_2 b1_3 (s1.getD s6.toNat 0) b1_5 b1_6)
    else bif decide (s6 = 4) then (rec s1 (w64 (s6 + 1)) b0_0 b0_1 b0_2 b0_3 b0_4 b0_5 b0_6 b1_0 b1_1 b1_2 b1_3 b1_4 (s1.getD s6.toNat 0) b1_6)
    else bif decide (s6 = 5) then (rec s1 (w64 (s6 + 1)) b0_0 b0_1 b0_2 b0_3 b0_4 b0_5 b0_6 b1_0 b1_1 b1_2 b1_3 b1_4 b1_5 (s1.getD s6.toNat 0))
    else none)
   else none)
  else some (b0_0, b0_1, b0_2, b0_3, b0_4, b0_5, b0_6, b1_0, b1_1, b1_2, b1_3, b1_4, b1_5, b1_6))
 else some (b0_0, b0_1, b0_2, b0_3, b0_4, b0_5, b0_6, b1_0, b1_1, b1_2, b1_3, b1_4, b1_5, b1_6)
def giroref3_Of_L0 (k : Nat) : Nat → giroref3_Of_L0T
 | 0, _, _, _, _, _, _, _, _, _, _, _, _, _, _, _, _ => none
 | n + 1, s1, s6, b0_0, b0_1, b0_2, b0_3, b0_4, b0_5, b0_6, b1_0, b1_1, b1_2, b1_3, b1_4, b1_5, b1_6 => giroref3_Of_L0b k (giroref3_Of_L0 k n) s1 s6 b0_0 b0_1 b0_2 b0_3 b0_4 b0_5 b0_6 b1_0 b1_1 b1_2 b1_3 b1_4 b1_5 b1_6
/-- giro/giroref3.Of -/
def giroref3_Of (k : Nat) (a0 : Int) (a1 : List Int) : Option K2q :=
 (giroref3_Of_L0 k k a1 0 0 0 0 0 0 0 0 a0 0 0 0 0 0 0).bind fun z =>
 some (z.2.2.2.2.2.2.2.1, z.2.2.2.2.2.2.2.2.1, z.2.2.2.2.2.2.2.2.2.1, z.2.2.2.2.2.2.2.2.2.2.1, z.2.2.2.2.2.2.2.2.2.2.2.1, z.2.2.2.2.2.2.2.2.2.2.2.2.1, z.2.2.2.2.2.2.2.2.2.2.2.2.2)

abbrev giroref22_Told_L0X : Type := List K1q
abbrev giroref22_Told_L0T : Type := List K2q → Int → List K1q → Option giroref22_Told_L0X
def giroref22_Told_L0b (k : Nat) (rec : giroref22_Told_L0T) (s0 : List K2q) (s4 : Int) (r0 : List K1q) : Option giroref22_Told_L0X :=
 bif decide (s4 < (s0.length : Int)) then (bif boundOk s4 s0.length then ((giroref3_Of k 18 [(s0.getD s4.toNat (0, 0, 0, 0, 0, 0, 0)).1, (s0.getD s4.toNat (0, 0, 0, 0, 0, 0, 0)).2.1, (s0.getD s4.toNat (0, 0, 0, 0, 0, 0, 0)).2.2.1, (s0.getD s4.toNat (0, 0, 0, 0, 0, 0, 0)).2.2.2.1]).bind fun x0 =>
   bif roomB (r0.length + 2) 64 then (let y0 : List K1q := (r0 ++ [((s0.getD s4.toNat (0, 0, 0, 0, 0, 0, 0)).2.1, x0), ((s0.getD s4.toNat (0, 0, 0, 0, 0, 0, 0)).2.2.1, x0)])
    rec s0 (w64 (s4 + 1)) y0)
   else none)
  else none)
 else some r0
def giroref22_Told_L0 (k : Nat) : Nat → giroref22_Told_L0T
 | 0, _, _, _ => none
 | n + 1, s0, s4, r0 => giroref22_Told_L0b k (giroref22_Told_L0 k n) s0 s4 r0
/-- giro/giroref22.Told -/
def giroref22_Told (k : Nat) (a0 : List K2q) : Option (List K1q) :=
 (giroref22_Told_L0 k k a0 0 []).bind fun z =>
 some z

abbrev giroref3_Outs_L0T : Type := List K1q → List K1q → Int → Option (Unit ⊕ Bool)
def giroref3_Outs_L0b (k : Nat) (rec : giroref3_Outs_L0T) (s0 : List K1q) (s1 : List K1q) (s5 : Int) : Option (Unit ⊕ Bool) :=
 bif decide (s5 < (s0.length : Int)) then (bif boundOk s5 s0.length then (bif boundOk s5 s1.length then (bif !((decide ((s0.getD s5.toNat (0, 0, 0, 0, 0, 0, 0, 0)).1 = (s1.getD s5.toNat (0, 0, 0, 0, 0, 0, 0, 0)).1)) && ((decide ((s0.getD s5.toNat (0, 0, 0, 0, 0, 0, 0, 0)).2.1 = (s1.getD s5.toNat (0, 0, 0, 0, 0, 0, 0, 0)).2.1)) && ((decide ((s0.getD s5.toNat (0, 0, 0, 0, 0, 0, 0, 0)).2.2.1 = (s1.getD s5.toNat (0, 0, 0, 0, 0, 0, 0, 0)).2.2.1)) && ((decide ((s0.getD s5.toNat (0, 0, 0, 0, 0, 0, 0, 0)).2.2.2.1 = (s1.getD s5.toNat (0, 0, 0, 0, 0, 0, 0, 0)).2.2.2.1)) && ((decide ((s0.getD s5.toNat (0, 0, 0, 0, 0, 0, 0, 0)).2.2.2.2.1 = (s1.getD s5.toNat (0, 0, 0, 0, 0, 0, 0, 0)).2.2.2.2.1)) && ((decide ((s0.getD s5.toNat (0, 0, 0, 0, 0, 0, 0, 0)).2.2.2.2.2.1 = (s1.getD s5.toNat (0, 0, 0, 0, 0, 0, 0, 0)).2.2.2.2.2.1)) && ((decide ((s0.getD s5.toNat (0, 0, 0, 0, 0, 0, 0, 0)).2.2.2.2.2.2.1 = (s1.getD s5.toNat (0, 0, 0, 0, 0, 0, 0, 0)).2.2.2.2.2.2.1)) && (decide ((s0.getD s5.toNat (0, 0, 0, 0, 0, 0, 0, 0)).2.2.2.2.2.2.2 = (s1.getD s5.toNat (0, 0, 0, 0, 0, 0, 0, 0)).2.2.2.2.2.2.2))))))))) then some (.inr false)
    else rec s0 s1 (w64 (s5 + 1)))
   else none)
  else none)
 else some (.inl ())
def giroref3_Outs_L0 (k : Nat) : Nat → giroref3_Outs_L0T
 | 0, _, _, _ => none
 | n + 1, s0, s1, s5 => giroref3_Outs_L0b k (giroref3_Outs_L0 k n) s0 s1 s5
/-- giro/giroref3.Outs -/
def giroref3_Outs (k : Nat) (a0 : List K1q) (a1 : List K1q) : Option Bool :=
 bif !(decide ((a0.length : Int) = (a1.length : Int))) then some false
 else (giroref3_Outs_L0 k k a0 a1 0).bind fun z =>
 match z with
 | .inl z1 => some true
 | .inr z2 => some z2

/-- giro/girolaw22.rules -/
def girolaw22_rules (k : Nat) (a0 : Int) : Option (Int × (List (Int × Int)) × Int × Int × Int) :=
 bif decide ((band .i64 a0 3) = 1) then some (4, [(100, 1000), (7, 0)], 12, 20, 100)
 else bif decide ((band .i64 a0 3) = 2) then some (3, [], 20, 20, 4)
 else bif decide ((band .i64 a0 3) = 3) then some (3, [(100, 1000), (7, 0)], 0, 6, 1)
 else some (3, [(100, 1000), (7, 0)], 12, 20, 4)

abbrev girolaw22_some_L0X : Type := Int × (List K3q) × (List (List Int)) × (List Int) × (List (List Int))
abbrev girolaw22_some_L0T : Type := List Int → Int → Int → List K3q → List (List Int) → List Int → List (List Int) → Option girolaw22_some_L0X
def girolaw22_some_L0b (k : Nat) (rec : girolaw22_some_L0T) (s0 : List Int) (s1 : Int) (s6 : Int) (r2 : List K3q) (m3 : List (List Int)) (r4 : List Int) (m5 : List (List Int)) : Option girolaw22_some_L0X :=
 bif decide (s6 < 3) then (bif decide (s6 < (s0.length : Int)) then (bif boundOk s6 s0.length then (bif roomB (r2.length + 1) 24 then (rec s0 s1 (w64 (s6 + 1)) (r2 ++ [((band .i64 (s0.getD s6.toNat 0) 63), 0, 0)]) m3 r4 m5)
    else none)
   else none)
  else bif roomB (r2.length + 1) 24 then (rec s0 s1 (w64 (s6 + 1)) (r2 ++ [(0, 0, 0)]) m3 r4 m5)
  else none)
 else some (s1, r2, m3, r4, m5)
def girolaw22_some_L0 (k : Nat) : Nat → girolaw22_some_L0T
 | 0, _, _, _, _, _, _, _ => none
 | n + 1, s0, s1, s6, r2, m3, r4, m5 => girolaw22_some_L0b k (girolaw22_some_L0 k n) s0 s1 s6 r2 m3 r4 m5
/-- giro/girolaw22.some -/
def girolaw22_some (k : Nat) (a0 : List Int) (a1 : Int) : Option ((List K3q) × (List (List Int)) × (List Int) × (List (List Int))) :=
 (girolaw22_some_L0 k k a0 a1 0 [] [[(-1), (-1), (-1)], [(-1), (-1), (-1)], [(-1), (-1), (-1)]] [(-1), (-1), (-1)] [[0, 0, 0], [0, 0, 0], [0, 0, 0]]).bind fun z =>
 bif decide ((band .i64 z.1 1) = 1) then (bif boundOk 0 z.2.1.length then (let y0 : List K3q := (z.2.1.set 0 ((z.2.1.getD 0 (0, 0, 0)).1, 7, (z.2.1.getD 0 (0, 0, 0)).2.2))
   bif boundOk 1 y0.length then (let y1 : List K3q := (y0.set 1 ((y0.getD 1 (0, 0, 0)).1, (y0.getD 1 (0, 0, 0)).2.1, 5))
    bif boundOk 2 y1.length then (let y2 : List K3q := (y1.set 2 ((y1.getD 2 (0, 0, 0)).1, 3, (y1.getD 2 (0, 0, 0)).2.2))
     bif decide ((band .i64 z.1 2) = 2) then (bif boundOk 0 z.2.2.1.length then (bif boundOk 1 z.2.2.1.length then (bif boundOk 1 (z.2.2.1.getD 0 []).length then (let y3 : List (List Int) := (z.2.2.1.set 0 ((z.2.2.1.getD 0 []).set 1 6))
         bif boundOk 2 (y3.getD 1 []).length then (bif boundOk 2 z.2.2.2.1.length then (bif decide ((band .i64 z.1 4) = 4) then (bif boundOk 0 z.2.2.2.2.length then (bif boundOk 1 z.2.2.2.2.length then (bif boundOk 1 (z.2.2.2.2.getD 0 []).length then (let y4 : List (List Int) := (z.2.2.2.2.set 0 ((z.2.2.2.2.getD 0 []).set 1 3))
               bif boundOk 0 (y4.getD 1 []).length then (bif boundOk 2 y2.length then (let y5 : List K3q := (y2.set 2 ((y2.getD 2 (0, 0, 0)).1, (y2.getD 2 (0, 0, 0)).2.1, 9))
                 bif boundOk 0 (z.2.2.2.1.set 2 4).length then some (y5, (y3.set 1 ((y3.getD 1 []).set 2 0)), ((z.2.2.2.1.set 2 4).set 0 8), (y4.set 1 ((y4.getD 1 []).set 0 (-3))))
                 else none)
                else none)
               else none)
              else none)
             else none)
            else none)
           else some (y2, (y3.set 1 ((y3.getD 1 []).set 2 0)), (z.2.2.2.1.set 2 4), z.2.2.2.2))
          else none)
         else none)
        else none)
       else none)
      else none)
     else bif decide ((band .i64 z.1 4) = 4) then (bif boundOk 0 z.2.2.2.2.length then (bif boundOk 1 z.2.2.2.2.length then (bif boundOk 1 (z.2.2.2.2.getD 0 []).length then (let y6 : List (List Int) := (z.2.2.2.2.set 0 ((z.2.2.2.2.getD 0 []).set 1 3))
         bif boundOk 0 (y6.getD 1 []).length then (bif boundOk 2 y2.length then (let y7 : List K3q := (y2.set 2 ((y2.getD 2 (0, 0, 0)).1, (y2.getD 2 (0, 0, 0)).2.1, 9))
           bif boundOk 0 z.2.2.2.1.length then some (y7, z.2.2.1, (z.2.2.2.1.set 0 8), (y6.set 1 ((y6.getD 1 []).set 0 (-3))))
           else none)
          else none)
         else none)
        else none)
       else none)
      else none)
     else some (y2, z.2.2.1, z.2.2.2.1, z.2.2.2.2))
    else none)
   else none)
  else none)
 else bif decide ((band .i64 z.1 2) = 2) then (bif boundOk 0 z.2.2.1.length then (bif boundOk 1 z.2.2.1.length then (bif boundOk 1 (z.2.2.1.getD 0 []).length then (let y8 : List (List Int) := (z.2.2.1.set 0 ((z.2.2.1.getD 0 []).set 1 6))
     bif boundOk 2 (y8.getD 1 []).length then (bif boundOk 2 z.2.2.2.1.length then (bif decide ((band .i64 z.1 4) = 4) then (bif boundOk 0 z.2.2.2.2.length then (bif boundOk 1 z.2.2.2.2.length then (bif boundOk 1 (z.2.2.2.2.getD 0 []).length then (let y9 : List (List Int) := (z.2.2.2.2.set 0 ((z.2.2.2.2.getD 0 []).set 1 3))
           bif boundOk 0 (y9.getD 1 []).length then (bif boundOk 2 z.2.1.length then (let y10 : List K3q := (z.2.1.set 2 ((z.2.1.getD 2 (0, 0, 0)).1, (z.2.1.getD 2 (0, 0, 0)).2.1, 9))
             bif boundOk 0 (z.2.2.2.1.set 2 4).length then some (y10, (y8.set 1 ((y8.getD 1 []).set 2 0)), ((z.2.2.2.1.set 2 4).set 0 8), (y9.set 1 ((y9.getD 1 []).set 0 (-3))))
             else none)
            else none)
           else none)
          else none)
         else none)
        else none)
       else some (z.2.1, (y8.set 1 ((y8.getD 1 []).set 2 0)), (z.2.2.2.1.set 2 4), z.2.2.2.2))
      else none)
     else none)
    else none)
   else none)
  else none)
 else bif decide ((band .i64 z.1 4) = 4) then (bif boundOk 0 z.2.2.2.2.length then (bif boundOk 1 z.2.2.2.2.length then (bif boundOk 1 (z.2.2.2.2.getD 0 []).length then (let y11 : List (List Int) := (z.2.2.2.2.set 0 ((z.2.2.2.2.getD 0 []).set 1 3))
     bif boundOk 0 (y11.getD 1 []).length then (bif boundOk 2 z.2.1.length then (let y12 : List K3q := (z.2.1.set 2 ((z.2.1.getD 2 (0, 0, 0)).1, (z.2.1.getD 2 (0, 0, 0)).2.1, 9))
       bif boundOk 0 z.2.2.2.1.length then some (y12, z.2.2.1, (z.2.2.2.1.set 0 8), (y11.set 1 ((y11.getD 1 []).set 0 (-3))))
       else none)
      else none)
     else none)
    else none)
   else none)
  else none)
 else some (z.2.1, z.2.2.1, z.2.2.2.1, z.2.2.2.2)

abbrev girolaw22_rowed_L0X : Type := List K2q
abbrev girolaw22_rowed_L0T : Type := List K2q → List K2q → Int → Option girolaw22_rowed_L0X
def girolaw22_rowed_L0b (k : Nat) (rec : girolaw22_rowed_L0T) (s0 : List K2q) (s3 : List K2q) (s4 : Int) : Option girolaw22_rowed_L0X :=
 bif decide (s4 < (s0.length : Int)) then (bif boundOk s4 s0.length then (bif decide ((Int.tmod (band .i64 (s0.getD s4.toNat (0, 0, 0, 0, 0, 0, 0)).2.1 255) 3) = (Int.tmod (band .i64 (s0.getD s4.toNat (0, 0, 0, 0, 0, 0, 0)).2.2.1 255) 3)) then ((giroref13_Put k s3 (w64 (s4 + 1)) (Int.tmod (band .i64 (s0.getD s4.toNat (0, 0, 0, 0, 0, 0, 0)).2.1 255) 3) (Int.tmod (w64 ((Int.tmod (band .i64 (s0.getD s4.toNat (0, 0, 0, 0, 0, 0, 0)).2.1 255) 3) + 1)) 3) (w64 (1 + (band .i64 (s0.getD s4.toNat (0, 0, 0, 0, 0, 0, 0)).2.2.2.1 31))) (w64 (1 + (Int.tmod (band .i64 (s0.getD s4.toNat (0, 0, 0, 0, 0, 0, 0)).2.2.2.2.1 255) 3))) (band .i64 (s0.getD s4.toNat (0, 0, 0, 0, 0, 0, 0)).2.2.2.2.2.1 7) (w64 ((band .i64 (s0.getD s4.toNat (0, 0, 0, 0, 0, 0, 0)).2.2.2.2.2.1 7) + (band .i64 (s0.getD s4.toNat (0, 0, 0, 0, 0, 0, 0)).2.2.2.2.2.2 15)))).bind fun x0 =>
    bif decide (x0.2 = 0) then (rec s0 x0.1 (w64 (s4 + 1)))
    else rec s0 s3 (w64 (s4 + 1)))
   else (giroref13_Put k s3 (w64 (s4 + 1)) (Int.tmod (band .i64 (s0.getD s4.toNat (0, 0, 0, 0, 0, 0, 0)).2.1 255) 3) (Int.tmod (band .i64 (s0.getD s4.toNat (0, 0, 0, 0, 0, 0, 0)).2.2.1 255) 3) (w64 (1 + (band .i64 (s0.getD s4.toNat (0, 0, 0, 0, 0, 0, 0)).2.2.2.1 31))) (w64 (1 + (Int.tmod (band .i64 (s0.getD s4.toNat (0, 0, 0, 0, 0, 0, 0)).2.2.2.2.1 255) 3))) (band .i64 (s0.getD s4.toNat (0, 0, 0, 0, 0, 0, 0)).2.2.2.2.2.1 7) (w64 ((band .i64 (s0.getD s4.toNat (0, 0, 0, 0, 0, 0, 0)).2.2.2.2.2.1 7) + (band .i64 (s0.getD s4.toNat (0, 0, 0, 0, 0, 0, 0)).2.2.2.2.2.2 15)))).bind fun x1 =>
   bif decide (x1.2 = 0) then (rec s0 x1.1 (w64 (s4 + 1)))
   else rec s0 s3 (w64 (s4 + 1)))
  else none)
 else some s3
def girolaw22_rowed_L0 (k : Nat) : Nat → girolaw22_rowed_L0T
 | 0, _, _, _ => none
 | n + 1, s0, s3, s4 => girolaw22_rowed_L0b k (girolaw22_rowed_L0 k n) s0 s3 s4
/-- giro/girolaw22.rowed -/
def girolaw22_rowed (k : Nat) (a0 : List K2q) : Option (List K2q) :=
 (girolaw22_rowed_L0 k k a0 [] 0).bind fun z =>
 some z

/-- giro/girolaw22.state -/
def girolaw22_state (k : Nat) (a0 : List Int) (a1 : Int) (a2 : List K2q) (a3 : Int) : Option (Int × (List K3q) × (List (List Int)) × (List Int) × (List (List Int)) × (List Int) × (List (List Int)) × (List K2q) × (List Int) × Int × Bool) :=
 (girolaw22_some k a0 a1).bind fun x0 =>
 (girolaw22_rowed k a2).bind fun x1 =>
 some (a3, x0.1, x0.2.1, x0.2.2.1, x0.2.2.2, [], [], x1, [], 0, false)

/-- giro/day.Closes -/
def day_Closes (k : Nat) (a0Parties : Int) (a0Assets : List (Int × Int)) (a0Cutoff : Int) (a0Close : Int) (a0Period : Int) (a1 : Int) : Option Bool :=
 some (decide (a1 = a0Close))

abbrev hour_ends_L0X : Type := Int × (List K3q) × (List (List Int)) × (List Int) × (List (List Int)) × (List Int) × (List (List Int)) × (List K2q) × (List Int) × Int × Bool × Int × Int × Bool × (List K1q)
abbrev hour_ends_L0T : Type := List K2q → Int → Int → Int → List K3q → List (List Int) → List Int → List (List Int) → List Int → List (List Int) → List K2q → List Int → Int → Bool → Int → Int → Bool → List K1q → Option hour_ends_L0X
def hour_ends_L0b (k : Nat) (rec : hour_ends_L0T) (s10 : List K2q) (s11 : Int) (s12 : Int) (b0_0 : Int) (b0_1 : List K3q) (b0_2 : List (List Int)) (b0_3 : List Int) (b0_4 : List (List Int)) (b0_5 : List Int) (b0_6 : List (List Int)) (b0_7 : List K2q) (b0_8 : List Int) (b0_9 : Int) (b0_10 : Bool) (b1_0 : Int) (b1_9 : Int) (b1_10 : Bool) (r2 : List K1q) : Option hour_ends_L0X :=
 bif decide (s12 < s11) then (bif boundOk s12 s10.length then ((hour_out k (s10.getD s12.toNat (0, 0, 0, 0, 0, 0, 0)).2.1 22 [(s10.getD s12.toNat (0, 0, 0, 0, 0, 0, 0)).1]).bind fun x0 =>
   bif roomB (r2.length + 1) 64 then (rec s10 s11 (w64 (s12 + 1)) b0_0 b0_1 b0_2 b0_3 b0_4 b0_5 b0_6 b0_7 b0_8 b0_9 b0_10 b1_0 b1_9 b1_10 (r2 ++ [x0]))
   else none)
  else none)
 else some (b0_0, b0_1, b0_2, b0_3, b0_4, b0_5, b0_6, b0_7, b0_8, b0_9, b0_10, b1_0, b1_9, b1_10, r2)
def hour_ends_L0 (k : Nat) : Nat → hour_ends_L0T
 | 0, _, _, _, _, _, _, _, _, _, _, _, _, _, _, _, _, _, _ => none
 | n + 1, s10, s11, s12, b0_0, b0_1, b0_2, b0_3, b0_4, b0_5, b0_6, b0_7, b0_8, b0_9, b0_10, b1_0, b1_9, b1_10, r2 => hour_ends_L0b k (hour_ends_L0 k n) s10 s11 s12 b0_0 b0_1 b0_2 b0_3 b0_4 b0_5 b0_6 b0_7 b0_8 b0_9 b0_10 b1_0 b1_9 b1_10 r2
abbrev hour_ends_L1X : Type := Int × (List K3q) × (List (List Int)) × (List Int) × (List (List Int)) × (List Int) × (List (List Int)) × (List K2q) × (List Int) × Int × Bool × Int × Int × Bool × (List K1q)
abbrev hour_ends_L1T : Type := List K3q → Int → Int → Int → List K3q → List (List Int) → List Int → List (List Int) → List Int → List (List Int) → List K2q → List Int → Int → Bool → Int → Int → Bool → List K1q → Option hour_ends_L1X
def hour_ends_L1b (k : Nat) (rec : hour_ends_L1T) (s28 : List K3q) (s29 : Int) (s30 : Int) (b0_0 : Int) (b0_1 : List K3q) (b0_2 : List (List Int)) (b0_3 : List Int) (b0_4 : List (List Int)) (b0_5 : List Int) (b0_6 : List (List Int)) (b0_7 : List K2q) (b0_8 : List Int) (b0_9 : Int) (b0_10 : Bool) (b1_0 : Int) (b1_9 : Int) (b1_10 : Bool) (r2 : List K1q) : Option hour_ends_L1X :=
 bif decide (s30 < s29) then (bif boundOk s30 s28.length then ((hour_out k s30 23 [(s28.getD s30.toNat (0, 0, 0)).1]).bind fun x1 =>
   bif roomB (r2.length + 1) 64 then (rec s28 s29 (w64 (s30 + 1)) b0_0 b0_1 b0_2 b0_3 b0_4 b0_5 b0_6 b0_7 b0_8 b0_9 b0_10 b1_0 b1_9 b1_10 (r2 ++ [x1]))
   else none)
  else none)
 else some (b0_0, b0_1, b0_2, b0_3, b0_4, b0_5, b0_6, b0_7, b0_8, b0_9, b0_10, b1_0, b1_9, b1_10, r2)
def hour_ends_L1 (k : Nat) : Nat → hour_ends_L1T
 | 0, _, _, _, _, _, _, _, _, _, _, _, _, _, _, _, _, _, _ => none
 | n + 1, s28, s29, s30, b0_0, b0_1, b0_2, b0_3, b0_4, b0_5, b0_6, b0_7, b0_8, b0_9, b0_10, b1_0, b1_9, b1_10, r2 => hour_ends_L1b k (hour_ends_L1 k n) s28 s29 s30 b0_0 b0_1 b0_2 b0_3 b0_4 b0_5 b0_6 b0_7 b0_8 b0_9 b0_10 b1_0 b1_9 b1_10 r2
/-- giro/hour.ends -/
def hour_ends (k : Nat) (a0Tick : Int) (a0BooksAccts : List K3q) (a0BooksBil : List (List Int)) (a0BooksMul : List Int) (a0BooksPos : List (List Int)) (a0Prices : List Int) (a0Holds : List (List Int)) (a0Pays : List K2q) (a0IDs : List Int) (a0Total : Int) (a0Over : Bool) : Option (Int × (List K3q) × (List (List Int)) × (List Int) × (List (List Int)) × (List Int) × (List (List Int)) × (List K2q) × (List Int) × Int × Bool × (List K1q)) :=
 (hour_ends_L0 k k a0Pays (a0Pays.length : Int) 0 a0Tick a0BooksAccts a0BooksBil a0BooksMul a0BooksPos a0Prices a0Holds a0Pays a0IDs a0Total a0Over 0 0 false []).bind fun z =>
 (hour_ends_L1 k k z.2.1 (z.2.1.length : Int) 0 z.1 z.2.1 z.2.2.1 z.2.2.2.1 z.2.2.2.2.1 z.2.2.2.2.2.1 z.2.2.2.2.2.2.1 z.2.2.2.2.2.2.2.1 z.2.2.2.2.2.2.2.2.1 z.2.2.2.2.2.2.2.2.2.1 z.2.2.2.2.2.2.2.2.2.2.1 z.2.2.2.2.2.2.2.2.2.2.2.1 z.2.2.2.2.2.2.2.2.2.2.2.2.1 z.2.2.2.2.2.2.2.2.2.2.2.2.2.1 z.2.2.2.2.2.2.2.2.2.2.2.2.2.2).bind fun z1 =>
 some (z1.1, z1.2.1, z1.2.2.1, z1.2.2.2.1, z1.2.2.2.2.1, z1.2.2.2.2.2.1, z1.2.2.2.2.2.2.1, [], z1.2.2.2.2.2.2.2.2.1, z1.2.2.2.2.2.2.2.2.2.1, true, z1.2.2.2.2.2.2.2.2.2.2.2.2.2.2)

/-- giro/pay.Late -/
def pay_Late (k : Nat) (a0ID : Int) (a0From : Int) (a0To : Int) (a0Amount : Int) (a0Class : Int) (a0Start : Int) (a0Till : Int) (a1 : Int) : Option Bool :=
 some (decide (a1 > a0Till))

/-- giro/day.Solves -/
def day_Solves (k : Nat) (a0Parties : Int) (a0Assets : List (Int × Int)) (a0Cutoff : Int) (a0Close : Int) (a0Period : Int) (a1 : Int) : Option Bool :=
 bif decide (a1 > 0) then (bif decide (a1 < a0Close) then (bif !(decide (a0Period = 0)) then some (decide ((Int.tmod a1 a0Period) = 0))
   else none)
  else some false)
 else some false

/-- giro/hour.Settle -/
def hour_Settle (k : Nat) (a0Tick : Int) (a0BooksAccts : List K3q) (a0BooksBil : List (List Int)) (a0BooksMul : List Int) (a0BooksPos : List (List Int)) (a0Prices : List Int) (a0Holds : List (List Int)) (a0Pays : List K2q) (a0IDs : List Int) (a0Total : Int) (a0Over : Bool) (a1 : Bool) : Option (Int × (List K3q) × (List (List Int)) × (List Int) × (List (List Int)) × (List Int) × (List (List Int)) × (List K2q) × (List Int) × Int × Bool × (List K1q)) :=
 (settle_Run k a0BooksAccts a0BooksBil a0BooksMul a0BooksPos a0Pays a0Tick a1).bind fun x0 =>
 (hour_Told k x0.2.2.2.2.2).bind fun x1 =>
 some (a0Tick, x0.1, x0.2.1, x0.2.2.1, x0.2.2.2.1, a0Prices, a0Holds, x0.2.2.2.2.1, a0IDs, a0Total, a0Over, x1)

abbrev hour_Tick_L0X : Type := Int × (List (Int × Int)) × Int × Int × Int × Int × (List K3q) × (List (List Int)) × (List Int) × (List (List Int)) × (List Int) × (List (List Int)) × (List K2q) × (List Int) × Int × Bool × Int × Int × Bool × (List K1q) × (List K2q)
abbrev hour_Tick_L0T : Type := List K2q → Int → Int → Int → List (Int × Int) → Int → Int → Int → Int → List K3q → List (List Int) → List Int → List (List Int) → List Int → List (List Int) → List K2q → List Int → Int → Bool → Int → Int → Bool → List K1q → List K2q → Option hour_Tick_L0X
def hour_Tick_L0b (k : Nat) (rec : hour_Tick_L0T) (s27 : List K2q) (s28 : Int) (s29 : Int) (b0_0 : Int) (b0_1 : List (Int × Int)) (b0_2 : Int) (b0_3 : Int) (b0_4 : Int) (b1_0 : Int) (b1_1 : List K3q) (b1_2 : List (List Int)) (b1_3 : List Int) (b1_4 : List (List Int)) (b1_5 : List Int) (b1_6 : List (List Int)) (b1_7 : List K2q) (b1_8 : List Int) (b1_9 : Int) (b1_10 : Bool) (b2_0 : Int) (b2_9 : Int) (b2_10 : Bool) (r3 : List K1q) (r4 : List K2q) : Option hour_Tick_L0X :=
 bif decide (s29 < s28) then (bif boundOk s29 s27.length then ((pay_Late k (s27.getD s29.toNat (0, 0, 0, 0, 0, 0, 0)).1 (s27.getD s29.toNat (0, 0, 0, 0, 0, 0, 0)).2.1 (s27.getD s29.toNat (0, 0, 0, 0, 0, 0, 0)).2.2.1 (s27.getD s29.toNat (0, 0, 0, 0, 0, 0, 0)).2.2.2.1 (s27.getD s29.toNat (0, 0, 0, 0, 0, 0, 0)).2.2.2.2.1 (s27.getD s29.toNat (0, 0, 0, 0, 0, 0, 0)).2.2.2.2.2.1 (s27.getD s29.toNat (0, 0, 0, 0, 0, 0, 0)).2.2.2.2.2.2 b1_0).bind fun x2 =>
   bif x2 then ((hour_out k (s27.getD s29.toNat (0, 0, 0, 0, 0, 0, 0)).2.1 21 [(s27.getD s29.toNat (0, 0, 0, 0, 0, 0, 0)).1]).bind fun x3 =>
    bif roomB (r3.length + 1) 64 then (rec s27 s28 (w64 (s29 + 1)) b0_0 b0_1 b0_2 b0_3 b0_4 b1_0 b1_1 b1_2 b1_3 b1_4 b1_5 b1_6 b1_7 b1_8 b1_9 b1_10 b2_0 b2_9 b2_10 (r3 ++ [x3]) r4)
    else none)
   else bif roomB (r4.length + 1) 56 then (let y0 : List K2q := (r4 ++ [(s27.getD s29.toNat (0, 0, 0, 0, 0, 0, 0))])
    rec s27 s28 (w64 (s29 + 1)) b0_0 b0_1 b0_2 b0_3 b0_4 b1_0 b1_1 b1_2 b1_3 b1_4 b1_5 b1_6 b1_7 b1_8 b1_9 b1_10 b2_0 b2_9 b2_10 r3 y0)
   else none)
  else none)
 else some (b0_0, b0_1, b0_2, b0_3, b0_4, b1_0, b1_1, b1_2, b1_3, b1_4, b1_5, b1_6, b1_7, b1_8, b1_9, b1_10, b2_0, b2_9, b2_10, r3, r4)
def hour_Tick_L0 (k : Nat) : Nat → hour_Tick_L0T
 | 0, _, _, _, _, _, _, _, _, _, _, _, _, _, _, _, _, _, _, _, _, _, _, _, _ => none
 | n + 1, s27, s28, s29, b0_0, b0_1, b0_2, b0_3, b0_4, b1_0, b1_1, b1_2, b1_3, b1_4, b1_5, b1_6, b1_7, b1_8, b1_9, b1_10, b2_0, b2_9, b2_10, r3, r4 => hour_Tick_L0b k (hour_Tick_L0 k n) s27 s28 s29 b0_0 b0_1 b0_2 b0_3 b0_4 b1_0 b1_1 b1_2 b1_3 b1_4 b1_5 b1_6 b1_7 b1_8 b1_9 b1_10 b2_0 b2_9 b2_10 r3 r4
/-- giro/hour.Tick -/
def hour_Tick (k : Nat) (a0Parties : Int) (a0Assets : List (Int × Int)) (a0Cutoff : Int) (a0Close : Int) (a0Period : Int) (a1Tick : Int) (a1BooksAccts : List K3q) (a1BooksBil : List (List Int)) (a1BooksMul : List Int) (a1BooksPos : List (List Int)) (a1Prices : List Int) (a1Holds : List (List Int)) (a1Pays : List K2q) (a1IDs : List Int) (a1Total : Int) (a1Over : Bool) : Option (Int × (List K3q) × (List (List Int)) × (List Int) × (List (List Int)) × (List Int) × (List (List Int)) × (List K2q) × (List Int) × Int × Bool × (List K1q)) :=
 bif a1Over then some (a1Tick, a1BooksAccts, a1BooksBil, a1BooksMul, a1BooksPos, a1Prices, a1Holds, a1Pays, a1IDs, a1Total, a1Over, [])
 else (day_Closes k a0Parties a0Assets a0Cutoff a0Close a0Period (w64 (a1Tick + 1))).bind fun x0 =>
 bif x0 then ((hour_ends k (w64 (a1Tick + 1)) a1BooksAccts a1BooksBil a1BooksMul a1BooksPos a1Prices a1Holds a1Pays a1IDs a1Total a1Over).bind fun x1 =>
  some (x1.1, x1.2.1, x1.2.2.1, x1.2.2.2.1, x1.2.2.2.2.1, x1.2.2.2.2.2.1, x1.2.2.2.2.2.2.1, x1.2.2.2.2.2.2.2.1, x1.2.2.2.2.2.2.2.2.1, x1.2.2.2.2.2.2.2.2.2.1, x1.2.2.2.2.2.2.2.2.2.2.1, x1.2.2.2.2.2.2.2.2.2.2.2))
 else (hour_Tick_L0 k k a1Pays (a1Pays.length : Int) 0 a0Parties a0Assets a0Cutoff a0Close a0Period (w64 (a1Tick + 1)) a1BooksAccts a1BooksBil a1BooksMul a1BooksPos a1Prices a1Holds a1Pays a1IDs a1Total a1Over 0 0 false [] []).bind fun z =>
 (day_Solves k z.1 z.2.1 z.2.2.1 z.2.2.2.1 z.2.2.2.2.1 z.2.2.2.2.2.1).bind fun x4 =>
 (hour_Settle k z.2.2.2.2.2.1 z.2.2.2.2.2.2.1 z.2.2.2.2.2.2.2.1 z.2.2.2.2.2.2.2.2.1 z.2.2.2.2.2.2.2.2.2.1 z.2.2.2.2.2.2.2.2.2.2.1 z.2.2.2.2.2.2.2.2.2.2.2.1 z.2.2.2.2.2.2.2.2.2.2.2.2.2.2.2.2.2.2.2.2 z.2.2.2.2.2.2.2.2.2.2.2.2.2.1 z.2.2.2.2.2.2.2.2.2.2.2.2.2.2.1 z.2.2.2.2.2.2.2.2.2.2.2.2.2.2.2.1 x4).bind fun x5 =>
 bif roomB (z.2.2.2.2.2.2.2.2.2.2.2.2.2.2.2.2.2.2.2.1.length + x5.2.2.2.2.2.2.2.2.2.2.2.length) 64 then (let y1 : List K1q := (z.2.2.2.2.2.2.2.2.2.2.2.2.2.2.2.2.2.2.2.1 ++ x5.2.2.2.2.2.2.2.2.2.2.2)
  some (x5.1, x5.2.1, x5.2.2.1, x5.2.2.2.1, x5.2.2.2.2.1, x5.2.2.2.2.2.1, x5.2.2.2.2.2.2.1, x5.2.2.2.2.2.2.2.1, x5.2.2.2.2.2.2.2.2.1, x5.2.2.2.2.2.2.2.2.2.1, x5.2.2.2.2.2.2.2.2.2.2.1, y1))
 else none

/-- giro/girolaw22.known -/
def girolaw22_known (k : Nat) : Option Bool :=
 (girolaw22_rules k 0).bind fun x0 =>
 (girolaw22_state k [5] 0 [] 19).bind fun x1 =>
 (hour_Tick k x0.1 x0.2.1 x0.2.2.1 x0.2.2.2.1 x0.2.2.2.2 x1.1 x1.2.1 x1.2.2.1 x1.2.2.2.1 x1.2.2.2.2.1 x1.2.2.2.2.2.1 x1.2.2.2.2.2.2.1 x1.2.2.2.2.2.2.2.1 x1.2.2.2.2.2.2.2.2.1 x1.2.2.2.2.2.2.2.2.2.1 x1.2.2.2.2.2.2.2.2.2.2).bind fun x2 =>
 bif x2.2.2.2.2.2.2.2.2.2.2.1 then (bif decide (x2.1 = 20) then (bif decide ((x2.2.2.2.2.2.2.2.2.2.2.2.length : Int) = 3) then (bif boundOk 0 x2.2.2.2.2.2.2.2.2.2.2.2.length then ((giroref3_Of k 23 [5]).bind fun x3 =>
     some ((decide ((x2.2.2.2.2.2.2.2.2.2.2.2.getD 0 (0, 0, 0, 0, 0, 0, 0, 0)).1 = 0)) && ((decide ((x2.2.2.2.2.2.2.2.2.2.2.2.getD 0 (0, 0, 0, 0, 0, 0, 0, 0)).2.1 = x3.1)) && ((decide ((x2.2.2.2.2.2.2.2.2.2.2.2.getD 0 (0, 0, 0, 0, 0, 0, 0, 0)).2.2.1 = x3.2.1)) && ((decide ((x2.2.2.2.2.2.2.2.2.2.2.2.getD 0 (0, 0, 0, 0, 0, 0, 0, 0)).2.2.2.1 = x3.2.2.1)) && ((decide ((x2.2.2.2.2.2.2.2.2.2.2.2.getD 0 (0, 0, 0, 0, 0, 0, 0, 0)).2.2.2.2.1 = x3.2.2.2.1)) && ((decide ((x2.2.2.2.2.2.2.2.2.2.2.2.getD 0 (0, 0, 0, 0, 0, 0, 0, 0)).2.2.2.2.2.1 = x3.2.2.2.2.1)) && ((decide ((x2.2.2.2.2.2.2.2.2.2.2.2.getD 0 (0, 0, 0, 0, 0, 0, 0, 0)).2.2.2.2.2.2.1 = x3.2.2.2.2.2.1)) && (decide ((x2.2.2.2.2.2.2.2.2.2.2.2.getD 0 (0, 0, 0, 0, 0, 0, 0, 0)).2.2.2.2.2.2.2 = x3.2.2.2.2.2.2))))))))))
    else none)
   else some false)
  else some false)
 else some false

/-- giro/girolaw22.HourTold -/
def girolaw22_HourTold (k : Nat) (a0 : List K2q) : Option Bool :=
 bif decide ((a0.length : Int) > 60) then some true
 else (hour_Told k a0).bind fun x0 =>
 (giroref22_Told k a0).bind fun x1 =>
 (giroref3_Outs k x0 x1).bind fun x2 =>
 bif x2 then ((girolaw22_known k).bind fun x3 =>
  some x3)
 else some false

abbrev girolaw22_HourSolves_L0X : Type := Int × Int × Int × Int × Int × Int × (List (Int × Int)) × Int × (List K2q) × Int × Bool × (List K3q) × (List (List Int)) × (List Int) × (List (List Int))
abbrev girolaw22_HourSolves_L0T : Type := Int → Int → Int → Int → Int → Int → Int → Int → List (Int × Int) → Int → List K2q → Int → Bool → List K3q → List (List Int) → List Int → List (List Int) → Option girolaw22_HourSolves_L0X
def girolaw22_HourSolves_L0b (k : Nat) (rec : girolaw22_HourSolves_L0T) (s0 : Int) (s1 : Int) (s2 : Int) (s9 : Int) (b0_0 : Int) (b0_2 : Int) (b0_3 : Int) (b0_4 : Int) (r1 : List (Int × Int)) (b2_0 : Int) (b2_7 : List K2q) (b2_9 : Int) (b2_10 : Bool) (r3 : List K3q) (m4 : List (List Int)) (r5 : List Int) (m6 : List (List Int)) : Option girolaw22_HourSolves_L0X :=
 bif decide (s9 < 3) then ((giroref13_Put k b2_7 (w64 (s9 + 1)) s9 (Int.tmod (w64 (s9 + 1)) 3) s1 3 0 100).bind fun x2 =>
  rec s0 s1 s2 (w64 (s9 + 1)) b0_0 b0_2 b0_3 b0_4 r1 b2_0 x2.1 b2_9 b2_10 r3 m4 r5 m6)
 else some (s0, s2, b0_0, b0_2, b0_3, b0_4, r1, b2_0, b2_7, b2_9, b2_10, r3, m4, r5, m6)
def girolaw22_HourSolves_L0 (k : Nat) : Nat → girolaw22_HourSolves_L0T
 | 0, _, _, _, _, _, _, _, _, _, _, _, _, _, _, _, _, _ => none
 | n + 1, s0, s1, s2, s9, b0_0, b0_2, b0_3, b0_4, r1, b2_0, b2_7, b2_9, b2_10, r3, m4, r5, m6 => girolaw22_HourSolves_L0b k (girolaw22_HourSolves_L0 k n) s0 s1 s2 s9 b0_0 b0_2 b0_3 b0_4 r1 b2_0 b2_7 b2_9 b2_10 r3 m4 r5 m6
abbrev girolaw22_HourSolves_L1X : Type := Int × Int × Int × (List K3q) × (List (List Int)) × (List Int) × (List (List Int)) × (List Int) × (List (List Int)) × (List K2q) × (List Int) × Int × Bool
abbrev girolaw22_HourSolves_L1T : Type := Int → Int → Int → Int → Int → Int → Int → List (Int × Int) → Int → List K3q → List (List Int) → List Int → List (List Int) → List Int → List (List Int) → List K2q → List Int → Int → Bool → Option girolaw22_HourSolves_L1X
def girolaw22_HourSolves_L1b (k : Nat) (rec : girolaw22_HourSolves_L1T) (s0 : Int) (s2 : Int) (s10 : Int) (b0_0 : Int) (b0_2 : Int) (b0_3 : Int) (b0_4 : Int) (r1 : List (Int × Int)) (b2_0 : Int) (b2_1 : List K3q) (b2_2 : List (List Int)) (b2_3 : List Int) (b2_4 : List (List Int)) (b2_5 : List Int) (b2_6 : List (List Int)) (b2_7 : List K2q) (b2_8 : List Int) (b2_9 : Int) (b2_10 : Bool) : Option girolaw22_HourSolves_L1X :=
 bif decide (s10 < s2) then ((hour_Tick k b0_0 r1 b0_2 b0_3 b0_4 b2_0 b2_1 b2_2 b2_3 b2_4 b2_5 b2_6 b2_7 b2_8 b2_9 b2_10).bind fun x3 =>
  rec s0 s2 (w64 (s10 + 1)) b0_0 b0_2 b0_3 b0_4 r1 x3.1 x3.2.1 x3.2.2.1 x3.2.2.2.1 x3.2.2.2.2.1 x3.2.2.2.2.2.1 x3.2.2.2.2.2.2.1 x3.2.2.2.2.2.2.2.1 x3.2.2.2.2.2.2.2.2.1 x3.2.2.2.2.2.2.2.2.2.1 x3.2.2.2.2.2.2.2.2.2.2.1)
 else some (s0, s2, b2_0, b2_1, b2_2, b2_3, b2_4, b2_5, b2_6, b2_7, b2_8, b2_9, b2_10)
def girolaw22_HourSolves_L1 (k : Nat) : Nat → girolaw22_HourSolves_L1T
 | 0, _, _, _, _, _, _, _, _, _, _, _, _, _, _, _, _, _, _, _ => none
 | n + 1, s0, s2, s10, b0_0, b0_2, b0_3, b0_4, r1, b2_0, b2_1, b2_2, b2_3, b2_4, b2_5, b2_6, b2_7, b2_8, b2_9, b2_10 => girolaw22_HourSolves_L1b k (girolaw22_HourSolves_L1 k n) s0 s2 s10 b0_0 b0_2 b0_3 b0_4 r1 b2_0 b2_1 b2_2 b2_3 b2_4 b2_5 b2_6 b2_7 b2_8 b2_9 b2_10
/-- giro/girolaw22.HourSolves -/
def girolaw22_HourSolves (k : Nat) (a0 : Int) (a1 : Int) (a2 : Int) : Option Bool :=
 bif decide (a0 < 1) then some true
 else bif decide (a0 > 10) then some true
 else bif decide (a1 < 1) then some true
 else bif decide (a1 > 100) then some true
 else bif decide (a2 < 0) then some true
 else bif decide (a2 > 15) then some true
 else (girolaw22_rules k 0).bind fun x0 =>
 (girolaw22_some k [] 0).bind fun x1 =>
 (girolaw22_HourSolves_L0 k k a0 a1 a2 0 x0.1 x0.2.2.1 x0.2.2.2.1 a0 x0.2.1 0 [] 0 false x1.1 x1.2.1 x1.2.2.1 x1.2.2.2).bind fun z =>
 (girolaw22_HourSolves_L1 k k z.1 z.2.1 0 z.2.2.1 z.2.2.2.1 z.2.2.2.2.1 z.2.2.2.2.2.1 z.2.2.2.2.2.2.1 z.2.2.2.2.2.2.2.1 z.2.2.2.2.2.2.2.2.2.2.2.1 z.2.2.2.2.2.2.2.2.2.2.2.2.1 z.2.2.2.2.2.2.2.2.2.2.2.2.2.1 z.2.2.2.2.2.2.2.2.2.2.2.2.2.2 [] [] z.2.2.2.2.2.2.2.2.1 [] z.2.2.2.2.2.2.2.2.2.1 z.2.2.2.2.2.2.2.2.2.2.1).bind fun z1 =>
 bif eqBool (decide ((z1.2.2.2.2.2.2.2.2.2.1.length : Int) = 0)) (decide (z1.2.1 ≥ z1.1)) then ((girolaw22_known k).bind fun x4 =>
  some x4)
 else some false

end Go.Ab.Gi
