/- Shallow functions, printed (abprint.py). -/
import Derived.Test.YtpmkkfbnaohlhaaGiAbD
set_option linter.unusedVariables false
set_option maxRecDepth 100000
namespace Go.Ab.Gi

abbrev y0q : Go.Ab.Ty := .pair (.int .i64) (.int .i64)
abbrev K1q : Type := Int × Int × Int × Int × Int × Int × Int
abbrev K2q : Type := Int × Int × Int
abbrev y3q : Go.Ab.Ty := .pair (.int .i64) y0q
abbrev y4q : Go.Ab.Ty := .pair (.int .i64) y3q
abbrev y5q : Go.Ab.Ty := .pair (.int .i64) y4q
abbrev y6q : Go.Ab.Ty := .pair (.int .i64) y5q
abbrev y7q : Go.Ab.Ty := .pair (.int .i64) y6q

def lim_Net_L0b (k : Nat) (rec : Int → List Int → Int → Int → Option Int) (s5 : Int) (s12 : List Int) (s13 : Int) (s14 : Int) : Option Int :=
 bif decide (s14 < s13) then (bif boundOk s14 s12.length then (rec (w64 (s5 + (s12.getD s14.toNat 0))) s12 s13 (w64 (s14 + 1)))
  else none)
 else some s5
def lim_Net_L0 (k : Nat) : Nat → Int → List Int → Int → Int → Option Int
 | 0, _, _, _, _ => none
 | n + 1, s5, s12, s13, s14 => lim_Net_L0b k (lim_Net_L0 k n) s5 s12 s13 s14
/-- giro/lim.Net -/
def lim_Net (k : Nat) (a0Accts : List K2q) (a0Bil : List (List Int)) (a0Mul : List Int) (a0Pos : List (List Int)) (a1 : Int) : Option Int :=
 bif boundOk a1 a0Pos.length then ((lim_Net_L0 k k 0 (a0Pos.getD a1.toNat []) ((a0Pos.getD a1.toNat []).length : Int) 0).bind fun z =>
  some z)
 else none

/-- giro/lim.isSize -/
def lim_isSize (k : Nat) (a0 : Int) : Option Bool :=
 bif decide (a0 ≥ 0) then some (decide (a0 ≤ 6))
 else some false

abbrev lim_Row_L0T : Type := Int → Int → Int → List Int → Option (List Int)
def lim_Row_L0b (k : Nat) (rec : lim_Row_L0T) (s1 : Int) (s13 : Int) (s14 : Int) (r0 : List Int) : Option (List Int) :=
 bif decide (s14 < s13) then (bif boundOk s14 r0.length then (rec s1 s13 (w64 (s14 + 1)) (r0.set s14.toNat s1))
  else none)
 else some r0
def lim_Row_L0 (k : Nat) : Nat → lim_Row_L0T
 | 0, _, _, _, _ => none
 | n + 1, s1, s13, s14, r0 => lim_Row_L0b k (lim_Row_L0 k n) s1 s13 s14 r0
/-- giro/lim.Row -/
def lim_Row (k : Nat) (a0 : Int) (a1 : Int) : Option (List Int) :=
 (lim_isSize k a0).bind fun x0 =>
 bif !x0 then some []
 else bif makeOk a0 a0 8 then ((lim_Row_L0 k k a1 ((List.replicate a0.toNat (0 : Int)).length : Int) 0 (List.replicate a0.toNat (0 : Int))).bind fun z =>
  some z)
 else none

abbrev lim_Square_L0T : Type := Int → Int → Int → Int → List (List Int) → Option (List (List Int))
def lim_Square_L0b (k : Nat) (rec : lim_Square_L0T) (s0 : Int) (s1 : Int) (s13 : Int) (s14 : Int) (m0 : List (List Int)) : Option (List (List Int)) :=
 bif decide (s14 < s13) then ((lim_Row k s0 s1).bind fun x1 =>
  bif boundOk s14 m0.length then (rec s0 s1 s13 (w64 (s14 + 1)) (m0.set s14.toNat x1))
  else none)
 else some m0
def lim_Square_L0 (k : Nat) : Nat → lim_Square_L0T
 | 0, _, _, _, _, _ => none
 | n + 1, s0, s1, s13, s14, m0 => lim_Square_L0b k (lim_Square_L0 k n) s0 s1 s13 s14 m0
/-- giro/lim.Square -/
def lim_Square (k : Nat) (a0 : Int) (a1 : Int) : Option (List (List Int)) :=
 (lim_isSize k a0).bind fun x0 =>
 bif !x0 then some []
 else bif makeOk a0 a0 24 then ((lim_Square_L0 k k a0 a1 ((List.replicate a0.toNat ([] : List Int)).length : Int) 0 (List.replicate a0.toNat ([] : List Int))).bind fun z =>
  some z)
 else none

/-- giro/acct.Is -/
def acct_Is (k : Nat) (a0Balance : Int) (a0Credit : Int) (a0Reserve : Int) : Option Bool :=
 bif decide (a0Balance > (-4611686018427387904)) then (bif decide (a0Balance < 4611686018427387904) then (bif decide (a0Credit ≥ 0) then (bif decide (a0Credit ≤ 2305843009213693952) then (bif decide (a0Reserve ≥ 0) then some (decide (a0Reserve ≤ 2305843009213693952))
     else some false)
    else some false)
   else some false)
  else some false)
 else some false

/-- giro/lim.Is$1 -/
def lim_Is_fn1 (k : Nat) (a0Balance : Int) (a0Credit : Int) (a0Reserve : Int) : Option Bool :=
 (acct_Is k a0Balance a0Credit a0Reserve).bind fun x0 =>
 some (!x0)

abbrev slices_IndexFunc_Acct__lim_Is_fn1_L0T : Type := List K2q → Int → Int → Option (Unit ⊕ Int)
def slices_IndexFunc_Acct__lim_Is_fn1_L0b (k : Nat) (rec : slices_IndexFunc_Acct__lim_Is_fn1_L0T) (s0 : List K2q) (s7 : Int) (s8 : Int) : Option (Unit ⊕ Int) :=
 bif decide (s8 < s7) then (bif boundOk s8 s0.length then ((lim_Is_fn1 k (s0.getD s8.toNat (0, 0, 0)).1 (s0.getD s8.toNat (0, 0, 0)).2.1 (s0.getD s8.toNat (0, 0, 0)).2.2).bind fun x0 =>
   bif x0 then some (.inr s8)
   else rec s0 s7 (w64 (s8 + 1)))
  else none)
 else some (.inl ())
def slices_IndexFunc_Acct__lim_Is_fn1_L0 (k : Nat) : Nat → slices_IndexFunc_Acct__lim_Is_fn1_L0T
 | 0, _, _, _ => none
 | n + 1, s0, s7, s8 => slices_IndexFunc_Acct__lim_Is_fn1_L0b k (slices_IndexFunc_Acct__lim_Is_fn1_L0 k n) s0 s7 s8
/-- slices.IndexFunc[[]giro/api.Acct,giro/api.Acct] -/
def slices_IndexFunc_Acct__lim_Is_fn1 (k : Nat) (a0 : List K2q) : Option Int :=
 (slices_IndexFunc_Acct__lim_Is_fn1_L0 k k a0 (a0.length : Int) 0).bind fun z =>
 match z with
 | .inl z1 => some (-1)
 | .inr z2 => some z2

/-- slices.ContainsFunc[[]giro/api.Acct,giro/api.Acct] -/
def slices_ContainsFunc_Acct__lim_Is_fn1 (k : Nat) (a0 : List K2q) : Option Bool :=
 (slices_IndexFunc_Acct__lim_Is_fn1 k a0).bind fun x0 =>
 some (decide (x0 ≥ 0))

/-- giro/lim.isLimit -/
def lim_isLimit (k : Nat) (a0 : Int) : Option Bool :=
 bif decide (a0 ≥ (-1)) then some (decide (a0 ≤ 2305843009213693952))
 else some false

/-- giro/lim.isRow$1 -/
def lim_isRow_fn1__lim_isLimit (k : Nat) (a0 : Int) : Option Bool :=
 (lim_isLimit k a0).bind fun x0 =>
 some (!x0)

abbrev slices_IndexFunc_int64__lim_isRow_fn1__lim_isLimit_L0T : Type := List Int → Int → Int → Option (Unit ⊕ Int)
def slices_IndexFunc_int64__lim_isRow_fn1__lim_isLimit_L0b (k : Nat) (rec : slices_IndexFunc_int64__lim_isRow_fn1__lim_isLimit_L0T) (s0 : List Int) (s7 : Int) (s8 : Int) : Option (Unit ⊕ Int) :=
 bif decide (s8 < s7) then (bif boundOk s8 s0.length then ((lim_isRow_fn1__lim_isLimit k (s0.getD s8.toNat 0)).bind fun x0 =>
   bif x0 then some (.inr s8)
   else rec s0 s7 (w64 (s8 + 1)))
  else none)
 else some (.inl ())
def slices_IndexFunc_int64__lim_isRow_fn1__lim_isLimit_L0 (k : Nat) : Nat → slices_IndexFunc_int64__lim_isRow_fn1__lim_isLimit_L0T
 | 0, _, _, _ => none
 | n + 1, s0, s7, s8 => slices_IndexFunc_int64__lim_isRow_fn1__lim_isLimit_L0b k (slices_IndexFunc_int64__lim_isRow_fn1__lim_isLimit_L0 k n) s0 s7 s8
/-- slices.IndexFunc[[]int64,int64] -/
def slices_IndexFunc_int64__lim_isRow_fn1__lim_isLimit (k : Nat) (a0 : List Int) : Option Int :=
 (slices_IndexFunc_int64__lim_isRow_fn1__lim_isLimit_L0 k k a0 (a0.length : Int) 0).bind fun z =>
 match z with
 | .inl z1 => some (-1)
 | .inr z2 => some z2

/-- slices.ContainsFunc[[]int64,int64] -/
def slices_ContainsFunc_int64__lim_isRow_fn1__lim_isLimit (k : Nat) (a0 : List Int) : Option Bool :=
 (slices_IndexFunc_int64__lim_isRow_fn1__lim_isLimit k a0).bind fun x0 =>
 some (decide (x0 ≥ 0))

/-- giro/lim.isRow -/
def lim_isRow__lim_isLimit (k : Nat) (a0 : List Int) (a1 : Int) : Option Bool :=
 bif decide ((a0.length : Int) = a1) then ((slices_ContainsFunc_int64__lim_isRow_fn1__lim_isLimit k a0).bind fun x0 =>
  some (!x0))
 else some false

abbrev lim_isSquare__lim_isLimit_L0T : Type := Int → List (List Int) → Int → Int → Option (Unit ⊕ Bool)
def lim_isSquare__lim_isLimit_L0b (k : Nat) (rec : lim_isSquare__lim_isLimit_L0T) (s1 : Int) (s13 : List (List Int)) (s14 : Int) (s15 : Int) : Option (Unit ⊕ Bool) :=
 bif decide (s15 < s14) then (bif boundOk s15 s13.length then ((lim_isRow__lim_isLimit k (s13.getD s15.toNat []) s1).bind fun x0 =>
   bif !x0 then some (.inr false)
   else rec s1 s13 s14 (w64 (s15 + 1)))
  else none)
 else some (.inl ())
def lim_isSquare__lim_isLimit_L0 (k : Nat) : Nat → lim_isSquare__lim_isLimit_L0T
 | 0, _, _, _, _ => none
 | n + 1, s1, s13, s14, s15 => lim_isSquare__lim_isLimit_L0b k (lim_isSquare__lim_isLimit_L0 k n) s1 s13 s14 s15
/-- giro/lim.isSquare -/
def lim_isSquare__lim_isLimit (k : Nat) (a0 : List (List Int)) (a1 : Int) : Option Bool :=
 bif !(decide ((a0.length : Int) = a1)) then some false
 else (lim_isSquare__lim_isLimit_L0 k k a1 a0 (a0.length : Int) 0).bind fun z =>
 match z with
 | .inl z1 => some true
 | .inr z2 => some z2

/-- giro/lim.isNet -/
def lim_isNet (k : Nat) (a0 : Int) : Option Bool :=
 bif decide (a0 > (-72057594037927936)) then some (decide (a0 < 72057594037927936))
 else some false

/-- giro/lim.isRow$1 -/
def lim_isRow_fn1__lim_isNet (k : Nat) (a0 : Int) : Option Bool :=
 (lim_isNet k a0).bind fun x0 =>
 some (!x0)

abbrev slices_IndexFunc_int64__lim_isRow_fn1__lim_isNet_L0T : Type := List Int → Int → Int → Option (Unit ⊕ Int)
def slices_IndexFunc_int64__lim_isRow_fn1__lim_isNet_L0b (k : Nat) (rec : slices_IndexFunc_int64__lim_isRow_fn1__lim_isNet_L0T) (s0 : List Int) (s7 : Int) (s8 : Int) : Option (Unit ⊕ Int) :=
 bif decide (s8 < s7) then (bif boundOk s8 s0.length then ((lim_isRow_fn1__lim_isNet k (s0.getD s8.toNat 0)).bind fun x0 =>
   bif x0 then some (.inr s8)
   else rec s0 s7 (w64 (s8 + 1)))
  else none)
 else some (.inl ())
def slices_IndexFunc_int64__lim_isRow_fn1__lim_isNet_L0 (k : Nat) : Nat → slices_IndexFunc_int64__lim_isRow_fn1__lim_isNet_L0T
 | 0, _, _, _ => none
 | n + 1, s0, s7, s8 => slices_IndexFunc_int64__lim_isRow_fn1__lim_isNet_L0b k (slices_IndexFunc_int64__lim_isRow_fn1__lim_isNet_L0 k n) s0 s7 s8
/-- slices.IndexFunc[[]int64,int64] -/
def slices_IndexFunc_int64__lim_isRow_fn1__lim_isNet (k : Nat) (a0 : List Int) : Option Int :=
 (slices_IndexFunc_int64__lim_isRow_fn1__lim_isNet_L0 k k a0 (a0.length : Int) 0).bind fun z =>
 match z with
 | .inl z1 => some (-1)
 | .inr z2 => some z2

/-- slices.ContainsFunc[[]int64,int64] -/
def slices_ContainsFunc_int64__lim_isRow_fn1__lim_isNet (k : Nat) (a0 : List Int) : Option Bool :=
 (slices_IndexFunc_int64__lim_isRow_fn1__lim_isNet k a0).bind fun x0 =>
 some (decide (x0 ≥ 0))

/-- giro/lim.isRow -/
def lim_isRow__lim_isNet (k : Nat) (a0 : List Int) (a1 : Int) : Option Bool :=
 bif decide ((a0.length : Int) = a1) then ((slices_ContainsFunc_int64__lim_isRow_fn1__lim_isNet k a0).bind fun x0 =>
  some (!x0))
 else some false

abbrev lim_isSquare__lim_isNet_L0T : Type := Int → List (List Int) → Int → Int → Option (Unit ⊕ Bool)
def lim_isSquare__lim_isNet_L0b (k : Nat) (rec : lim_isSquare__lim_isNet_L0T) (s1 : Int) (s13 : List (List Int)) (s14 : Int) (s15 : Int) : Option (Unit ⊕ Bool) :=
 bif decide (s15 < s14) then (bif boundOk s15 s13.length then ((lim_isRow__lim_isNet k (s13.getD s15.toNat []) s1).bind fun x0 =>
   bif !x0 then some (.inr false)
   else rec s1 s13 s14 (w64 (s15 + 1)))
  else none)
 else some (.inl ())
def lim_isSquare__lim_isNet_L0 (k : Nat) : Nat → lim_isSquare__lim_isNet_L0T
 | 0, _, _, _, _ => none
 | n + 1, s1, s13, s14, s15 => lim_isSquare__lim_isNet_L0b k (lim_isSquare__lim_isNet_L0 k n) s1 s13 s14 s15
/-- giro/lim.isSquare -/
def lim_isSquare__lim_isNet (k : Nat) (a0 : List (List Int)) (a1 : Int) : Option Bool :=
 bif !(decide ((a0.length : Int) = a1)) then some false
 else (lim_isSquare__lim_isNet_L0 k k a1 a0 (a0.length : Int) 0).bind fun z =>
 match z with
 | .inl z1 => some true
 | .inr z2 => some z2

abbrev lim_isTurned_L1X : Type := ((List (List Int)) × (List (List Int)) × Int × Int) ⊕ Bool
abbrev lim_isTurned_L1T : Type := List (List Int) → Int → List (List Int) → Int → Int → List Int → Int → Int → Option lim_isTurned_L1X
def lim_isTurned_L1b (k : Nat) (rec : lim_isTurned_L1T) (s0 : List (List Int)) (s3 : Int) (s7 : List (List Int)) (s8 : Int) (s9 : Int) (s14 : List Int) (s15 : Int) (s16 : Int) : Option lim_isTurned_L1X :=
 bif decide (s16 < s15) then (bif boundOk s16 s14.length then (bif boundOk s16 s0.length then (bif boundOk s3 (s0.getD s16.toNat []).length then (bif !(decide (((s0.getD s16.toNat []).getD s3.toNat 0) = (w64 (0 - (s14.getD s16.toNat 0))))) then some (.inr false)
     else rec s0 s3 s7 s8 s9 s14 s15 (w64 (s16 + 1)))
    else none)
   else none)
  else none)
 else some (.inl (s0, s7, s8, s9))
def lim_isTurned_L1 (k : Nat) : Nat → lim_isTurned_L1T
 | 0, _, _, _, _, _, _, _, _ => none
 | n + 1, s0, s3, s7, s8, s9, s14, s15, s16 => lim_isTurned_L1b k (lim_isTurned_L1 k n) s0 s3 s7 s8 s9 s14 s15 s16
abbrev lim_isTurned_L0T : Type := List (List Int) → List (List Int) → Int → Int → Option (Unit ⊕ Bool)
def lim_isTurned_L0b (k : Nat) (rec : lim_isTurned_L0T) (s0 : List (List Int)) (s7 : List (List Int)) (s8 : Int) (s9 : Int) : Option (Unit ⊕ Bool) :=
 bif decide (s9 < s8) then (bif boundOk s9 s7.length then ((lim_isTurned_L1 k k s0 s9 s7 s8 s9 (s7.getD s9.toNat []) ((s7.getD s9.toNat []).length : Int) 0).bind fun z =>
   match z with
   | .inl z1 => rec z1.1 z1.2.1 z1.2.2.1 (w64 (z1.2.2.2 + 1))
   | .inr z2 => some (.inr z2))
  else none)
 else some (.inl ())
def lim_isTurned_L0 (k : Nat) : Nat → lim_isTurned_L0T
 | 0, _, _, _, _ => none
 | n + 1, s0, s7, s8, s9 => lim_isTurned_L0b k (lim_isTurned_L0 k n) s0 s7 s8 s9
/-- giro/lim.isTurned -/
def lim_isTurned (k : Nat) (a0 : List (List Int)) : Option Bool :=
 (lim_isTurned_L0 k k a0 a0 (a0.length : Int) 0).bind fun z3 =>
 match z3 with
 | .inl z4 => some true
 | .inr z5 => some z5

/-- giro/lim.Is -/
def lim_Is (k : Nat) (a0Accts : List K2q) (a0Bil : List (List Int)) (a0Mul : List Int) (a0Pos : List (List Int)) : Option Bool :=
 bif decide ((a0Accts.length : Int) < 1) then some false
 else bif decide ((a0Accts.length : Int) > 6) then some false
 else (slices_ContainsFunc_Acct__lim_Is_fn1 k a0Accts).bind fun x0 =>
 bif x0 then some false
 else (lim_isSquare__lim_isLimit k a0Bil (a0Accts.length : Int)).bind fun x1 =>
 bif x1 then ((lim_isRow__lim_isLimit k a0Mul (a0Accts.length : Int)).bind fun x2 =>
  bif x2 then ((lim_isSquare__lim_isNet k a0Pos (a0Accts.length : Int)).bind fun x3 =>
   bif x3 then ((lim_isTurned k a0Pos).bind fun x4 =>
    some x4)
   else some false)
  else some false)
 else some false

/-- slices.Clone[[]giro/api.Acct,giro/api.Acct] -/
def slices_Clone_Acct (k : Nat) (a0 : List K2q) : Option (List K2q) :=
 bif roomB (0 + a0.length) 24 then some a0
 else none

/-- slices.Clone[[][]int64,[]int64] -/
def slices_Clone_Rowint64 (k : Nat) (a0 : List (List Int)) : Option Nat :=
 bif roomB (0 + a0.length) 24 then some a0.length
 else none

/-- slices.Clone[[]int64,int64] -/
def slices_Clone_int64 (k : Nat) (a0 : List Int) : Option (List Int) :=
 bif roomB (0 + a0.length) 8 then some a0
 else none

abbrev lim_copied_L0T : Type := List (List Int) → Int → Int → List (List Int) → Nat → Option ((List (List Int)) × Nat)
def lim_copied_L0b (k : Nat) (rec : lim_copied_L0T) (s8 : List (List Int)) (s9 : Int) (s10 : Int) (m0 : List (List Int)) (n0 : Nat) : Option ((List (List Int)) × Nat) :=
 bif decide (s10 < s9) then (bif boundOk s10 s8.length then ((slices_Clone_int64 k (s8.getD s10.toNat [])).bind fun x1 =>
   bif boundOk s10 n0 then (bif Nat.beq s10.toNat m0.length then (rec s8 s9 (w64 (s10 + 1)) (m0 ++ [x1]) n0)
    else none)
   else none)
  else none)
 else some (m0, n0)
def lim_copied_L0 (k : Nat) : Nat → lim_copied_L0T
 | 0, _, _, _, _, _ => none
 | n + 1, s8, s9, s10, m0, n0 => lim_copied_L0b k (lim_copied_L0 k n) s8 s9 s10 m0 n0
/-- giro/lim.copied -/
def lim_copied (k : Nat) (a0 : List (List Int)) : Option (List (List Int)) :=
 (slices_Clone_Rowint64 k a0).bind fun x0 =>
 (lim_copied_L0 k k a0 (a0.length : Int) 0 [] x0).bind fun z =>
 pmatEnd z.1 z.2

/-- giro/lim.Copy -/
def lim_Copy (k : Nat) (a0Accts : List K2q) (a0Bil : List (List Int)) (a0Mul : List Int) (a0Pos : List (List Int)) : Option ((List K2q) × (List (List Int)) × (List Int) × (List (List Int))) :=
 (slices_Clone_Acct k a0Accts).bind fun x0 =>
 (lim_copied k a0Bil).bind fun x1 =>
 (slices_Clone_int64 k a0Mul).bind fun x2 =>
 (lim_copied k a0Pos).bind fun x3 =>
 some (x0, x1, x2, x3)

/-- giro/pay.Ready -/
def pay_Ready (k : Nat) (a0ID : Int) (a0From : Int) (a0To : Int) (a0Amount : Int) (a0Class : Int) (a0Start : Int) (a0Till : Int) (a1 : Int) : Option Bool :=
 bif decide (a1 ≥ a0Start) then some (decide (a1 ≤ a0Till))
 else some false

/-- giro/view.Ready$1 -/
def view_Ready_fn1 (k : Nat) (a0ID : Int) (a0From : Int) (a0To : Int) (a0Amount : Int) (a0Class : Int) (a0Start : Int) (a0Till : Int) (a1 : Int) : Option Bool :=
 (pay_Ready k a0ID a0From a0To a0Amount a0Class a0Start a0Till a1).bind fun x0 =>
 some x0

abbrev view_all__view_Ready_fn1_L0X : Type := List K1q
abbrev view_all__view_Ready_fn1_L0T : Type := List K1q → Int → Int → Int → List K1q → Option view_all__view_Ready_fn1_L0X
def view_all__view_Ready_fn1_L0b (k : Nat) (rec : view_all__view_Ready_fn1_L0T) (s8 : List K1q) (s9 : Int) (s10 : Int) (b0_0 : Int) (r1 : List K1q) : Option view_all__view_Ready_fn1_L0X :=
 bif decide (s10 < s9) then (bif boundOk s10 s8.length then ((view_Ready_fn1 k (s8.getD s10.toNat (0, 0, 0, 0, 0, 0, 0)).1 (s8.getD s10.toNat (0, 0, 0, 0, 0, 0, 0)).2.1 (s8.getD s10.toNat (0, 0, 0, 0, 0, 0, 0)).2.2.1 (s8.getD s10.toNat (0, 0, 0, 0, 0, 0, 0)).2.2.2.1 (s8.getD s10.toNat (0, 0, 0, 0, 0, 0, 0)).2.2.2.2.1 (s8.getD s10.toNat (0, 0, 0, 0, 0, 0, 0)).2.2.2.2.2.1 (s8.getD s10.toNat (0, 0, 0, 0, 0, 0, 0)).2.2.2.2.2.2 b0_0).bind fun x0 =>
   bif x0 then (bif roomB (r1.length + 1) 56 then (let y0 : List K1q := (r1 ++ [(s8.getD s10.toNat (0, 0, 0, 0, 0, 0, 0))])
     rec s8 s9 (w64 (s10 + 1)) b0_0 y0)
    else none)
   else rec s8 s9 (w64 (s10 + 1)) b0_0 r1)
  else none)
 else some r1
def view_all__view_Ready_fn1_L0 (k : Nat) : Nat → view_all__view_Ready_fn1_L0T
 | 0, _, _, _, _, _ => none
 | n + 1, s8, s9, s10, b0_0, r1 => view_all__view_Ready_fn1_L0b k (view_all__view_Ready_fn1_L0 k n) s8 s9 s10 b0_0 r1
/-- giro/view.all -/
def view_all__view_Ready_fn1 (k : Nat) (a0 : List K1q) (a1_0 : Int) : Option (List K1q) :=
 (view_all__view_Ready_fn1_L0 k k a0 (a0.length : Int) 0 a1_0 []).bind fun z =>
 some z

/-- giro/view.Ready -/
def view_Ready (k : Nat) (a0 : List K1q) (a1 : Int) : Option (List K1q) :=
 (view_all__view_Ready_fn1 k a0 a1).bind fun x0 =>
 some x0

/-- giro/view.May$1$1 -/
def view_May_fn1_fn1 (k : Nat) (a0ID : Int) (a0From : Int) (a0To : Int) (a0Amount : Int) (a0Class : Int) (a0Start : Int) (a0Till : Int) (a1ID : Int) (a1From : Int) (a1To : Int) (a1Amount : Int) (a1Class : Int) (a1Start : Int) (a1Till : Int) : Option Bool :=
 bif decide (a0From = a1From) then some (!(decide (a0Class = 3)))
 else some false

abbrev slices_IndexFunc_Pay__view_May_fn1_fn1_L0T : Type := List K1q → Int → Int → Int → Int → Int → Int → Int → Int → Int → Option (Unit ⊕ Int)
def slices_IndexFunc_Pay__view_May_fn1_fn1_L0b (k : Nat) (rec : slices_IndexFunc_Pay__view_May_fn1_fn1_L0T) (s0 : List K1q) (s7 : Int) (s8 : Int) (b0_0 : Int) (b0_1 : Int) (b0_2 : Int) (b0_3 : Int) (b0_4 : Int) (b0_5 : Int) (b0_6 : Int) : Option (Unit ⊕ Int) :=
 bif decide (s8 < s7) then (bif boundOk s8 s0.length then ((view_May_fn1_fn1 k (s0.getD s8.toNat (0, 0, 0, 0, 0, 0, 0)).1 (s0.getD s8.toNat (0, 0, 0, 0, 0, 0, 0)).2.1 (s0.getD s8.toNat (0, 0, 0, 0, 0, 0, 0)).2.2.1 (s0.getD s8.toNat (0, 0, 0, 0, 0, 0, 0)).2.2.2.1 (s0.getD s8.toNat (0, 0, 0, 0, 0, 0, 0)).2.2.2.2.1 (s0.getD s8.toNat (0, 0, 0, 0, 0, 0, 0)).2.2.2.2.2.1 (s0.getD s8.toNat (0, 0, 0, 0, 0, 0, 0)).2.2.2.2.2.2 b0_0 b0_1 b0_2 b0_3 b0_4 b0_5 b0_6).bind fun x0 =>
   bif x0 then some (.inr s8)
   else rec s0 s7 (w64 (s8 + 1)) b0_0 b0_1 b0_2 b0_3 b0_4 b0_5 b0_6)
  else none)
 else some (.inl ())
def slices_IndexFunc_Pay__view_May_fn1_fn1_L0 (k : Nat) : Nat → slices_IndexFunc_Pay__view_May_fn1_fn1_L0T
 | 0, _, _, _, _, _, _, _, _, _, _ => none
 | n + 1, s0, s7, s8, b0_0, b0_1, b0_2, b0_3, b0_4, b0_5, b0_6 => slices_IndexFunc_Pay__view_May_fn1_fn1_L0b k (slices_IndexFunc_Pay__view_May_fn1_fn1_L0 k n) s0 s7 s8 b0_0 b0_1 b0_2 b0_3 b0_4 b0_5 b0_6
/-- slices.IndexFunc[[]giro/api.Pay,giro/api.Pay] -/
def slices_IndexFunc_Pay__view_May_fn1_fn1 (k : Nat) (a0 : List K1q) (a1_0ID : Int) (a1_0From : Int) (a1_0To : Int) (a1_0Amount : Int) (a1_0Class : Int) (a1_0Start : Int) (a1_0Till : Int) : Option Int :=
 (slices_IndexFunc_Pay__view_May_fn1_fn1_L0 k k a0 (a0.length : Int) 0 a1_0ID a1_0From a1_0To a1_0Amount a1_0Class a1_0Start a1_0Till).bind fun z =>
 match z with
 | .inl z1 => some (-1)
 | .inr z2 => some z2

/-- slices.ContainsFunc[[]giro/api.Pay,giro/api.Pay] -/
def slices_ContainsFunc_Pay__view_May_fn1_fn1 (k : Nat) (a0 : List K1q) (a1_0ID : Int) (a1_0From : Int) (a1_0To : Int) (a1_0Amount : Int) (a1_0Class : Int) (a1_0Start : Int) (a1_0Till : Int) : Option Bool :=
 (slices_IndexFunc_Pay__view_May_fn1_fn1 k a0 a1_0ID a1_0From a1_0To a1_0Amount a1_0Class a1_0Start a1_0Till).bind fun x0 =>
 some (decide (x0 ≥ 0))

/-- giro/view.May$1 -/
def view_May_fn1 (k : Nat) (a0ID : Int) (a0From : Int) (a0To : Int) (a0Amount : Int) (a0Class : Int) (a0Start : Int) (a0Till : Int) (a1 : List (Int × Bool)) (a2 : List K1q) : Option (Bool × (List (Int × Bool))) :=
 bif !(Option.getD (List.lookup a0From a1) false) then some (true, ((a0From, true) :: a1))
 else bif decide (a0Class = 3) then ((slices_ContainsFunc_Pay__view_May_fn1_fn1 k a2 a0ID a0From a0To a0Amount a0Class a0Start a0Till).bind fun x0 =>
  some ((!x0), ((a0From, true) :: a1)))
 else some (false, ((a0From, true) :: a1))

abbrev view_all__view_May_fn1_L0X : Type := (List (Int × Bool)) × (List K1q) × (List K1q)
abbrev view_all__view_May_fn1_L0T : Type := List K1q → Int → Int → List (Int × Bool) → List K1q → List K1q → Option view_all__view_May_fn1_L0X
def view_all__view_May_fn1_L0b (k : Nat) (rec : view_all__view_May_fn1_L0T) (s8 : List K1q) (s9 : Int) (s10 : Int) (p1 : List (Int × Bool)) (b2_0 : List K1q) (r3 : List K1q) : Option view_all__view_May_fn1_L0X :=
 bif decide (s10 < s9) then (bif boundOk s10 s8.length then ((view_May_fn1 k (s8.getD s10.toNat (0, 0, 0, 0, 0, 0, 0)).1 (s8.getD s10.toNat (0, 0, 0, 0, 0, 0, 0)).2.1 (s8.getD s10.toNat (0, 0, 0, 0, 0, 0, 0)).2.2.1 (s8.getD s10.toNat (0, 0, 0, 0, 0, 0, 0)).2.2.2.1 (s8.getD s10.toNat (0, 0, 0, 0, 0, 0, 0)).2.2.2.2.1 (s8.getD s10.toNat (0, 0, 0, 0, 0, 0, 0)).2.2.2.2.2.1 (s8.getD s10.toNat (0, 0, 0, 0, 0, 0, 0)).2.2.2.2.2.2 p1 b2_0).bind fun x0 =>
   bif x0.1 then (bif roomB (r3.length + 1) 56 then (let y0 : List K1q := (r3 ++ [(s8.getD s10.toNat (0, 0, 0, 0, 0, 0, 0))])
     rec s8 s9 (w64 (s10 + 1)) x0.2 b2_0 y0)
    else none)
   else rec s8 s9 (w64 (s10 + 1)) x0.2 b2_0 r3)
  else none)
 else some (p1, b2_0, r3)
def view_all__view_May_fn1_L0 (k : Nat) : Nat → view_all__view_May_fn1_L0T
 | 0, _, _, _, _, _, _ => none
 | n + 1, s8, s9, s10, p1, b2_0, r3 => view_all__view_May_fn1_L0b k (view_all__view_May_fn1_L0 k n) s8 s9 s10 p1 b2_0 r3
/-- giro/view.all -/
def view_all__view_May_fn1 (k : Nat) (a0 : List K1q) (a1_0 : List (Int × Bool)) (a1_1 : List K1q) : Option ((List K1q) × (List (Int × Bool))) :=
 (view_all__view_May_fn1_L0 k k a0 (a0.length : Int) 0 a1_0 a1_1 []).bind fun z =>
 some (z.2.2, z.1)

/-- giro/view.May -/
def view_May (k : Nat) (a0 : List K1q) (a1 : Int) : Option (List K1q) :=
 (view_Ready k a0 a1).bind fun x0 =>
 (view_all__view_May_fn1 k x0 [] x0).bind fun x1 =>
 some x1.1

/-- giro/fits.May -/
def fits_May (k : Nat) (a0Accts : List K2q) (a0Bil : List (List Int)) (a0Mul : List Int) (a0Pos : List (List Int)) (a1ID : Int) (a1From : Int) (a1To : Int) (a1Amount : Int) (a1Class : Int) (a1Start : Int) (a1Till : Int) : Option Bool :=
 bif decide (a1From ≥ 0) then (bif decide (a1From < (a0Accts.length : Int)) then (bif decide (a1To ≥ 0) then (bif decide (a1To < (a0Accts.length : Int)) then (bif !(decide (a1From = a1To)) then (bif decide (a1Amount ≥ 1) then (bif decide (a1Amount ≤ 1099511627776) then (bif decide (a1Class ≥ 1) then some (decide (a1Class ≤ 3))
        else some false)
       else some false)
      else some false)
     else some false)
    else some false)
   else some false)
  else some false)
 else some false

/-- giro/fits.Fits$1 -/
def fits_Fits_fn1 (k : Nat) (a0ID : Int) (a0From : Int) (a0To : Int) (a0Amount : Int) (a0Class : Int) (a0Start : Int) (a0Till : Int) (a1Accts : List K2q) (a1Bil : List (List Int)) (a1Mul : List Int) (a1Pos : List (List Int)) : Option Bool :=
 (fits_May k a1Accts a1Bil a1Mul a1Pos a0ID a0From a0To a0Amount a0Class a0Start a0Till).bind fun x0 =>
 some (!x0)

abbrev slices_IndexFunc_Pay__fits_Fits_fn1_L0T : Type := List K1q → Int → Int → List K2q → List (List Int) → List Int → List (List Int) → Option (Unit ⊕ Int)
def slices_IndexFunc_Pay__fits_Fits_fn1_L0b (k : Nat) (rec : slices_IndexFunc_Pay__fits_Fits_fn1_L0T) (s0 : List K1q) (s7 : Int) (s8 : Int) (b0_0 : List K2q) (b0_1 : List (List Int)) (b0_2 : List Int) (b0_3 : List (List Int)) : Option (Unit ⊕ Int) :=
 bif decide (s8 < s7) then (bif boundOk s8 s0.length then ((fits_Fits_fn1 k (s0.getD s8.toNat (0, 0, 0, 0, 0, 0, 0)).1 (s0.getD s8.toNat (0, 0, 0, 0, 0, 0, 0)).2.1 (s0.getD s8.toNat (0, 0, 0, 0, 0, 0, 0)).2.2.1 (s0.getD s8.toNat (0, 0, 0, 0, 0, 0, 0)).2.2.2.1 (s0.getD s8.toNat (0, 0, 0, 0, 0, 0, 0)).2.2.2.2.1 (s0.getD s8.toNat (0, 0, 0, 0, 0, 0, 0)).2.2.2.2.2.1 (s0.getD s8.toNat (0, 0, 0, 0, 0, 0, 0)).2.2.2.2.2.2 b0_0 b0_1 b0_2 b0_3).bind fun x0 =>
   bif x0 then some (.inr s8)
   else rec s0 s7 (w64 (s8 + 1)) b0_0 b0_1 b0_2 b0_3)
  else none)
 else some (.inl ())
def slices_IndexFunc_Pay__fits_Fits_fn1_L0 (k : Nat) : Nat → slices_IndexFunc_Pay__fits_Fits_fn1_L0T
 | 0, _, _, _, _, _, _, _ => none
 | n + 1, s0, s7, s8, b0_0, b0_1, b0_2, b0_3 => slices_IndexFunc_Pay__fits_Fits_fn1_L0b k (slices_IndexFunc_Pay__fits_Fits_fn1_L0 k n) s0 s7 s8 b0_0 b0_1 b0_2 b0_3
/-- slices.IndexFunc[[]giro/api.Pay,giro/api.Pay] -/
def slices_IndexFunc_Pay__fits_Fits_fn1 (k : Nat) (a0 : List K1q) (a1_0Accts : List K2q) (a1_0Bil : List (List Int)) (a1_0Mul : List Int) (a1_0Pos : List (List Int)) : Option Int :=
 (slices_IndexFunc_Pay__fits_Fits_fn1_L0 k k a0 (a0.length : Int) 0 a1_0Accts a1_0Bil a1_0Mul a1_0Pos).bind fun z =>
 match z with
 | .inl z1 => some (-1)
 | .inr z2 => some z2

/-- slices.ContainsFunc[[]giro/api.Pay,giro/api.Pay] -/
def slices_ContainsFunc_Pay__fits_Fits_fn1 (k : Nat) (a0 : List K1q) (a1_0Accts : List K2q) (a1_0Bil : List (List Int)) (a1_0Mul : List Int) (a1_0Pos : List (List Int)) : Option Bool :=
 (slices_IndexFunc_Pay__fits_Fits_fn1 k a0 a1_0Accts a1_0Bil a1_0Mul a1_0Pos).bind fun x0 =>
 some (decide (x0 ≥ 0))

abbrev fits_moved_L0X : Type := (List Int) × (List Int) × (List (List Int))
abbrev fits_moved_L0T : Type := List K1q → Int → Int → List Int → List Int → List (List Int) → Option fits_moved_L0X
def fits_moved_L0b (k : Nat) (rec : fits_moved_L0T) (s15 : List K1q) (s16 : Int) (s17 : Int) (r2 : List Int) (r3 : List Int) (m4 : List (List Int)) : Option fits_moved_L0X :=
 bif decide (s17 < s16) then (bif boundOk s17 s15.length then (bif boundOk (s15.getD s17.toNat (0, 0, 0, 0, 0, 0, 0)).2.1 r2.length then (bif boundOk (s15.getD s17.toNat (0, 0, 0, 0, 0, 0, 0)).2.1 r2.length then (let y0 : List Int := (r2.set (s15.getD s17.toNat (0, 0, 0, 0, 0, 0, 0)).2.1.toNat (w64 ((r2.getD (s15.getD s17.toNat (0, 0, 0, 0, 0, 0, 0)).2.1.toNat 0) - (s15.getD s17.toNat (0, 0, 0, 0, 0, 0, 0)).2.2.2.1)))
     bif boundOk (s15.getD s17.toNat (0, 0, 0, 0, 0, 0, 0)).2.2.1 y0.length then (bif boundOk (s15.getD s17.toNat (0, 0, 0, 0, 0, 0, 0)).2.2.1 y0.length then (let y1 : List Int := (y0.set (s15.getD s17.toNat (0, 0, 0, 0, 0, 0, 0)).2.2.1.toNat (w64 ((y0.getD (s15.getD s17.toNat (0, 0, 0, 0, 0, 0, 0)).2.2.1.toNat 0) + (s15.getD s17.toNat (0, 0, 0, 0, 0, 0, 0)).2.2.2.1)))
       bif boundOk (s15.getD s17.toNat (0, 0, 0, 0, 0, 0, 0)).2.1 m4.length then (bif boundOk (s15.getD s17.toNat (0, 0, 0, 0, 0, 0, 0)).2.2.1 (m4.getD (s15.getD s17.toNat (0, 0, 0, 0, 0, 0, 0)).2.1.toNat []).length then (bif boundOk (s15.getD s17.toNat (0, 0, 0, 0, 0, 0, 0)).2.2.1 (m4.getD (s15.getD s17.toNat (0, 0, 0, 0, 0, 0, 0)).2.1.toNat []).length then (let y2 : List (List Int) := (m4.set (s15.getD s17.toNat (0, 0, 0, 0, 0, 0, 0)).2.1.toNat ((m4.getD (s15.getD s17.toNat (0, 0, 0, 0, 0, 0, 0)).2.1.toNat []).set (s15.getD s17.toNat (0, 0, 0, 0, 0, 0, 0)).2.2.1.toNat (w64 (((m4.getD (s15.getD s17.toNat (0, 0, 0, 0, 0, 0, 0)).2.1.toNat []).getD (s15.getD s17.toNat (0, 0, 0, 0, 0, 0, 0)).2.2.1.toNat 0) + (s15.getD s17.toNat (0, 0, 0, 0, 0, 0, 0)).2.2.2.1))))
          bif boundOk (s15.getD s17.toNat (0, 0, 0, 0, 0, 0, 0)).2.2.1 y2.length then (bif boundOk (s15.getD s17.toNat (0, 0, 0, 0, 0, 0, 0)).2.1 (y2.getD (s15.getD s17.toNat (0, 0, 0, 0, 0, 0, 0)).2.2.1.toNat []).length then (bif boundOk (s15.getD s17.toNat (0, 0, 0, 0, 0, 0, 0)).2.1 (y2.getD (s15.getD s17.toNat (0, 0, 0, 0, 0, 0, 0)).2.2.1.toNat []).length then (let y3 : List (List Int) := (y2.set (s15.getD s17.toNat (0, 0, 0, 0, 0, 0, 0)).2.2.1.toNat ((y2.getD (s15.getD s17.toNat (0, 0, 0, 0, 0, 0, 0)).2.2.1.toNat []).set (s15.getD s17.toNat (0, 0, 0, 0, 0, 0, 0)).2.1.toNat (w64 (((y2.getD (s15.getD s17.toNat (0, 0, 0, 0, 0, 0, 0)).2.2.1.toNat []).getD (s15.getD s17.toNat (0, 0, 0, 0, 0, 0, 0)).2.1.toNat 0) - (s15.getD s17.toNat (0, 0, 0, 0, 0, 0, 0)).2.2.2.1))))
             bif !(decide ((s15.getD s17.toNat (0, 0, 0, 0, 0, 0, 0)).2.2.2.2.1 = 3)) then (bif boundOk (s15.getD s17.toNat (0, 0, 0, 0, 0, 0, 0)).2.1 r3.length then (bif boundOk (s15.getD s17.toNat (0, 0, 0, 0, 0, 0, 0)).2.1 r3.length then (let y4 : List Int := (r3.set (s15.getD s17.toNat (0, 0, 0, 0, 0, 0, 0)).2.1.toNat (w64 ((r3.getD (s15.getD s17.toNat (0, 0, 0, 0, 0, 0, 0)).2.1.toNat 0) + (s15.getD s17.toNat (0, 0, 0, 0, 0, 0, 0)).2.2.2.1)))
                rec s15 s16 (w64 (s17 + 1)) y1 y4 y3)
               else none)
              else none)
             else rec s15 s16 (w64 (s17 + 1)) y1 r3 y3)
            else none)
           else none)
          else none)
         else none)
        else none)
       else none)
      else none)
     else none)
    else none)
   else none)
  else none)
 else some (r2, r3, m4)
def fits_moved_L0 (k : Nat) : Nat → fits_moved_L0T
 | 0, _, _, _, _, _, _ => none
 | n + 1, s15, s16, s17, r2, r3, m4 => fits_moved_L0b k (fits_moved_L0 k n) s15 s16 s17 r2 r3 m4
/-- giro/fits.moved -/
def fits_moved (k : Nat) (a0 : Int) (a1 : List K1q) : Option ((List Int) × (List Int) × (List (List Int))) :=
 (lim_Row k a0 0).bind fun x0 =>
 (lim_Row k a0 0).bind fun x1 =>
 (lim_Square k a0 0).bind fun x2 =>
 (fits_moved_L0 k k a1 (a1.length : Int) 0 x0 x1 x2).bind fun z =>
 some (z.1, z.2.1, z.2.2)

/-- giro/fits.Short$1 -/
def fits_Short_fn1 (k : Nat) (a0ID : Int) (a0From : Int) (a0To : Int) (a0Amount : Int) (a0Class : Int) (a0Start : Int) (a0Till : Int) (a1 : Int) : Option Bool :=
 some (decide (a0From = a1))

abbrev slices_IndexFunc_Pay__fits_Short_fn1_L0T : Type := List K1q → Int → Int → Int → Option (Unit ⊕ Int)
def slices_IndexFunc_Pay__fits_Short_fn1_L0b (k : Nat) (rec : slices_IndexFunc_Pay__fits_Short_fn1_L0T) (s0 : List K1q) (s7 : Int) (s8 : Int) (b0_0 : Int) : Option (Unit ⊕ Int) :=
 bif decide (s8 < s7) then (bif boundOk s8 s0.length then ((fits_Short_fn1 k (s0.getD s8.toNat (0, 0, 0, 0, 0, 0, 0)).1 (s0.getD s8.toNat (0, 0, 0, 0, 0, 0, 0)).2.1 (s0.getD s8.toNat (0, 0, 0, 0, 0, 0, 0)).2.2.1 (s0.getD s8.toNat (0, 0, 0, 0, 0, 0, 0)).2.2.2.1 (s0.getD s8.toNat (0, 0, 0, 0, 0, 0, 0)).2.2.2.2.1 (s0.getD s8.toNat (0, 0, 0, 0, 0, 0, 0)).2.2.2.2.2.1 (s0.getD s8.toNat (0, 0, 0, 0, 0, 0, 0)).2.2.2.2.2.2 b0_0).bind fun x0 =>
   bif x0 then some (.inr s8)
   else rec s0 s7 (w64 (s8 + 1)) b0_0)
  else none)
 else some (.inl ())
def slices_IndexFunc_Pay__fits_Short_fn1_L0 (k : Nat) : Nat → slices_IndexFunc_Pay__fits_Short_fn1_L0T
 | 0, _, _, _, _ => none
 | n + 1, s0, s7, s8, b0_0 => slices_IndexFunc_Pay__fits_Short_fn1_L0b k (slices_IndexFunc_Pay__fits_Short_fn1_L0 k n) s0 s7 s8 b0_0
/-- slices.IndexFunc[[]giro/api.Pay,giro/api.Pay] -/
def slices_IndexFunc_Pay__fits_Short_fn1 (k : Nat) (a0 : List K1q) (a1_0 : Int) : Option Int :=
 (slices_IndexFunc_Pay__fits_Short_fn1_L0 k k a0 (a0.length : Int) 0 a1_0).bind fun z =>
 match z with
 | .inl z1 => some (-1)
 | .inr z2 => some z2

/-- slices.ContainsFunc[[]giro/api.Pay,giro/api.Pay] -/
def slices_ContainsFunc_Pay__fits_Short_fn1 (k : Nat) (a0 : List K1q) (a1_0 : Int) : Option Bool :=
 (slices_IndexFunc_Pay__fits_Short_fn1 k a0 a1_0).bind fun x0 =>
 some (decide (x0 ≥ 0))

/-- giro/fits.over -/
def fits_over (k : Nat) (a0 : Int) (a1 : Int) : Option Bool :=
 bif !(decide (a1 = (-1))) then some (decide (a0 > a1))
 else some false

/-- giro/acct.Kept -/
def acct_Kept (k : Nat) (a0Balance : Int) (a0Credit : Int) (a0Reserve : Int) (a1 : Int) : Option Int :=
 some (maxI false (w64 (a0Reserve - a1)) 0)

/-- (giro/fits.move).isShort$1 -/
def fits_move_isShort_fn1 (k : Nat) (a0ID : Int) (a0From : Int) (a0To : Int) (a0Amount : Int) (a0Class : Int) (a0Start : Int) (a0Till : Int) (a1 : Int) (a2Balance : Int) (a2Credit : Int) (a2Reserve : Int) (a3more : List Int) (a3spent : List Int) (a3sent : List (List Int)) (a4 : Int) (a5Accts : List K2q) (a5Bil : List (List Int)) (a5Mul : List Int) (a5Pos : List (List Int)) : Option Bool :=
 bif !(decide (a0From = a1)) then some false
 else bif boundOk a1 a3spent.length then ((acct_Kept k a2Balance a2Credit a2Reserve (a3spent.getD a1.toNat 0)).bind fun x0 =>
  bif decide (a0Class = 3) then (bif decide (a4 < x0) then some true
   else bif boundOk a1 a5Pos.length then (bif boundOk a0To (a5Pos.getD a1.toNat []).length then (bif boundOk a1 a3sent.length then (bif boundOk a0To (a3sent.getD a1.toNat []).length then (bif boundOk a1 a5Bil.length then (bif boundOk a0To (a5Bil.getD a1.toNat []).length then ((fits_over k (w64 (((a5Pos.getD a1.toNat []).getD a0To.toNat 0) + ((a3sent.getD a1.toNat []).getD a0To.toNat 0))) ((a5Bil.getD a1.toNat []).getD a0To.toNat 0)).bind fun x1 =>
         some x1)
        else none)
       else none)
      else none)
     else none)
    else none)
   else none)
  else bif boundOk a1 a5Pos.length then (bif boundOk a0To (a5Pos.getD a1.toNat []).length then (bif boundOk a1 a3sent.length then (bif boundOk a0To (a3sent.getD a1.toNat []).length then (bif boundOk a1 a5Bil.length then (bif boundOk a0To (a5Bil.getD a1.toNat []).length then ((fits_over k (w64 (((a5Pos.getD a1.toNat []).getD a0To.toNat 0) + ((a3sent.getD a1.toNat []).getD a0To.toNat 0))) ((a5Bil.getD a1.toNat []).getD a0To.toNat 0)).bind fun x2 =>
        some x2)
       else none)
      else none)
     else none)
    else none)
   else none)
  else none)
 else none

abbrev slices_IndexFunc_Pay__fits_move_isShort_fn1_L0T : Type := List K1q → Int → Int → Int → Int → Int → Int → List Int → List Int → List (List Int) → Int → List K2q → List (List Int) → List Int → List (List Int) → Option (Unit ⊕ Int)
def slices_IndexFunc_Pay__fits_move_isShort_fn1_L0b (k : Nat) (rec : slices_IndexFunc_Pay__fits_move_isShort_fn1_L0T) (s0 : List K1q) (s7 : Int) (s8 : Int) (b0_0 : Int) (b1_0 : Int) (b1_1 : Int) (b1_2 : Int) (b2_0 : List Int) (b2_1 : List Int) (b2_2 : List (List Int)) (b3_0 : Int) (b4_0 : List K2q) (b4_1 : List (List Int)) (b4_2 : List Int) (b4_3 : List (List Int)) : Option (Unit ⊕ Int) :=
 bif decide (s8 < s7) then (bif boundOk s8 s0.length then ((fits_move_isShort_fn1 k (s0.getD s8.toNat (0, 0, 0, 0, 0, 0, 0)).1 (s0.getD s8.toNat (0, 0, 0, 0, 0, 0, 0)).2.1 (s0.getD s8.toNat (0, 0, 0, 0, 0, 0, 0)).2.2.1 (s0.getD s8.toNat (0, 0, 0, 0, 0, 0, 0)).2.2.2.1 (s0.getD s8.toNat (0, 0, 0, 0, 0, 0, 0)).2.2.2.2.1 (s0.getD s8.toNat (0, 0, 0, 0, 0, 0, 0)).2.2.2.2.2.1 (s0.getD s8.toNat (0, 0, 0, 0, 0, 0, 0)).2.2.2.2.2.2 b0_0 b1_0 b1_1 b1_2 b2_0 b2_1 b2_2 b3_0 b4_0 b4_1 b4_2 b4_3).bind fun x0 =>
   bif x0 then some (.inr s8)
   else rec s0 s7 (w64 (s8 + 1)) b0_0 b1_0 b1_1 b1_2 b2_0 b2_1 b2_2 b3_0 b4_0 b4_1 b4_2 b4_3)
  else none)
 else some (.inl ())
def slices_IndexFunc_Pay__fits_move_isShort_fn1_L0 (k : Nat) : Nat → slices_IndexFunc_Pay__fits_move_isShort_fn1_L0T
 | 0, _, _, _, _, _, _, _, _, _, _, _, _, _, _, _ => none
 | n + 1, s0, s7, s8, b0_0, b1_0, b1_1, b1_2, b2_0, b2_1, b2_2, b3_0, b4_0, b4_1, b4_2, b4_3 => slices_IndexFunc_Pay__fits_move_isShort_fn1_L0b k (slices_IndexFunc_Pay__fits_move_isShort_fn1_L0 k n) s0 s7 s8 b0_0 b1_0 b1_1 b1_2 b2_0 b2_1 b2_2 b3_0 b4_0 b4_1 b4_2 b4_3
/-- slices.IndexFunc[[]giro/api.Pay,giro/api.Pay] -/
def slices_IndexFunc_Pay__fits_move_isShort_fn1 (k : Nat) (a0 : List K1q) (a1_0 : Int) (a1_1Balance : Int) (a1_1Credit : Int) (a1_1Reserve : Int) (a1_2more : List Int) (a1_2spent : List Int) (a1_2sent : List (List Int)) (a1_3 : Int) (a1_4Accts : List K2q) (a1_4Bil : List (List Int)) (a1_4Mul : List Int) (a1_4Pos : List (List Int)) : Option Int :=
 (slices_IndexFunc_Pay__fits_move_isShort_fn1_L0 k k a0 (a0.length : Int) 0 a1_0 a1_1Balance a1_1Credit a1_1Reserve a1_2more a1_2spent a1_2sent a1_3 a1_4Accts a1_4Bil a1_4Mul a1_4Pos).bind fun z =>
 match z with
 | .inl z1 => some (-1)
 | .inr z2 => some z2

/-- slices.ContainsFunc[[]giro/api.Pay,giro/api.Pay] -/
def slices_ContainsFunc_Pay__fits_move_isShort_fn1 (k : Nat) (a0 : List K1q) (a1_0 : Int) (a1_1Balance : Int) (a1_1Credit : Int) (a1_1Reserve : Int) (a1_2more : List Int) (a1_2spent : List Int) (a1_2sent : List (List Int)) (a1_3 : Int) (a1_4Accts : List K2q) (a1_4Bil : List (List Int)) (a1_4Mul : List Int) (a1_4Pos : List (List Int)) : Option Bool :=
 (slices_IndexFunc_Pay__fits_move_isShort_fn1 k a0 a1_0 a1_1Balance a1_1Credit a1_1Reserve a1_2more a1_2spent a1_2sent a1_3 a1_4Accts a1_4Bil a1_4Mul a1_4Pos).bind fun x0 =>
 some (decide (x0 ≥ 0))

abbrev fits_move_isShort_L0X : Type := (List K1q) × Int × (List Int) × (List Int) × (List (List Int)) × (List K2q) × (List (List Int)) × (List Int) × (List (List Int)) × Int × Int × Int × Int × Int
abbrev fits_move_isShort_L0T : Type := List K1q → Int → List Int → Int → Int → List Int → List Int → List (List Int) → List K2q → List (List Int) → List Int → List (List Int) → Int → Int → Int → Int → Int → Option fits_move_isShort_L0X
def fits_move_isShort_L0b (k : Nat) (rec : fits_move_isShort_L0T) (s3 : List K1q) (s11 : Int) (s39 : List Int) (s40 : Int) (s41 : Int) (b0_0 : List Int) (b0_1 : List Int) (b0_2 : List (List Int)) (b1_0 : List K2q) (b1_1 : List (List Int)) (b1_2 : List Int) (b1_3 : List (List Int)) (b2_0 : Int) (b3_0 : Int) (b3_1 : Int) (b3_2 : Int) (b4_0 : Int) : Option fits_move_isShort_L0X :=
 bif decide (s41 < s40) then (bif boundOk s41 s39.length then (rec s3 (w64 (s11 + (s39.getD s41.toNat 0))) s39 s40 (w64 (s41 + 1)) b0_0 b0_1 b0_2 b1_0 b1_1 b1_2 b1_3 b2_0 b3_0 b3_1 b3_2 b4_0)
  else none)
 else some (s3, s11, b0_0, b0_1, b0_2, b1_0, b1_1, b1_2, b1_3, b2_0, b3_0, b3_1, b3_2, b4_0)
def fits_move_isShort_L0 (k : Nat) : Nat → fits_move_isShort_L0T
 | 0, _, _, _, _, _, _, _, _, _, _, _, _, _, _, _, _, _ => none
 | n + 1, s3, s11, s39, s40, s41, b0_0, b0_1, b0_2, b1_0, b1_1, b1_2, b1_3, b2_0, b3_0, b3_1, b3_2, b4_0 => fits_move_isShort_L0b k (fits_move_isShort_L0 k n) s3 s11 s39 s40 s41 b0_0 b0_1 b0_2 b1_0 b1_1 b1_2 b1_3 b2_0 b3_0 b3_1 b3_2 b4_0
/-- (giro/fits.move).isShort -/
def fits_move_isShort (k : Nat) (a0more : List Int) (a0spent : List Int) (a0sent : List (List Int)) (a1Accts : List K2q) (a1Bil : List (List Int)) (a1Mul : List Int) (a1Pos : List (List Int)) (a2 : Int) (a3 : List K1q) : Option Bool :=
 bif boundOk a2 a1Accts.length then (bif boundOk a2 a0more.length then (bif decide ((w64 ((w64 ((a1Accts.getD a2.toNat (0, 0, 0)).1 + (a1Accts.getD a2.toNat (0, 0, 0)).2.1)) + (a0more.getD a2.toNat 0))) < 0) then some true
   else (lim_Net k a1Accts a1Bil a1Mul a1Pos a2).bind fun x0 =>
   bif boundOk a2 a0sent.length then ((fits_move_isShort_L0 k k a3 x0 (a0sent.getD a2.toNat []) ((a0sent.getD a2.toNat []).length : Int) 0 a0more a0spent a0sent a1Accts a1Bil a1Mul a1Pos a2 (a1Accts.getD a2.toNat (0, 0, 0)).1 (a1Accts.getD a2.toNat (0, 0, 0)).2.1 (a1Accts.getD a2.toNat (0, 0, 0)).2.2 (w64 ((w64 ((a1Accts.getD a2.toNat (0, 0, 0)).1 + (a1Accts.getD a2.toNat (0, 0, 0)).2.1)) + (a0more.getD a2.toNat 0)))).bind fun z =>
    bif boundOk z.2.2.2.2.2.2.2.2.2.1 z.2.2.2.2.2.2.2.1.length then ((fits_over k z.2.1 (z.2.2.2.2.2.2.2.1.getD z.2.2.2.2.2.2.2.2.2.1.toNat 0)).bind fun x1 =>
     bif x1 then some true
     else (slices_ContainsFunc_Pay__fits_move_isShort_fn1 k z.1 z.2.2.2.2.2.2.2.2.2.1 z.2.2.2.2.2.2.2.2.2.2.1 z.2.2.2.2.2.2.2.2.2.2.2.1 z.2.2.2.2.2.2.2.2.2.2.2.2.1 z.2.2.1 z.2.2.2.1 z.2.2.2.2.1 z.2.2.2.2.2.2.2.2.2.2.2.2.2 z.2.2.2.2.2.1 z.2.2.2.2.2.2.1 z.2.2.2.2.2.2.2.1 z.2.2.2.2.2.2.2.2.1).bind fun x2 =>
     some x2)
    else none)
   else none)
  else none)
 else none

abbrev fits_Short_L0T : Type := List K1q → Int → Int → List K2q → List (List Int) → List Int → List (List Int) → List Int → List Int → List (List Int) → List Int → Option (List Int)
def fits_Short_L0b (k : Nat) (rec : fits_Short_L0T) (s1 : List K1q) (s16 : Int) (s17 : Int) (b0_0 : List K2q) (b0_1 : List (List Int)) (b0_2 : List Int) (b0_3 : List (List Int)) (r2 : List Int) (r3 : List Int) (m4 : List (List Int)) (r5 : List Int) : Option (List Int) :=
 bif decide (s17 < s16) then ((slices_ContainsFunc_Pay__fits_Short_fn1 k s1 s17).bind fun x1 =>
  bif x1 then ((fits_move_isShort k r2 r3 m4 b0_0 b0_1 b0_2 b0_3 s17 s1).bind fun x2 =>
   bif x2 then (bif roomB (r5.length + 1) 8 then (rec s1 s16 (w64 (s17 + 1)) b0_0 b0_1 b0_2 b0_3 r2 r3 m4 (r5 ++ [s17]))
    else none)
   else rec s1 s16 (w64 (s17 + 1)) b0_0 b0_1 b0_2 b0_3 r2 r3 m4 r5)
  else rec s1 s16 (w64 (s17 + 1)) b0_0 b0_1 b0_2 b0_3 r2 r3 m4 r5)
 else some r5
def fits_Short_L0 (k : Nat) : Nat → fits_Short_L0T
 | 0, _, _, _, _, _, _, _, _, _, _, _ => none
 | n + 1, s1, s16, s17, b0_0, b0_1, b0_2, b0_3, r2, r3, m4, r5 => fits_Short_L0b k (fits_Short_L0 k n) s1 s16 s17 b0_0 b0_1 b0_2 b0_3 r2 r3 m4 r5
/-- giro/fits.Short -/
def fits_Short (k : Nat) (a0Accts : List K2q) (a0Bil : List (List Int)) (a0Mul : List Int) (a0Pos : List (List Int)) (a1 : List K1q) : Option (List Int) :=
 (fits_moved k (a0Accts.length : Int) a1).bind fun x0 =>
 (fits_Short_L0 k k a1 (a0Accts.length : Int) 0 a0Accts a0Bil a0Mul a0Pos x0.1 x0.2.1 x0.2.2 []).bind fun z =>
 some z

/-- giro/fits.Fits -/
def fits_Fits (k : Nat) (a0Accts : List K2q) (a0Bil : List (List Int)) (a0Mul : List Int) (a0Pos : List (List Int)) (a1 : List K1q) : Option Bool :=
 bif decide ((a1.length : Int) ≤ 64) then ((slices_ContainsFunc_Pay__fits_Fits_fn1 k a1 a0Accts a0Bil a0Mul a0Pos).bind fun x0 =>
  bif !x0 then ((fits_Short k a0Accts a0Bil a0Mul a0Pos a1).bind fun x1 =>
   some (decide ((x1.length : Int) = 0)))
  else some false)
 else some false

/-- giro/post.Post$1 -/
def post_Post_fn1 (k : Nat) (a0ID : Int) (a0From : Int) (a0To : Int) (a0Amount : Int) (a0Class : Int) (a0Start : Int) (a0Till : Int) (a1Accts : List K2q) (a1Bil : List (List Int)) (a1Mul : List Int) (a1Pos : List (List Int)) : Option Bool :=
 (fits_May k a1Accts a1Bil a1Mul a1Pos a0ID a0From a0To a0Amount a0Class a0Start a0Till).bind fun x0 =>
 some (!x0)

abbrev slices_IndexFunc_Pay__post_Post_fn1_L0T : Type := List K1q → Int → Int → List K2q → List (List Int) → List Int → List (List Int) → Option (Unit ⊕ Int)
def slices_IndexFunc_Pay__post_Post_fn1_L0b (k : Nat) (rec : slices_IndexFunc_Pay__post_Post_fn1_L0T) (s0 : List K1q) (s7 : Int) (s8 : Int) (b0_0 : List K2q) (b0_1 : List (List Int)) (b0_2 : List Int) (b0_3 : List (List Int)) : Option (Unit ⊕ Int) :=
 bif decide (s8 < s7) then (bif boundOk s8 s0.length then ((post_Post_fn1 k (s0.getD s8.toNat (0, 0, 0, 0, 0, 0, 0)).1 (s0.getD s8.toNat (0, 0, 0, 0, 0, 0, 0)).2.1 (s0.getD s8.toNat (0, 0, 0, 0, 0, 0, 0)).2.2.1 (s0.getD s8.toNat (0, 0, 0, 0, 0, 0, 0)).2.2.2.1 (s0.getD s8.toNat (0, 0, 0, 0, 0, 0, 0)).2.2.2.2.1 (s0.getD s8.toNat (0, 0, 0, 0, 0, 0, 0)).2.2.2.2.2.1 (s0.getD s8.toNat (0, 0, 0, 0, 0, 0, 0)).2.2.2.2.2.2 b0_0 b0_1 b0_2 b0_3).bind fun x0 =>
   bif x0 then some (.inr s8)
   else rec s0 s7 (w64 (s8 + 1)) b0_0 b0_1 b0_2 b0_3)
  else none)
 else some (.inl ())
def slices_IndexFunc_Pay__post_Post_fn1_L0 (k : Nat) : Nat → slices_IndexFunc_Pay__post_Post_fn1_L0T
 | 0, _, _, _, _, _, _, _ => none
 | n + 1, s0, s7, s8, b0_0, b0_1, b0_2, b0_3 => slices_IndexFunc_Pay__post_Post_fn1_L0b k (slices_IndexFunc_Pay__post_Post_fn1_L0 k n) s0 s7 s8 b0_0 b0_1 b0_2 b0_3
/-- slices.IndexFunc[[]giro/api.Pay,giro/api.Pay] -/
def slices_IndexFunc_Pay__post_Post_fn1 (k : Nat) (a0 : List K1q) (a1_0Accts : List K2q) (a1_0Bil : List (List Int)) (a1_0Mul : List Int) (a1_0Pos : List (List Int)) : Option Int :=
 (slices_IndexFunc_Pay__post_Post_fn1_L0 k k a0 (a0.length : Int) 0 a1_0Accts a1_0Bil a1_0Mul a1_0Pos).bind fun z =>
 match z with
 | .inl z1 => some (-1)
 | .inr z2 => some z2

/-- slices.ContainsFunc[[]giro/api.Pay,giro/api.Pay] -/
def slices_ContainsFunc_Pay__post_Post_fn1 (k : Nat) (a0 : List K1q) (a1_0Accts : List K2q) (a1_0Bil : List (List Int)) (a1_0Mul : List Int) (a1_0Pos : List (List Int)) : Option Bool :=
 (slices_IndexFunc_Pay__post_Post_fn1 k a0 a1_0Accts a1_0Bil a1_0Mul a1_0Pos).bind fun x0 =>
 some (decide (x0 ≥ 0))

abbrev post_Post_L0X : Type := (List K2q) × (List (List Int)) × (List Int) × (List (List Int)) × (List K2q) × (List (List Int)) × (List Int) × (List (List Int))
abbrev post_Post_L0T : Type := List K1q → Int → Int → List K2q → List (List Int) → List Int → List (List Int) → List K2q → List (List Int) → List Int → List (List Int) → Option post_Post_L0X
def post_Post_L0b (k : Nat) (rec : post_Post_L0T) (s24 : List K1q) (s25 : Int) (s26 : Int) (b0_0 : List K2q) (b0_1 : List (List Int)) (b0_2 : List Int) (b0_3 : List (List Int)) (r3 : List K2q) (m4 : List (List Int)) (r5 : List Int) (m6 : List (List Int)) : Option post_Post_L0X :=
 bif decide (s26 < s25) then (bif boundOk s26 s24.length then (bif boundOk (s24.getD s26.toNat (0, 0, 0, 0, 0, 0, 0)).2.1 r3.length then (bif boundOk (s24.getD s26.toNat (0, 0, 0, 0, 0, 0, 0)).2.2.1 r3.length then (let y0 : List K2q := (r3.set (s24.getD s26.toNat (0, 0, 0, 0, 0, 0, 0)).2.1.toNat ((w64 ((r3.getD (s24.getD s26.toNat (0, 0, 0, 0, 0, 0, 0)).2.1.toNat (0, 0, 0)).1 - (s24.getD s26.toNat (0, 0, 0, 0, 0, 0, 0)).2.2.2.1)), (r3.getD (s24.getD s26.toNat (0, 0, 0, 0, 0, 0, 0)).2.1.toNat (0, 0, 0)).2))
     let y1 : List K2q := (y0.set (s24.getD s26.toNat (0, 0, 0, 0, 0, 0, 0)).2.2.1.toNat ((w64 ((y0.getD (s24.getD s26.toNat (0, 0, 0, 0, 0, 0, 0)).2.2.1.toNat (0, 0, 0)).1 + (s24.getD s26.toNat (0, 0, 0, 0, 0, 0, 0)).2.2.2.1)), (y0.getD (s24.getD s26.toNat (0, 0, 0, 0, 0, 0, 0)).2.2.1.toNat (0, 0, 0)).2))
     bif !(decide ((s24.getD s26.toNat (0, 0, 0, 0, 0, 0, 0)).2.2.2.2.1 = 3)) then ((acct_Kept k (y1.getD (s24.getD s26.toNat (0, 0, 0, 0, 0, 0, 0)).2.1.toNat (0, 0, 0)).1 (y1.getD (s24.getD s26.toNat (0, 0, 0, 0, 0, 0, 0)).2.1.toNat (0, 0, 0)).2.1 (y1.getD (s24.getD s26.toNat (0, 0, 0, 0, 0, 0, 0)).2.1.toNat (0, 0, 0)).2.2 (s24.getD s26.toNat (0, 0, 0, 0, 0, 0, 0)).2.2.2.1).bind fun x2 =>
      let y2 : List K2q := (y1.set (s24.getD s26.toNat (0, 0, 0, 0, 0, 0, 0)).2.1.toNat ((y1.getD (s24.getD s26.toNat (0, 0, 0, 0, 0, 0, 0)).2.1.toNat (0, 0, 0)).1, (y1.getD (s24.getD s26.toNat (0, 0, 0, 0, 0, 0, 0)).2.1.toNat (0, 0, 0)).2.1, x2))
      bif boundOk (s24.getD s26.toNat (0, 0, 0, 0, 0, 0, 0)).2.1 m6.length then (bif boundOk (s24.getD s26.toNat (0, 0, 0, 0, 0, 0, 0)).2.2.1 (m6.getD (s24.getD s26.toNat (0, 0, 0, 0, 0, 0, 0)).2.1.toNat []).length then (bif boundOk (s24.getD s26.toNat (0, 0, 0, 0, 0, 0, 0)).2.2.1 (m6.getD (s24.getD s26.toNat (0, 0, 0, 0, 0, 0, 0)).2.1.toNat []).length then (let y3 : List (List Int) := (m6.set (s24.getD s26.toNat (0, 0, 0, 0, 0, 0, 0)).2.1.toNat ((m6.getD (s24.getD s26.toNat (0, 0, 0, 0, 0, 0, 0)).2.1.toNat []).set (s24.getD s26.toNat (0, 0, 0, 0, 0, 0, 0)).2.2.1.toNat (w64 (((m6.getD (s24.getD s26.toNat (0, 0, 0, 0, 0, 0, 0)).2.1.toNat []).getD (s24.getD s26.toNat (0, 0, 0, 0, 0, 0, 0)).2.2.1.toNat 0) + (s24.getD s26.toNat (0, 0, 0, 0, 0, 0, 0)).2.2.2.1))))
         bif boundOk (s24.getD s26.toNat (0, 0, 0, 0, 0, 0, 0)).2.2.1 y3.length then (bif boundOk (s24.getD s26.toNat (0, 0, 0, 0, 0, 0, 0)).2.1 (y3.getD (s24.getD s26.toNat (0, 0, 0, 0, 0, 0, 0)).2.2.1.toNat []).length then (bif boundOk (s24.getD s26.toNat (0, 0, 0, 0, 0, 0, 0)).2.1 (y3.getD (s24.getD s26.toNat (0, 0, 0, 0, 0, 0, 0)).2.2.1.toNat []).length then (let y4 : List (List Int) := (y3.set (s24.getD s26.toNat (0, 0, 0, 0, 0, 0, 0)).2.2.1.toNat ((y3.getD (s24.getD s26.toNat (0, 0, 0, 0, 0, 0, 0)).2.2.1.toNat []).set (s24.getD s26.toNat (0, 0, 0, 0, 0, 0, 0)).2.1.toNat (w64 (((y3.getD (s24.getD s26.toNat (0, 0, 0, 0, 0, 0, 0)).2.2.1.toNat []).getD (s24.getD s26.toNat (0, 0, 0, 0, 0, 0, 0)).2.1.toNat 0) - (s24.getD s26.toNat (0, 0, 0, 0, 0, 0, 0)).2.2.2.1))))
            rec s24 s25 (w64 (s26 + 1)) b0_0 b0_1 b0_2 b0_3 y2 m4 r5 y4)
           else none)
          else none)
         else none)
        else none)
       else none)
      else none)
     else bif boundOk (s24.getD s26.toNat (0, 0, 0, 0, 0, 0, 0)).2.1 m6.length then (bif boundOk (s24.getD s26.toNat (0, 0, 0, 0, 0, 0, 0)).2.2.1 (m6.getD (s24.getD s26.toNat (0, 0, 0, 0, 0, 0, 0)).2.1.toNat []).length then (bif boundOk (s24.getD s26.toNat (0, 0, 0, 0, 0, 0, 0)).2.2.1 (m6.getD (s24.getD s26.toNat (0, 0, 0, 0, 0, 0, 0)).2.1.toNat []).length then (let y5 : List (List Int) := (m6.set (s24.getD s26.toNat (0, 0, 0, 0, 0, 0, 0)).2.1.toNat ((m6.getD (s24.getD s26.toNat (0, 0, 0, 0, 0, 0, 0)).2.1.toNat []).set (s24.getD s26.toNat (0, 0, 0, 0, 0, 0, 0)).2.2.1.toNat (w64 (((m6.getD (s24.getD s26.toNat (0, 0, 0, 0, 0, 0, 0)).2.1.toNat []).getD (s24.getD s26.toNat (0, 0, 0, 0, 0, 0, 0)).2.2.1.toNat 0) + (s24.getD s26.toNat (0, 0, 0, 0, 0, 0, 0)).2.2.2.1))))
        bif boundOk (s24.getD s26.toNat (0, 0, 0, 0, 0, 0, 0)).2.2.1 y5.length then (bif boundOk (s24.getD s26.toNat (0, 0, 0, 0, 0, 0, 0)).2.1 (y5.getD (s24.getD s26.toNat (0, 0, 0, 0, 0, 0, 0)).2.2.1.toNat []).length then (bif boundOk (s24.getD s26.toNat (0, 0, 0, 0, 0, 0, 0)).2.1 (y5.getD (s24.getD s26.toNat (0, 0, 0, 0, 0, 0, 0)).2.2.1.toNat []).length then (let y6 : List (List Int) := (y5.set (s24.getD s26.toNat (0, 0, 0, 0, 0, 0, 0)).2.2.1.toNat ((y5.getD (s24.getD s26.toNat (0, 0, 0, 0, 0, 0, 0)).2.2.1.toNat []).set (s24.getD s26.toNat (0, 0, 0, 0, 0, 0, 0)).2.1.toNat (w64 (((y5.getD (s24.getD s26.toNat (0, 0, 0, 0, 0, 0, 0)).2.2.1.toNat []).getD (s24.getD s26.toNat (0, 0, 0, 0, 0, 0, 0)).2.1.toNat 0) - (s24.getD s26.toNat (0, 0, 0, 0, 0, 0, 0)).2.2.2.1))))
           rec s24 s25 (w64 (s26 + 1)) b0_0 b0_1 b0_2 b0_3 y1 m4 r5 y6)
          else none)
         else none)
        else none)
       else none)
      else none)
     else none)
    else none)
   else none)
  else none)
 else some (b0_0, b0_1, b0_2, b0_3, r3, m4, r5, m6)
def post_Post_L0 (k : Nat) : Nat → post_Post_L0T
 | 0, _, _, _, _, _, _, _, _, _, _, _ => none
 | n + 1, s24, s25, s26, b0_0, b0_1, b0_2, b0_3, r3, m4, r5, m6 => post_Post_L0b k (post_Post_L0 k n) s24 s25 s26 b0_0 b0_1 b0_2 b0_3 r3 m4 r5 m6
/-- giro/post.Post -/
def post_Post (k : Nat) (a0Accts : List K2q) (a0Bil : List (List Int)) (a0Mul : List Int) (a0Pos : List (List Int)) (a1 : List K1q) : Option ((List K2q) × (List (List Int)) × (List Int) × (List (List Int)) × Int) :=
 bif decide ((a1.length : Int) > 64) then some (a0Accts, a0Bil, a0Mul, a0Pos, 1)
 else (slices_ContainsFunc_Pay__post_Post_fn1 k a1 a0Accts a0Bil a0Mul a0Pos).bind fun x0 =>
 bif x0 then some (a0Accts, a0Bil, a0Mul, a0Pos, 1)
 else (lim_Copy k a0Accts a0Bil a0Mul a0Pos).bind fun x1 =>
 (post_Post_L0 k k a1 (a1.length : Int) 0 a0Accts a0Bil a0Mul a0Pos x1.1 x1.2.1 x1.2.2.1 x1.2.2.2).bind fun z =>
 (lim_Is k z.2.2.2.2.1 z.2.2.2.2.2.1 z.2.2.2.2.2.2.1 z.2.2.2.2.2.2.2).bind fun x3 =>
 bif !x3 then some (z.1, z.2.1, z.2.2.1, z.2.2.2.1, 8)
 else some (z.2.2.2.2.1, z.2.2.2.2.2.1, z.2.2.2.2.2.2.1, z.2.2.2.2.2.2.2, 0)

abbrev free_next_L0X : Type := ((List K2q) × (List (List Int)) × (List Int) × (List (List Int)) × Int × Int × Int × Int × Int × Int × Int) ⊕ (Bool × Int × Int × Int × Int × Int × Int × Int × (List K2q) × (List (List Int)) × (List Int) × (List (List Int)))
abbrev free_next_L0T : Type := Int → Int → List K2q → List (List Int) → List Int → List (List Int) → Int → Int → Int → Int → Int → Int → Int → List K1q → Option free_next_L0X
def free_next_L0b (k : Nat) (rec : free_next_L0T) (s16 : Int) (s17 : Int) (b0_0 : List K2q) (b0_1 : List (List Int)) (b0_2 : List Int) (b0_3 : List (List Int)) (b1_0 : Int) (b1_1 : Int) (b1_2 : Int) (b1_3 : Int) (b1_4 : Int) (b1_5 : Int) (b1_6 : Int) (r3 : List K1q) : Option free_next_L0X :=
 bif decide (s17 < s16) then (bif boundOk s17 r3.length then ((fits_Fits k b0_0 b0_1 b0_2 b0_3 [(r3.getD s17.toNat (0, 0, 0, 0, 0, 0, 0))]).bind fun x1 =>
   bif !x1 then (rec s16 (w64 (s17 + 1)) b0_0 b0_1 b0_2 b0_3 b1_0 b1_1 b1_2 b1_3 b1_4 b1_5 b1_6 r3)
   else (post_Post k b0_0 b0_1 b0_2 b0_3 [(r3.getD s17.toNat (0, 0, 0, 0, 0, 0, 0))]).bind fun x2 =>
   bif decide (x2.2.2.2.2 = 0) then some (.inr (true, (r3.getD s17.toNat (0, 0, 0, 0, 0, 0, 0)).1, (r3.getD s17.toNat (0, 0, 0, 0, 0, 0, 0)).2.1, (r3.getD s17.toNat (0, 0, 0, 0, 0, 0, 0)).2.2.1, (r3.getD s17.toNat (0, 0, 0, 0, 0, 0, 0)).2.2.2.1, (r3.getD s17.toNat (0, 0, 0, 0, 0, 0, 0)).2.2.2.2.1, (r3.getD s17.toNat (0, 0, 0, 0, 0, 0, 0)).2.2.2.2.2.1, (r3.getD s17.toNat (0, 0, 0, 0, 0, 0, 0)).2.2.2.2.2.2, x2.1, x2.2.1, x2.2.2.1, x2.2.2.2.1))
   else rec s16 (w64 (s17 + 1)) b0_0 b0_1 b0_2 b0_3 b1_0 b1_1 b1_2 b1_3 b1_4 b1_5 b1_6 r3)
  else none)
 else some (.inl (b0_0, b0_1, b0_2, b0_3, b1_0, b1_1, b1_2, b1_3, b1_4, b1_5, b1_6))
def free_next_L0 (k : Nat) : Nat → free_next_L0T
 | 0, _, _, _, _, _, _, _, _, _, _, _, _, _, _ => none
 | n + 1, s16, s17, b0_0, b0_1, b0_2, b0_3, b1_0, b1_1, b1_2, b1_3, b1_4, b1_5, b1_6, r3 => free_next_L0b k (free_next_L0 k n) s16 s17 b0_0 b0_1 b0_2 b0_3 b1_0 b1_1 b1_2 b1_3 b1_4 b1_5 b1_6 r3
/-- giro/free.next -/
def free_next (k : Nat) (a0Accts : List K2q) (a0Bil : List (List Int)) (a0Mul : List Int) (a0Pos : List (List Int)) (a1 : List K1q) (a2 : Int) : Option (Int × Int × Int × Int × Int × Int × Int × (List K2q) × (List (List Int)) × (List Int) × (List (List Int)) × Bool) :=
 (view_May k a1 a2).bind fun x0 =>
 (free_next_L0 k k (x0.length : Int) 0 a0Accts a0Bil a0Mul a0Pos 0 0 0 0 0 0 0 x0).bind fun z =>
 match z with
 | .inl z1 => some (0, 0, 0, 0, 0, 0, 0, z1.1, z1.2.1, z1.2.2.1, z1.2.2.2.1, false)
 | .inr z2 => some (z2.2.1, z2.2.2.1, z2.2.2.2.1, z2.2.2.2.2.1, z2.2.2.2.2.2.1, z2.2.2.2.2.2.2.1, z2.2.2.2.2.2.2.2.1, z2.2.2.2.2.2.2.2.2.1, z2.2.2.2.2.2.2.2.2.2.1, z2.2.2.2.2.2.2.2.2.2.2.1, z2.2.2.2.2.2.2.2.2.2.2.2, z2.1)

/-- giro/row.Find$1 -/
def row_Find_fn1 (k : Nat) (a0ID : Int) (a0From : Int) (a0To : Int) (a0Amount : Int) (a0Class : Int) (a0Start : Int) (a0Till : Int) (a1 : Int) : Option Bool :=
 some (decide (a0ID = a1))

abbrev slices_IndexFunc_Pay__row_Find_fn1_L0T : Type := List K1q → Int → Int → Int → Option (Unit ⊕ Int)
def slices_IndexFunc_Pay__row_Find_fn1_L0b (k : Nat) (rec : slices_IndexFunc_Pay__row_Find_fn1_L0T) (s0 : List K1q) (s7 : Int) (s8 : Int) (b0_0 : Int) : Option (Unit ⊕ Int) :=
 bif decide (s8 < s7) then (bif boundOk s8 s0.length then ((row_Find_fn1 k (s0.getD s8.toNat (0, 0, 0, 0, 0, 0, 0)).1 (s0.getD s8.toNat (0, 0, 0, 0, 0, 0, 0)).2.1 (s0.getD s8.toNat (0, 0, 0, 0, 0, 0, 0)).2.2.1 (s0.getD s8.toNat (0, 0, 0, 0, 0, 0, 0)).2.2.2.1 (s0.getD s8.toNat (0, 0, 0, 0, 0, 0, 0)).2.2.2.2.1 (s0.getD s8.toNat (0, 0, 0, 0, 0, 0, 0)).2.2.2.2.2.1 (s0.getD s8.toNat (0, 0, 0, 0, 0, 0, 0)).2.2.2.2.2.2 b0_0).bind fun x0 =>
   bif x0 then some (.inr s8)
   else rec s0 s7 (w64 (s8 + 1)) b0_0)
  else none)
 else some (.inl ())
def slices_IndexFunc_Pay__row_Find_fn1_L0 (k : Nat) : Nat → slices_IndexFunc_Pay__row_Find_fn1_L0T
 | 0, _, _, _, _ => none
 | n + 1, s0, s7, s8, b0_0 => slices_IndexFunc_Pay__row_Find_fn1_L0b k (slices_IndexFunc_Pay__row_Find_fn1_L0 k n) s0 s7 s8 b0_0
/-- slices.IndexFunc[[]giro/api.Pay,giro/api.Pay] -/
def slices_IndexFunc_Pay__row_Find_fn1 (k : Nat) (a0 : List K1q) (a1_0 : Int) : Option Int :=
 (slices_IndexFunc_Pay__row_Find_fn1_L0 k k a0 (a0.length : Int) 0 a1_0).bind fun z =>
 match z with
 | .inl z1 => some (-1)
 | .inr z2 => some z2

/-- giro/row.Find -/
def row_Find (k : Nat) (a0 : List K1q) (a1 : Int) : Option Int :=
 (slices_IndexFunc_Pay__row_Find_fn1 k a0 a1).bind fun x0 =>
 some x0

/-- slices.Clone[[]giro/api.Pay,giro/api.Pay] -/
def slices_Clone_Pay (k : Nat) (a0 : List K1q) : Option (List K1q) :=
 bif roomB (0 + a0.length) 56 then some a0
 else none

/-- slices.Delete[[]giro/api.Pay,giro/api.Pay] -/
def slices_Delete_Pay (k : Nat) (a0 : List K1q) (a1 : Int) (a2 : Int) : Option (List K1q) :=
 bif ((((decide (0 ≤ a1)) && (decide (a1 ≤ a2))) && (decide (a2 ≤ (a0.length : Int)))) && (decide (((a2.toNat : Nat) : Int) ≤ (a0.length : Int)))) && (decide ((a0.length : Int) ≤ (a0.length : Int))) then (bif decide (a1 = a2) then some a0
  else bif (decide (0 ≤ a1)) && (decide (a1 ≤ (a0.length : Int))) then (bif (decide (0 ≤ a2)) && (decide (a2 ≤ (a0.length : Int))) then (bif Nat.ble (a1.toNat - 0) (0 + a2.toNat) then (let y0 : List K1q := (((List.take (a1.toNat - 0) a0) ++ (slc a0 (0 + a2.toNat) (a0.length - a2.toNat))) ++ (List.drop ((a1.toNat - 0) + (a0.length - a2.toNat)) a0))
     bif ((decide (0 ≤ ((slc y0 0 ((a1.toNat - 0) + (a0.length - a2.toNat))).length : Int))) && (decide (((slc y0 0 ((a1.toNat - 0) + (a0.length - a2.toNat))).length : Int) ≤ (a0.length : Int)))) && (decide ((a0.length : Int) ≤ (((y0.length - 0) : Nat) : Int))) then (let y1 : List K1q := (((List.take (0 + (slc y0 0 ((a1.toNat - 0) + (a0.length - a2.toNat))).length) y0) ++ (List.replicate (a0.length - (slc y0 0 ((a1.toNat - 0) + (a0.length - a2.toNat))).length) ((0, 0, 0, 0, 0, 0, 0) : Int × Int × Int × Int × Int × Int × Int))) ++ (List.drop ((0 + (slc y0 0 ((a1.toNat - 0) + (a0.length - a2.toNat))).length) + (a0.length - (slc y0 0 ((a1.toNat - 0) + (a0.length - a2.toNat))).length)) y0))
      some (List.take ((a1.toNat - 0) + (a0.length - a2.toNat)) y1))
     else none)
    else none)
   else none)
  else none)
 else none

/-- giro/row.Drop -/
def row_Drop (k : Nat) (a0 : List K1q) (a1 : Int) : Option ((List K1q) × Int × Int × Int × Int × Int × Int × Int × Int) :=
 (row_Find k a0 a1).bind fun x0 =>
 bif decide (x0 < 0) then some (a0, 0, 0, 0, 0, 0, 0, 0, 4)
 else (slices_Clone_Pay k a0).bind fun x1 =>
 (slices_Delete_Pay k x1 x0 (w64 (x0 + 1))).bind fun x2 =>
 bif boundOk x0 a0.length then some (x2, (a0.getD x0.toNat (0, 0, 0, 0, 0, 0, 0)).1, (a0.getD x0.toNat (0, 0, 0, 0, 0, 0, 0)).2.1, (a0.getD x0.toNat (0, 0, 0, 0, 0, 0, 0)).2.2.1, (a0.getD x0.toNat (0, 0, 0, 0, 0, 0, 0)).2.2.2.1, (a0.getD x0.toNat (0, 0, 0, 0, 0, 0, 0)).2.2.2.2.1, (a0.getD x0.toNat (0, 0, 0, 0, 0, 0, 0)).2.2.2.2.2.1, (a0.getD x0.toNat (0, 0, 0, 0, 0, 0, 0)).2.2.2.2.2.2, 0)
 else none

abbrev free_Run_L0X : Type := (List K1q) × (List K2q) × (List (List Int)) × (List Int) × (List (List Int)) × (List K1q)
abbrev free_Run_L0T : Type := Int → List K1q → List K2q → List (List Int) → List Int → List (List Int) → List K1q → Option free_Run_L0X
def free_Run_L0b (k : Nat) (rec : free_Run_L0T) (s2 : Int) (s7 : List K1q) (b0_0 : List K2q) (b0_1 : List (List Int)) (b0_2 : List Int) (b0_3 : List (List Int)) (r1 : List K1q) : Option free_Run_L0X :=
 (free_next k b0_0 b0_1 b0_2 b0_3 s7 s2).bind fun x0 =>
 bif !x0.2.2.2.2.2.2.2.2.2.2.2 then some (s7, b0_0, b0_1, b0_2, b0_3, r1)
 else (row_Drop k s7 x0.1).bind fun x1 =>
 bif roomB (r1.length + 1) 56 then (let y0 : List K1q := (r1 ++ [(x0.1, x0.2.1, x0.2.2.1, x0.2.2.2.1, x0.2.2.2.2.1, x0.2.2.2.2.2.1, x0.2.2.2.2.2.2.1)])
  rec s2 x1.1 x0.2.2.2.2.2.2.2.1 x0.2.2.2.2.2.2.2.2.1 x0.2.2.2.2.2.2.2.2.2.1 x0.2.2.2.2.2.2.2.2.2.2.1 y0)
 else none
def free_Run_L0 (k : Nat) : Nat → free_Run_L0T
 | 0, _, _, _, _, _, _, _ => none
 | n + 1, s2, s7, b0_0, b0_1, b0_2, b0_3, r1 => free_Run_L0b k (free_Run_L0 k n) s2 s7 b0_0 b0_1 b0_2 b0_3 r1
/-- giro/free.Run -/
def free_Run (k : Nat) (a0Accts : List K2q) (a0Bil : List (List Int)) (a0Mul : List Int) (a0Pos : List (List Int)) (a1 : List K1q) (a2 : Int) : Option ((List K2q) × (List (List Int)) × (List Int) × (List (List Int)) × (List K1q) × (List K1q)) :=
 (free_Run_L0 k k a2 a1 a0Accts a0Bil a0Mul a0Pos []).bind fun z =>
 some (z.2.1, z.2.2.1, z.2.2.2.1, z.2.2.2.2.1, z.1, z.2.2.2.2.2)

abbrev giroref11_Same_L0T : Type := List K1q → List K1q → Int → Option (Unit ⊕ Bool)
def giroref11_Same_L0b (k : Nat) (rec : giroref11_Same_L0T) (s0 : List K1q) (s1 : List K1q) (s5 : Int) : Option (Unit ⊕ Bool) :=
 bif decide (s5 < (s0.length : Int)) then (bif boundOk s5 s0.length then (bif boundOk s5 s1.length then (bif !((decide ((s0.getD s5.toNat (0, 0, 0, 0, 0, 0, 0)).1 = (s1.getD s5.toNat (0, 0, 0, 0, 0, 0, 0)).1)) && ((decide ((s0.getD s5.toNat (0, 0, 0, 0, 0, 0, 0)).2.1 = (s1.getD s5.toNat (0, 0, 0, 0, 0, 0, 0)).2.1)) && ((decide ((s0.getD s5.toNat (0, 0, 0, 0, 0, 0, 0)).2.2.1 = (s1.getD s5.toNat (0, 0, 0, 0, 0, 0, 0)).2.2.1)) && ((decide ((s0.getD s5.toNat (0, 0, 0, 0, 0, 0, 0)).2.2.2.1 = (s1.getD s5.toNat (0, 0, 0, 0, 0, 0, 0)).2.2.2.1)) && ((decide ((s0.getD s5.toNat (0, 0, 0, 0, 0, 0, 0)).2.2.2.2.1 = (s1.getD s5.toNat (0, 0, 0, 0, 0, 0, 0)).2.2.2.2.1)) && ((decide ((s0.getD s5.toNat (0, 0, 0, 0, 0, 0, 0)).2.2.2.2.2.1 = (s1.getD s5.toNat (0, 0, 0, 0, 0, 0, 0)).2.2.2.2.2.1)) && (decide ((s0.getD s5.toNat (0, 0, 0, 0, 0, 0, 0)).2.2.2.2.2.2 = (s1.getD s5.toNat (0, 0, 0, 0, 0, 0, 0)).2.2.2.2.2.2)))))))) then some (.inr false)
    else rec s0 s1 (w64 (s5 + 1)))
   else none)
  else none)
 else some (.inl ())
def giroref11_Same_L0 (k : Nat) : Nat → giroref11_Same_L0T
 | 0, _, _, _ => none
 | n + 1, s0, s1, s5 => giroref11_Same_L0b k (giroref11_Same_L0 k n) s0 s1 s5
/-- giro/giroref11.Same -/
def giroref11_Same (k : Nat) (a0 : List K1q) (a1 : List K1q) : Option Bool :=
 bif !(decide ((a0.length : Int) = (a1.length : Int))) then some false
 else (giroref11_Same_L0 k k a0 a1 0).bind fun z =>
 match z with
 | .inl z1 => some true
 | .inr z2 => some z2

abbrev girolaw18_some_L0X : Type := Int × (List K2q) × (List (List Int)) × (List Int) × (List (List Int))
abbrev girolaw18_some_L0T : Type := List Int → Int → Int → List K2q → List (List Int) → List Int → List (List Int) → Option girolaw18_some_L0X
def girolaw18_some_L0b (k : Nat) (rec : girolaw18_some_L0T) (s0 : List Int) (s1 : Int) (s6 : Int) (r2 : List K2q) (m3 : List (List Int)) (r4 : List Int) (m5 : List (List Int)) : Option girolaw18_some_L0X :=
 bif decide (s6 < 3) then (bif decide (s6 < (s0.length : Int)) then (bif boundOk s6 s0.length then (bif roomB (r2.length + 1) 24 then (rec s0 s1 (w64 (s6 + 1)) (r2 ++ [((band .i64 (s0.getD s6.toNat 0) 63), 0, 0)]) m3 r4 m5)
    else none)
   else none)
  else bif roomB (r2.length + 1) 24 then (rec s0 s1 (w64 (s6 + 1)) (r2 ++ [(0, 0, 0)]) m3 r4 m5)
  else none)
 else some (s1, r2, m3, r4, m5)
def girolaw18_some_L0 (k : Nat) : Nat → girolaw18_some_L0T
 | 0, _, _, _, _, _, _, _ => none
 | n + 1, s0, s1, s6, r2, m3, r4, m5 => girolaw18_some_L0b k (girolaw18_some_L0 k n) s0 s1 s6 r2 m3 r4 m5
/-- giro/girolaw18.some -/
def girolaw18_some (k : Nat) (a0 : List Int) (a1 : Int) : Option ((List K2q) × (List (List Int)) × (List Int) × (List (List Int))) :=
 (girolaw18_some_L0 k k a0 a1 0 [] [[(-1), (-1), (-1)], [(-1), (-1), (-1)], [(-1), (-1), (-1)]] [(-1), (-1), (-1)] [[0, 0, 0], [0, 0, 0], [0, 0, 0]]).bind fun z =>
 bif decide ((band .i64 z.1 1) = 1) then (bif boundOk 0 z.2.1.length then (let y0 : List K2q := (z.2.1.set 0 ((z.2.1.getD 0 (0, 0, 0)).1, 7, (z.2.1.getD 0 (0, 0, 0)).2.2))
   bif boundOk 1 y0.length then (let y1 : List K2q := (y0.set 1 ((y0.getD 1 (0, 0, 0)).1, (y0.getD 1 (0, 0, 0)).2.1, 5))
    bif boundOk 2 y1.length then (let y2 : List K2q := (y1.set 2 ((y1.getD 2 (0, 0, 0)).1, 3, (y1.getD 2 (0, 0, 0)).2.2))
     bif decide ((band .i64 z.1 2) = 2) then (bif boundOk 0 z.2.2.1.length then (bif boundOk 1 z.2.2.1.length then (bif boundOk 1 (z.2.2.1.getD 0 []).length then (let y3 : List (List Int) := (z.2.2.1.set 0 ((z.2.2.1.getD 0 []).set 1 6))
         bif boundOk 2 (y3.getD 1 []).length then (bif boundOk 2 z.2.2.2.1.length then (bif decide ((band .i64 z.1 4) = 4) then (bif boundOk 0 z.2.2.2.2.length then (bif boundOk 1 z.2.2.2.2.length then (bif boundOk 1 (z.2.2.2.2.getD 0 []).length then (let y4 : List (List Int) := (z.2.2.2.2.set 0 ((z.2.2.2.2.getD 0 []).set 1 3))
               bif boundOk 0 (y4.getD 1 []).length then (bif boundOk 2 y2.length then (let y5 : List K2q := (y2.set 2 ((y2.getD 2 (0, 0, 0)).1, (y2.getD 2 (0, 0, 0)).2.1, 9))
                 bif boundOk 0 (z.2.2.2.1.set 2 4).length then some (y5, (y3.set 1 ((y3.getD 1 []).set 2 0)), ((z.2.2.2.1.set 2 4).set 0 8), (y4.set 1 ((y4.getD 1 []).set 0 (-3))))
                 else none)
                else none)
               else none)
              else none)
             else none)
            else none)
           else some (y2, (y3.set 1 ((y3.getD 1 []).set 2 0)), (z.2.2.2.1.set 2 4), z.2.2.2.2))
          else none)
         else none)
        else none)
       else none)
      else none)
     else bif decide ((band .i64 z.1 4) = 4) then (bif boundOk 0 z.2.2.2.2.length then (bif boundOk 1 z.2.2.2.2.length then (bif boundOk 1 (z.2.2.2.2.getD 0 []).length then (let y6 : List (List Int) := (z.2.2.2.2.set 0 ((z.2.2.2.2.getD 0 []).set 1 3))
         bif boundOk 0 (y6.getD 1 []).length then (bif boundOk 2 y2.length then (let y7 : List K2q := (y2.set 2 ((y2.getD 2 (0, 0, 0)).1, (y2.getD 2 (0, 0, 0)).2.1, 9))
           bif boundOk 0 z.2.2.2.1.length then some (y7, z.2.2.1, (z.2.2.2.1.set 0 8), (y6.set 1 ((y6.getD 1 []).set 0 (-3))))
           else none)
          else none)
         else none)
        else none)
       else none)
      else none)
     else some (y2, z.2.2.1, z.2.2.2.1, z.2.2.2.2))
    else none)
   else none)
  else none)
 else bif decide ((band .i64 z.1 2) = 2) then (bif boundOk 0 z.2.2.1.length then (bif boundOk 1 z.2.2.1.length then (bif boundOk 1 (z.2.2.1.getD 0 []).length then (let y8 : List (List Int) := (z.2.2.1.set 0 ((z.2.2.1.getD 0 []).set 1 6))
     bif boundOk 2 (y8.getD 1 []).length then (bif boundOk 2 z.2.2.2.1.length then (bif decide ((band .i64 z.1 4) = 4) then (bif boundOk 0 z.2.2.2.2.length then (bif boundOk 1 z.2.2.2.2.length then (bif boundOk 1 (z.2.2.2.2.getD 0 []).length then (let y9 : List (List Int) := (z.2.2.2.2.set 0 ((z.2.2.2.2.getD 0 []).set 1 3))
           bif boundOk 0 (y9.getD 1 []).length then (bif boundOk 2 z.2.1.length then (let y10 : List K2q := (z.2.1.set 2 ((z.2.1.getD 2 (0, 0, 0)).1, (z.2.1.getD 2 (0, 0, 0)).2.1, 9))
             bif boundOk 0 (z.2.2.2.1.set 2 4).length then some (y10, (y8.set 1 ((y8.getD 1 []).set 2 0)), ((z.2.2.2.1.set 2 4).set 0 8), (y9.set 1 ((y9.getD 1 []).set 0 (-3))))
             else none)
            else none)
           else none)
          else none)
         else none)
        else none)
       else some (z.2.1, (y8.set 1 ((y8.getD 1 []).set 2 0)), (z.2.2.2.1.set 2 4), z.2.2.2.2))
      else none)
     else none)
    else none)
   else none)
  else none)
 else bif decide ((band .i64 z.1 4) = 4) then (bif boundOk 0 z.2.2.2.2.length then (bif boundOk 1 z.2.2.2.2.length then (bif boundOk 1 (z.2.2.2.2.getD 0 []).length then (let y11 : List (List Int) := (z.2.2.2.2.set 0 ((z.2.2.2.2.getD 0 []).set 1 3))
     bif boundOk 0 (y11.getD 1 []).length then (bif boundOk 2 z.2.1.length then (let y12 : List K2q := (z.2.1.set 2 ((z.2.1.getD 2 (0, 0, 0)).1, (z.2.1.getD 2 (0, 0, 0)).2.1, 9))
       bif boundOk 0 z.2.2.2.1.length then some (y12, z.2.2.1, (z.2.2.2.1.set 0 8), (y11.set 1 ((y11.getD 1 []).set 0 (-3))))
       else none)
      else none)
     else none)
    else none)
   else none)
  else none)
 else some (z.2.1, z.2.2.1, z.2.2.2.1, z.2.2.2.2)

/-- giro/girolaw18.known -/
def girolaw18_known (k : Nat) : Option Bool :=
 (girolaw18_some k [5] 0).bind fun x0 =>
 (free_Run k x0.1 x0.2.1 x0.2.2.1 x0.2.2.2 [(1, 0, 1, 7, 3, 0, 9), (2, 0, 1, 4, 3, 0, 9)] 1).bind fun x1 =>
 (giroref11_Same k x1.2.2.2.2.2 [(2, 0, 1, 4, 3, 0, 9)]).bind fun x2 =>
 bif x2 then ((giroref11_Same k x1.2.2.2.2.1 [(1, 0, 1, 7, 3, 0, 9)]).bind fun x3 =>
  bif x3 then (bif decide ((x1.1.length : Int) = 3) then (bif boundOk 0 x1.1.length then some (decide ((x1.1.getD 0 (0, 0, 0)).1 = 1))
    else none)
   else some false)
  else some false)
 else some false



/-- giro/girolaw18.FreeKnown -/
def girolaw18_FreeKnown (k : Nat) (a0 : Int) : Option Bool :=
 (girolaw18_some k [4] 0).bind fun x0 =>
 bif decide (a0 = 0) then ((free_Run k x0.1 x0.2.1 x0.2.2.1 x0.2.2.2 [(1, 0, 1, 9, 2, 0, 9), (2, 0, 1, 2, 3, 0, 9), (3, 0, 2, 3, 3, 0, 9)] 1).bind fun x1 =>
  bif decide ((x1.2.2.2.2.2.length : Int) = 0) then ((girolaw18_known k).bind fun x2 =>
   some x2)
  else some false)
 else bif decide (a0 = 1) then ((free_Run k x0.1 x0.2.1 x0.2.2.1 x0.2.2.2 [(1, 0, 1, 9, 2, 5, 9), (2, 0, 1, 2, 3, 0, 9), (3, 0, 2, 3, 3, 0, 9)] 1).bind fun x3 =>
  (giroref11_Same k x3.2.2.2.2.2 [(2, 0, 1, 2, 3, 0, 9)]).bind fun x4 =>
  bif x4 then ((girolaw18_known k).bind fun x5 =>
   some x5)
  else some false)
 else bif decide (a0 = 2) then ((free_Run k x0.1 x0.2.1 x0.2.2.1 x0.2.2.2 [(2, 0, 1, 7, 3, 0, 9), (3, 0, 2, 3, 3, 0, 9)] 1).bind fun x6 =>
  (giroref11_Same k x6.2.2.2.2.2 [(3, 0, 2, 3, 3, 0, 9)]).bind fun x7 =>
  bif x7 then ((girolaw18_known k).bind fun x8 =>
   some x8)
  else some false)
 else bif decide (a0 = 3) then ((free_Run k x0.1 x0.2.1 x0.2.2.1 x0.2.2.2 [(2, 0, 1, 2, 3, 0, 9), (3, 1, 0, 3, 3, 0, 9)] 1).bind fun x9 =>
  bif boundOk 0 x0.1.length then (let y0 : List K2q := (x0.1.set 0 (2, (x0.1.getD 0 (0, 0, 0)).2))
   (free_Run k y0 x0.2.1 x0.2.2.1 x0.2.2.2 [(2, 0, 1, 4, 3, 0, 9), (3, 1, 0, 3, 3, 0, 9)] 1).bind fun x10 =>
   bif decide ((x9.2.2.2.2.2.length : Int) = 1) then (bif decide ((x10.2.2.2.2.1.length : Int) = 2) then (bif decide ((x10.2.2.2.2.2.length : Int) = 0) then ((girolaw18_known k).bind fun x11 =>
      some x11)
     else some false)
    else some false)
   else some false)
  else none)
 else bif decide (a0 = 4) then (bif boundOk 0 x0.1.length then (let y1 : List K2q := (x0.1.set 0 ((x0.1.getD 0 (0, 0, 0)).1, (x0.1.getD 0 (0, 0, 0)).2.1, 3))
   (free_Run k y1 x0.2.1 x0.2.2.1 x0.2.2.2 [(2, 0, 1, 2, 3, 0, 9), (3, 0, 2, 3, 3, 0, 9)] 1).bind fun x12 =>
   bif decide ((x12.2.2.2.2.2.length : Int) = 0) then ((girolaw18_known k).bind fun x13 =>
    some x13)
   else some false)
  else none)
 else some true

end Go.Ab.Gi
