/- Words of the shallow functions. -/
import Derived.Test.YtpmkkfbnaohlhaaGiAb29
set_option linter.unusedVariables false
namespace Go.Ab

abbrev w64 (x : Int) : Int := IntKind.wrap .i64 x
abbrev band (k : IntKind) (x y : Int) : Int := bits2 (fun _ a b => a &&& b) k x y
abbrev bor (k : IntKind) (x y : Int) : Int := bits2 (fun _ a b => a ||| b) k x y
abbrev bxor (k : IntKind) (x y : Int) : Int := bits2 (fun _ a b => a ^^^ b) k x y
abbrev bandnot (k : IntKind) (x y : Int) : Int := bits2 (fun _ a b => a &&& ~~~b) k x y
abbrev shl (k : IntKind) (x y : Int) : Int := k.wrap (x * 2 ^ (min y.toNat k.bits))
abbrev shr (k : IntKind) (x y : Int) : Int := x.fdiv (2 ^ (min y.toNat k.bits))
abbrev roomB (n b : Nat) : Bool := Nat.ble (n * b) 70368744177664 && Nat.ble n 70368744177664
abbrev makeOk (l c : Int) (b : Nat) : Bool := decide (0 ≤ l) && decide (l ≤ c) && decide (c * (b : Int) ≤ 70368744177664) && decide (c ≤ 70368744177664)
abbrev maxI (lt : Bool) (x y : Int) : Int := bif lt then (bif decide (y < x) then y else x) else (bif decide (y > x) then y else x)

/-- Rows that are handed out, if they are all there. -/
abbrev pmatEnd (xs : List (List Int)) (n : Nat) : Option (List (List Int)) :=
  outM (.c .mat) (fun d => d.1) (.c (.osl 0 none)) ⟨fun _ => .undef, fun _ => some (.pmat 0 xs n)⟩

theorem pmatEnd_eq (xs : List (List Int)) (n : Nat) : pmatEnd xs n = bif Nat.beq xs.length n then some xs else none := by
  unfold pmatEnd outM outA RS.get RS.cells
  dsimp only [List.map, RC.isFro, frzW, ownIds, noDup, happly]
  cases h : Nat.beq xs.length n <;> simp [outRL, outR, h]

theorem eqT_mem {l : List Nat} {p : Nat → Bool} (hl : ∀ t ∈ l, p t = true) (t : Nat) (h : l.any (Nat.beq t) = true) : p t = true := by
  obtain ⟨x, hx, e⟩ := List.any_eq_true.1 h
  have : t = x := by simpa using e
  exact this ▸ hl x hx

theorem eqOK_none {P : Program} : EqOK P (fun _ => false) := fun t h => by cases h
end Go.Ab
