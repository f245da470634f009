/- part 42 -/
import Derived.Test.YtdhajnjinkknkaaGreatGiPCDo2T
set_option linter.unusedVariables false
set_option linter.unusedSimpArgs false
set_option maxRecDepth 100000
namespace Go.Ab.Gi
open Go.Ab
def startS (r : RulesT) : StR where
 t := 0
 B := (List.replicate r.1.toNat (0, 0, 0), List.replicate r.1.toNat (List.replicate r.1.toNat (-1)), List.replicate r.1.toNat (-1), List.replicate r.1.toNat (List.replicate r.1.toNat 0))
 pr := r.2.1.map Prod.fst
 ho := List.replicate r.1.toNat (List.replicate r.2.1.length 0)
 m := []
 ids := []
 to := 0
 ov := false
structure Ways (r : RulesT) : Prop where
 ok : RulesOK r
 inv : Inv r (startS r)
 cl : r.2.2.2.1 ≤ 20
 new : core_New 20000 r = some (startS r).st
theorem waits_nil (n : Nat) : Waits n [] [] where
 dist := List.Pairwise.nil
 len := by decide
 sort := List.Pairwise.nil
 may := fun p h => absurd h List.not_mem_nil
 time := fun p h => absurd h List.not_mem_nil
 were := fun p h => absurd h List.not_mem_nil
 asc := List.Pairwise.nil
 pos := fun p h => absurd h List.not_mem_nil
 idl := by decide
def r0 : RulesT := (3, [(100, 1000), (7, 0)], 12, 20, 4)
def r1 : RulesT := (4, [(100, 1000), (7, 0)], 12, 20, 100)
def r2 : RulesT := (3, [], 20, 20, 4)
def r3 : RulesT := (3, [(100, 1000), (7, 0)], 0, 6, 1)
theorem laid2 {pr h : List Int} (h1 : pr = [100, 7]) (h2 : h = [0, 0]) : Laid [(100, 1000), (7, 0)] pr h := by
 subst h1; subst h2
 exact ⟨by decide, rfl, rfl, by decide, by decide, by decide⟩
theorem books_of {B : BT} (h : isB B.1 B.2.1 B.2.2.1 B.2.2.2 = true) : BooksT B := isB_iff.1 h
theorem ways0 : Ways r0 := ⟨⟨by decide, by decide, by decide, by decide, by decide, by decide, by decide⟩,
  { tk := by decide, bk := books_of (by kernel_rfl), n := rfl, hol := rfl,
    laid := fun i hi => by
      have e : ∀ i, i < (startS r0).B.1.length → (startS r0).ho.getD i [] = [0, 0] := by decide
      exact laid2 rfl (e i hi)
    cred := by decide, most := by decide, waits := waits_nil _, sum := by decide, tot := by decide, over := by decide, none := fun e => by cases e }, by decide, by kernel_rfl⟩
theorem ways1 : Ways r1 := ⟨⟨by decide, by decide, by decide, by decide, by decide, by decide, by decide⟩,
  { tk := by decide, bk := books_of (by kernel_rfl), n := rfl, hol := rfl,
    laid := fun i hi => by
      have e : ∀ i, i < (startS r1).B.1.length → (startS r1).ho.getD i [] = [0, 0] := by decide
      exact laid2 rfl (e i hi)
    cred := by decide, most := by decide, waits := waits_nil _, sum := by decide, tot := by decide, over := by decide, none := fun e => by cases e }, by decide, by kernel_rfl⟩
theorem ways2 : Ways r2 := ⟨⟨by decide, by decide, by decide, by decide, by decide, by decide, by decide⟩,
  { tk := by decide, bk := books_of (by kernel_rfl), n := rfl, hol := rfl,
    laid := fun i hi => by
      have e : ∀ i, i < (startS r2).B.1.length → (startS r2).ho.getD i [] = [] := by decide
      rw [e i hi]
      exact ⟨by decide, rfl, rfl, by decide, by decide, by decide⟩
    cred := by decide, most := by decide, waits := waits_nil _, sum := by decide, tot := by decide, over := by decide, none := fun e => by cases e }, by decide, by kernel_rfl⟩
theorem ways3 : Ways r3 := ⟨⟨by decide, by decide, by decide, by decide, by decide, by decide, by decide⟩,
  { tk := by decide, bk := books_of (by kernel_rfl), n := rfl, hol := rfl,
    laid := fun i hi => by
      have e : ∀ i, i < (startS r3).B.1.length → (startS r3).ho.getD i [] = [0, 0] := by decide
      exact laid2 rfl (e i hi)
    cred := by decide, most := by decide, waits := waits_nil _, sum := by decide, tot := by decide, over := by decide, none := fun e => by cases e }, by decide, by kernel_rfl⟩
theorem way_is (a : Int) : ∃ r, girolaw27_rules 20000 a = some r ∧ Ways r := by
 unfold girolaw27_rules
 cases decide (band .i64 a 3 = 1) with
 | true => exact ⟨r1, rfl, ways1⟩
 | false =>
  cases decide (band .i64 a 3 = 2) with
  | true => exact ⟨r2, rfl, ways2⟩
  | false =>
   cases decide (band .i64 a 3 = 3) with
   | true => exact ⟨r3, rfl, ways3⟩
   | false => exact ⟨r0, rfl, ways0⟩
theorem known_is : girolaw27_known 20000 = some true := by kernel_rfl
end Go.Ab.Gi
