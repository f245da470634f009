/- part 43 -/
import Derived.Test.YtdhajnjinkknkaaGreatGiPCDo2
import Derived.Test.YtdhajnjinkknkaaGreatGiPSame11
import Derived.Test.YtdhajnjinkknkaaGreatGiPSum
import Derived.Test.YtdhajnjinkknkaaGreatGiPFreeR
set_option linter.unusedVariables false
set_option linter.unusedSimpArgs false
set_option maxRecDepth 100000
namespace Go.Ab.Gi
open Go.Ab
def startS (r : RulesT) : StR where
 t := 0
 B := (List.replicate r.1.toNat (0, 0, 0), List.replicate r.1.toNat (List.replicate r.1.toNat (-1)), List.replicate r.1.toNat (-1), List.replicate r.1.toNat (List.replicate r.1.toNat 0))
 pr := r.2.1.map Prod.fst
 ho := List.replicate r.1.toNat (List.replicate r.2.1.length 0)
 m := []
 ids := []
 to := 0
 ov := false
structure Ways (r : RulesT) : Prop where
 ok : RulesOK r
 inv : Inv r (startS r)
 new : core_New 1000 r = some (startS r).st
theorem waits_nil (n : Nat) : Waits n [] [] where
 dist := List.Pairwise.nil
 len := by decide
 sort := List.Pairwise.nil
 may := fun p h => absurd h List.not_mem_nil
 time := fun p h => absurd h List.not_mem_nil
 were := fun p h => absurd h List.not_mem_nil
 asc := List.Pairwise.nil
 pos := fun p h => absurd h List.not_mem_nil
 idl := by decide
def r0 : RulesT := (3, [(100, 1000), (7, 0)], 12, 20, 4)
def r1 : RulesT := (4, [(100, 1000), (7, 0)], 12, 20, 100)
def r2 : RulesT := (3, [], 20, 20, 4)
def r3 : RulesT := (3, [(100, 1000), (7, 0)], 0, 6, 1)
theorem laid2 {pr h : List Int} (h1 : pr = [100, 7]) (h2 : h = [0, 0]) : Laid [(100, 1000), (7, 0)] pr h := by
 subst h1; subst h2
 exact ⟨by decide, rfl, rfl, by decide, by decide, by decide⟩
theorem books_of {B : BT} (h : isB B.1 B.2.1 B.2.2.1 B.2.2.2 = true) : BooksT B := isB_iff.1 h
theorem ways0 : Ways r0 := ⟨⟨by decide, by decide, by decide, by decide, by decide, by decide, by decide⟩,
  { tk := by decide, bk := books_of (by kernel_rfl), n := rfl, hol := rfl,
    laid := fun i hi => by
      have e : ∀ i, i < (startS r0).B.1.length → (startS r0).ho.getD i [] = [0, 0] := by decide
      exact laid2 rfl (e i hi)
    cred := by decide, most := by decide, waits := waits_nil _, sum := by decide, tot := by decide, over := by decide, none := fun e => by cases e }, by kernel_rfl⟩
theorem known_is : girolaw23_known 1000 = some true := by kernel_rfl
end Go.Ab.Gi
