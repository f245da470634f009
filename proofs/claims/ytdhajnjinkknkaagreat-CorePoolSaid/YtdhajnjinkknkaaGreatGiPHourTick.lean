/- part 31 -/
import Derived.Test.YtdhajnjinkknkaaGreatGiPHourL
set_option linter.unusedVariables false
set_option linter.unusedSimpArgs false
namespace Go.Ab.Gi
open Go.Ab
structure Ticked (t cl : Int) (B C : BT) (m m' : List PayT) (ov : Bool) (o : List OutT) : Prop where
 bk : BooksT C
 bl : C.1.length = B.1.length
 sub : List.Sublist m' m
 over : ov = decide (t + 1 = cl)
 none : ov = true → m' = []
 late : ov = false → ∀ p ∈ m', lateB (t + 1) p = false
 stays : ∀ p ∈ m', cntO p o = 0
 goes : ∀ p ∈ m, p ∉ m' → cntO p o = 1
 quiet : ∀ q : PayT, (∀ p ∈ m, p.1 ≠ q.1) → cntO q o = 0
 room : o.length + 2 * m'.length ≤ 2 * m.length + (if ov = true then 6 else 0)
theorem Dist.not_in {l m d : List PayT} (hd : Dist (d ++ m)) {p : PayT} (hp : p ∈ m) : ∀ q ∈ d, q.1 ≠ p.1 := fun q hq => (List.pairwise_append.1 hd).2.2 q hq p hp
end Go.Ab.Gi
