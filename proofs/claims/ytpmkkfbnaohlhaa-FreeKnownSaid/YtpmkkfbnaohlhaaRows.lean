/-
  No cell of these rows narrows 'for every input' (looked for: loops, veiled, ifaces, maps, wideKeys, modest, calm, conditions, laid).
  DERIVED. THE GIVEN ROWS OF THIS SEAT. 12 by the template 'for every input the law returns true; each argument reads behind the call as it read before'; 0 by the template 'total and deterministic' (their statements: YtpmkkfbnaohlhaaTotals.lean).
  GIVEN WITH THE SEED: the statements are not yours to turn. If you find one false, say at which input.
  Laid BY PROGRAM, IN A SANDBOX (cutbox-rows.mjs): the forced cells as the released guide's own fill.sh prints them over the translation 477fdb4f042c7ef0… (all of the seat's roots in one cut). By AI agents, Wed Nov 11 2026. No macro, syntax, notation, axiom, sorry.
-/
import Derived.Test.YtpmkkfbnaohlhaaChecked
import GoSem.Claim
import GoSem.ClaimJoined
import GoSem.ClaimMapViews
import Derived.JoinedTies
import Derived.KernelRfl
namespace Go.Proofs.Ytpmkkfbnaohlhaa
/- THE CELL 'sum', in the pinned program and in every row, IS THE sha256 OF THE DUMP (.gsa) THAT YtpmkkfbnaohlhaaProg.lean LOADS. Nothing in Lean hashes anything: it is a label: what it is worth is what the hold of that sum in a sandbox is worth. -/
noncomputable def Try.pinned : Pinned := { name := "ytpmkkfbnaohlhaa", sum := "477fdb4f042c7ef049a4f28c5bb1e31f508d938a1eafd785eb78ef129a9dfc77", checked := Try.checked }
namespace Rows
def none {H : Type} : Left H := { results := [], args := [] }

/-- 'girolaw10.LimZero': WHATEVER THE INPUT: true; the input reads as it did. -/
def limZeroSpec : ChangeSpec := { name := "limZero", fn := fun _ => fun
  | [d] => { results := [.lit (.bool true)], args := [d] }
  | _ => none }
def limZeroRow : OpenClaim := { program := "ytpmkkfbnaohlhaa", sum := "477fdb4f042c7ef049a4f28c5bb1e31f508d938a1eafd785eb78ef129a9dfc77", func := "giro/girolaw10.LimZero", spec := "limZero", unfollowed := true, recurses := true, apart := false }
def LimZeroSaid : Prop := limZeroRow.holds Try.pinned (OpenSpec.ofChange limZeroSpec)

/-- ITS FALSE NEIGHBOUR: 'it returns false'. Refute it at one input. -/
def limZeroWrong : ChangeSpec := { name := "limZero", fn := fun _ => fun
  | [d] => { results := [.lit (.bool false)], args := [d] }
  | _ => none }
def LimZeroWrongFalsely : Prop := limZeroRow.holds Try.pinned (OpenSpec.ofChange limZeroWrong)

/-- 'girolaw10.LimCopies': WHATEVER THE INPUT: true; the input reads as it did. -/
def limCopiesSpec : ChangeSpec := { name := "limCopies", fn := fun _ => fun
  | [d1, d2] => { results := [.lit (.bool true)], args := [d1, d2] }
  | _ => none }
def limCopiesRow : OpenClaim := { program := "ytpmkkfbnaohlhaa", sum := "477fdb4f042c7ef049a4f28c5bb1e31f508d938a1eafd785eb78ef129a9dfc77", func := "giro/girolaw10.LimCopies", spec := "limCopies", unfollowed := true, recurses := true, apart := false }
def LimCopiesSaid : Prop := limCopiesRow.holds Try.pinned (OpenSpec.ofChange limCopiesSpec)

/-- ITS FALSE NEIGHBOUR: 'it returns false'. Refute it at one input. -/
def limCopiesWrong : ChangeSpec := { name := "limCopies", fn := fun _ => fun
  | [d1, d2] => { results := [.lit (.bool false)], args := [d1, d2] }
  | _ => none }
def LimCopiesWrongFalsely : Prop := limCopiesRow.holds Try.pinned (OpenSpec.ofChange limCopiesWrong)

/-- 'girolaw10.LimSquares': WHATEVER THE INPUT: true; the input reads as it did. -/
def limSquaresSpec : ChangeSpec := { name := "limSquares", fn := fun _ => fun
  | [d1, d2, d3, d4] => { results := [.lit (.bool true)], args := [d1, d2, d3, d4] }
  | _ => none }
def limSquaresRow : OpenClaim := { program := "ytpmkkfbnaohlhaa", sum := "477fdb4f042c7ef049a4f28c5bb1e31f508d938a1eafd785eb78ef129a9dfc77", func := "giro/girolaw10.LimSquares", spec := "limSquares", unfollowed := true, recurses := true, apart := false }
def LimSquaresSaid : Prop := limSquaresRow.holds Try.pinned (OpenSpec.ofChange limSquaresSpec)

/-- ITS FALSE NEIGHBOUR: 'it returns false'. Refute it at one input. -/
def limSquaresWrong : ChangeSpec := { name := "limSquares", fn := fun _ => fun
  | [d1, d2, d3, d4] => { results := [.lit (.bool false)], args := [d1, d2, d3, d4] }
  | _ => none }
def LimSquaresWrongFalsely : Prop := limSquaresRow.holds Try.pinned (OpenSpec.ofChange limSquaresWrong)

/-- 'girolaw18.FreeBooks': WHATEVER THE INPUT: true; the input reads as it did. -/
def freeBooksSpec : ChangeSpec := { name := "freeBooks", fn := fun _ => fun
  | [d1, d2, d3] => { results := [.lit (.bool true)], args := [d1, d2, d3] }
  | _ => none }
def freeBooksRow : OpenClaim := { program := "ytpmkkfbnaohlhaa", sum := "477fdb4f042c7ef049a4f28c5bb1e31f508d938a1eafd785eb78ef129a9dfc77", func := "giro/girolaw18.FreeBooks", spec := "freeBooks", unfollowed := true, recurses := true, apart := false }
def FreeBooksSaid : Prop := freeBooksRow.holds Try.pinned (OpenSpec.ofChange freeBooksSpec)

/-- ITS FALSE NEIGHBOUR: 'it returns false'. Refute it at one input. -/
def freeBooksWrong : ChangeSpec := { name := "freeBooks", fn := fun _ => fun
  | [d1, d2, d3] => { results := [.lit (.bool false)], args := [d1, d2, d3] }
  | _ => none }
def FreeBooksWrongFalsely : Prop := freeBooksRow.holds Try.pinned (OpenSpec.ofChange freeBooksWrong)

/-- 'girolaw18.FreeEnds': WHATEVER THE INPUT: true; the input reads as it did. -/
def freeEndsSpec : ChangeSpec := { name := "freeEnds", fn := fun _ => fun
  | [d1, d2, d3, d4] => { results := [.lit (.bool true)], args := [d1, d2, d3, d4] }
  | _ => none }
def freeEndsRow : OpenClaim := { program := "ytpmkkfbnaohlhaa", sum := "477fdb4f042c7ef049a4f28c5bb1e31f508d938a1eafd785eb78ef129a9dfc77", func := "giro/girolaw18.FreeEnds", spec := "freeEnds", unfollowed := true, recurses := true, apart := false }
def FreeEndsSaid : Prop := freeEndsRow.holds Try.pinned (OpenSpec.ofChange freeEndsSpec)

/-- ITS FALSE NEIGHBOUR: 'it returns false'. Refute it at one input. -/
def freeEndsWrong : ChangeSpec := { name := "freeEnds", fn := fun _ => fun
  | [d1, d2, d3, d4] => { results := [.lit (.bool false)], args := [d1, d2, d3, d4] }
  | _ => none }
def FreeEndsWrongFalsely : Prop := freeEndsRow.holds Try.pinned (OpenSpec.ofChange freeEndsWrong)

/-- 'girolaw18.FreeKnown': WHATEVER THE INPUT: true; the input reads as it did. -/
def freeKnownSpec : ChangeSpec := { name := "freeKnown", fn := fun _ => fun
  | [d] => { results := [.lit (.bool true)], args := [d] }
  | _ => none }
def freeKnownRow : OpenClaim := { program := "ytpmkkfbnaohlhaa", sum := "477fdb4f042c7ef049a4f28c5bb1e31f508d938a1eafd785eb78ef129a9dfc77", func := "giro/girolaw18.FreeKnown", spec := "freeKnown", unfollowed := true, recurses := true, apart := false }
def FreeKnownSaid : Prop := freeKnownRow.holds Try.pinned (OpenSpec.ofChange freeKnownSpec)

/-- ITS FALSE NEIGHBOUR: 'it returns false'. Refute it at one input. -/
def freeKnownWrong : ChangeSpec := { name := "freeKnown", fn := fun _ => fun
  | [d] => { results := [.lit (.bool false)], args := [d] }
  | _ => none }
def FreeKnownWrongFalsely : Prop := freeKnownRow.holds Try.pinned (OpenSpec.ofChange freeKnownWrong)

/-- 'girolaw18.FreeRuns': WHATEVER THE INPUT: true; the input reads as it did. -/
def freeRunsSpec : ChangeSpec := { name := "freeRuns", fn := fun _ => fun
  | [d1, d2, d3, d4] => { results := [.lit (.bool true)], args := [d1, d2, d3, d4] }
  | _ => none }
def freeRunsRow : OpenClaim := { program := "ytpmkkfbnaohlhaa", sum := "477fdb4f042c7ef049a4f28c5bb1e31f508d938a1eafd785eb78ef129a9dfc77", func := "giro/girolaw18.FreeRuns", spec := "freeRuns", unfollowed := true, recurses := true, apart := false }
def FreeRunsSaid : Prop := freeRunsRow.holds Try.pinned (OpenSpec.ofChange freeRunsSpec)

/-- ITS FALSE NEIGHBOUR: 'it returns false'. Refute it at one input. -/
def freeRunsWrong : ChangeSpec := { name := "freeRuns", fn := fun _ => fun
  | [d1, d2, d3, d4] => { results := [.lit (.bool false)], args := [d1, d2, d3, d4] }
  | _ => none }
def FreeRunsWrongFalsely : Prop := freeRunsRow.holds Try.pinned (OpenSpec.ofChange freeRunsWrong)

/-- 'girolaw19.PairEnds': WHATEVER THE INPUT: true; the input reads as it did. -/
def pairEndsSpec : ChangeSpec := { name := "pairEnds", fn := fun _ => fun
  | [d1, d2, d3, d4] => { results := [.lit (.bool true)], args := [d1, d2, d3, d4] }
  | _ => none }
def pairEndsRow : OpenClaim := { program := "ytpmkkfbnaohlhaa", sum := "477fdb4f042c7ef049a4f28c5bb1e31f508d938a1eafd785eb78ef129a9dfc77", func := "giro/girolaw19.PairEnds", spec := "pairEnds", unfollowed := true, recurses := true, apart := false }
def PairEndsSaid : Prop := pairEndsRow.holds Try.pinned (OpenSpec.ofChange pairEndsSpec)

/-- ITS FALSE NEIGHBOUR: 'it returns false'. Refute it at one input. -/
def pairEndsWrong : ChangeSpec := { name := "pairEnds", fn := fun _ => fun
  | [d1, d2, d3, d4] => { results := [.lit (.bool false)], args := [d1, d2, d3, d4] }
  | _ => none }
def PairEndsWrongFalsely : Prop := pairEndsRow.holds Try.pinned (OpenSpec.ofChange pairEndsWrong)

/-- 'girolaw19.PairTwo': WHATEVER THE INPUT: true; the input reads as it did. -/
def pairTwoSpec : ChangeSpec := { name := "pairTwo", fn := fun _ => fun
  | [d1, d2, d3, d4] => { results := [.lit (.bool true)], args := [d1, d2, d3, d4] }
  | _ => none }
def pairTwoRow : OpenClaim := { program := "ytpmkkfbnaohlhaa", sum := "477fdb4f042c7ef049a4f28c5bb1e31f508d938a1eafd785eb78ef129a9dfc77", func := "giro/girolaw19.PairTwo", spec := "pairTwo", unfollowed := true, recurses := true, apart := false }
def PairTwoSaid : Prop := pairTwoRow.holds Try.pinned (OpenSpec.ofChange pairTwoSpec)

/-- ITS FALSE NEIGHBOUR: 'it returns false'. Refute it at one input. -/
def pairTwoWrong : ChangeSpec := { name := "pairTwo", fn := fun _ => fun
  | [d1, d2, d3, d4] => { results := [.lit (.bool false)], args := [d1, d2, d3, d4] }
  | _ => none }
def PairTwoWrongFalsely : Prop := pairTwoRow.holds Try.pinned (OpenSpec.ofChange pairTwoWrong)

/-- 'girolaw19.PairKnown': WHATEVER THE INPUT: true; the input reads as it did. -/
def pairKnownSpec : ChangeSpec := { name := "pairKnown", fn := fun _ => fun
  | [d] => { results := [.lit (.bool true)], args := [d] }
  | _ => none }
def pairKnownRow : OpenClaim := { program := "ytpmkkfbnaohlhaa", sum := "477fdb4f042c7ef049a4f28c5bb1e31f508d938a1eafd785eb78ef129a9dfc77", func := "giro/girolaw19.PairKnown", spec := "pairKnown", unfollowed := true, recurses := true, apart := false }
def PairKnownSaid : Prop := pairKnownRow.holds Try.pinned (OpenSpec.ofChange pairKnownSpec)

/-- ITS FALSE NEIGHBOUR: 'it returns false'. Refute it at one input. -/
def pairKnownWrong : ChangeSpec := { name := "pairKnown", fn := fun _ => fun
  | [d] => { results := [.lit (.bool false)], args := [d] }
  | _ => none }
def PairKnownWrongFalsely : Prop := pairKnownRow.holds Try.pinned (OpenSpec.ofChange pairKnownWrong)

/-- 'girolaw19.PairRuns': WHATEVER THE INPUT: true; the input reads as it did. -/
def pairRunsSpec : ChangeSpec := { name := "pairRuns", fn := fun _ => fun
  | [d1, d2, d3, d4] => { results := [.lit (.bool true)], args := [d1, d2, d3, d4] }
  | _ => none }
def pairRunsRow : OpenClaim := { program := "ytpmkkfbnaohlhaa", sum := "477fdb4f042c7ef049a4f28c5bb1e31f508d938a1eafd785eb78ef129a9dfc77", func := "giro/girolaw19.PairRuns", spec := "pairRuns", unfollowed := true, recurses := true, apart := false }
def PairRunsSaid : Prop := pairRunsRow.holds Try.pinned (OpenSpec.ofChange pairRunsSpec)

/-- ITS FALSE NEIGHBOUR: 'it returns false'. Refute it at one input. -/
def pairRunsWrong : ChangeSpec := { name := "pairRuns", fn := fun _ => fun
  | [d1, d2, d3, d4] => { results := [.lit (.bool false)], args := [d1, d2, d3, d4] }
  | _ => none }
def PairRunsWrongFalsely : Prop := pairRunsRow.holds Try.pinned (OpenSpec.ofChange pairRunsWrong)

/-- 'girolaw21.SettleKnown': WHATEVER THE INPUT: true; the input reads as it did. -/
def settleKnownSpec : ChangeSpec := { name := "settleKnown", fn := fun _ => fun
  | [d] => { results := [.lit (.bool true)], args := [d] }
  | _ => none }
def settleKnownRow : OpenClaim := { program := "ytpmkkfbnaohlhaa", sum := "477fdb4f042c7ef049a4f28c5bb1e31f508d938a1eafd785eb78ef129a9dfc77", func := "giro/girolaw21.SettleKnown", spec := "settleKnown", unfollowed := true, recurses := true, apart := false }
def SettleKnownSaid : Prop := settleKnownRow.holds Try.pinned (OpenSpec.ofChange settleKnownSpec)

/-- ITS FALSE NEIGHBOUR: 'it returns false'. Refute it at one input. -/
def settleKnownWrong : ChangeSpec := { name := "settleKnown", fn := fun _ => fun
  | [d] => { results := [.lit (.bool false)], args := [d] }
  | _ => none }
def SettleKnownWrongFalsely : Prop := settleKnownRow.holds Try.pinned (OpenSpec.ofChange settleKnownWrong)

/- THE SECOND FORM. 'bulk': how many values and letters a reading holds, each counted each time it is reached (what is shared counts as often as it is met; a slice's spare places count too). A statement '..UptoSaid' is the law's where the arguments, and the package variables that the reading takes, are together of bulk at most 1048576: NARROWER than '..Said'. Prove '..Said' where nothing that the law and all that it calls make is longer than what came in: it says more and counts as full. Else prove '..UptoSaid'. A law counts once. -/
mutual
def uptoBulk {H : Type} : DataW H → Nat
  | .lit (.string bytes) => bytes.length + 1
  | .lit _ => 1
  | .nil => 1
  | .ptr d => uptoBulk d + 1
  | .slice elems spare => uptoBulkAll elems + uptoBulkAll spare + 1
  | .agg parts => uptoBulkAll parts + 1
  | .iface _ d => uptoBulk d + 1
  | .map entries => uptoBulkEntries entries + 1
  | .held _ => 1
def uptoBulkAll {H : Type} : List (DataW H) → Nat
  | [] => 0
  | d :: r => uptoBulk d + uptoBulkAll r
def uptoBulkEntries {H : Type} : List (Lit × DataW H) → Nat
  | [] => 0
  | x :: r => uptoBulkEntry x + uptoBulkEntries r
def uptoBulkEntry {H : Type} : Lit × DataW H → Nat
  | (.string bytes, d) => bytes.length + uptoBulk d + 1
  | (_, d) => uptoBulk d + 1
 end
def uptoSmall : (H : Type) → List (DataW H) → Bool := fun _ ds => decide (uptoBulkAll ds ≤ 1048576)
def OpenSpec.upto (s : _root_.Go.ChangeSpec) : _root_.Go.OpenSpec := { _root_.Go.OpenSpec.ofChange s with cond := some uptoSmall }

/-- 'girolaw10.LimZero', WHERE WHAT IT READS IS OF BULK AT MOST 1048576: true; the input reads as it did. -/
def limZeroUptoRow : OpenClaim := { program := "ytpmkkfbnaohlhaa", sum := "477fdb4f042c7ef049a4f28c5bb1e31f508d938a1eafd785eb78ef129a9dfc77", func := "giro/girolaw10.LimZero", spec := "limZero", unfollowed := true, recurses := true, apart := false, narrowed := true }
def LimZeroUptoSaid : Prop := limZeroUptoRow.holds Try.pinned (OpenSpec.upto limZeroSpec)

/-- 'girolaw10.LimCopies', WHERE WHAT IT READS IS OF BULK AT MOST 1048576: true; the input reads as it did. -/
def limCopiesUptoRow : OpenClaim := { program := "ytpmkkfbnaohlhaa", sum := "477fdb4f042c7ef049a4f28c5bb1e31f508d938a1eafd785eb78ef129a9dfc77", func := "giro/girolaw10.LimCopies", spec := "limCopies", unfollowed := true, recurses := true, apart := false, narrowed := true }
def LimCopiesUptoSaid : Prop := limCopiesUptoRow.holds Try.pinned (OpenSpec.upto limCopiesSpec)

/-- 'girolaw10.LimSquares', WHERE WHAT IT READS IS OF BULK AT MOST 1048576: true; the input reads as it did. -/
def limSquaresUptoRow : OpenClaim := { program := "ytpmkkfbnaohlhaa", sum := "477fdb4f042c7ef049a4f28c5bb1e31f508d938a1eafd785eb78ef129a9dfc77", func := "giro/girolaw10.LimSquares", spec := "limSquares", unfollowed := true, recurses := true, apart := false, narrowed := true }
def LimSquaresUptoSaid : Prop := limSquaresUptoRow.holds Try.pinned (OpenSpec.upto limSquaresSpec)

/-- 'girolaw18.FreeBooks', WHERE WHAT IT READS IS OF BULK AT MOST 1048576: true; the input reads as it did. -/
def freeBooksUptoRow : OpenClaim := { program := "ytpmkkfbnaohlhaa", sum := "477fdb4f042c7ef049a4f28c5bb1e31f508d938a1eafd785eb78ef129a9dfc77", func := "giro/girolaw18.FreeBooks", spec := "freeBooks", unfollowed := true, recurses := true, apart := false, narrowed := true }
def FreeBooksUptoSaid : Prop := freeBooksUptoRow.holds Try.pinned (OpenSpec.upto freeBooksSpec)

/-- 'girolaw18.FreeEnds', WHERE WHAT IT READS IS OF BULK AT MOST 1048576: true; the input reads as it did. -/
def freeEndsUptoRow : OpenClaim := { program := "ytpmkkfbnaohlhaa", sum := "477fdb4f042c7ef049a4f28c5bb1e31f508d938a1eafd785eb78ef129a9dfc77", func := "giro/girolaw18.FreeEnds", spec := "freeEnds", unfollowed := true, recurses := true, apart := false, narrowed := true }
def FreeEndsUptoSaid : Prop := freeEndsUptoRow.holds Try.pinned (OpenSpec.upto freeEndsSpec)

/-- 'girolaw18.FreeKnown', WHERE WHAT IT READS IS OF BULK AT MOST 1048576: true; the input reads as it did. -/
def freeKnownUptoRow : OpenClaim := { program := "ytpmkkfbnaohlhaa", sum := "477fdb4f042c7ef049a4f28c5bb1e31f508d938a1eafd785eb78ef129a9dfc77", func := "giro/girolaw18.FreeKnown", spec := "freeKnown", unfollowed := true, recurses := true, apart := false, narrowed := true }
def FreeKnownUptoSaid : Prop := freeKnownUptoRow.holds Try.pinned (OpenSpec.upto freeKnownSpec)

/-- 'girolaw18.FreeRuns', WHERE WHAT IT READS IS OF BULK AT MOST 1048576: true; the input reads as it did. -/
def freeRunsUptoRow : OpenClaim := { program := "ytpmkkfbnaohlhaa", sum := "477fdb4f042c7ef049a4f28c5bb1e31f508d938a1eafd785eb78ef129a9dfc77", func := "giro/girolaw18.FreeRuns", spec := "freeRuns", unfollowed := true, recurses := true, apart := false, narrowed := true }
def FreeRunsUptoSaid : Prop := freeRunsUptoRow.holds Try.pinned (OpenSpec.upto freeRunsSpec)

/-- 'girolaw19.PairEnds', WHERE WHAT IT READS IS OF BULK AT MOST 1048576: true; the input reads as it did. -/
def pairEndsUptoRow : OpenClaim := { program := "ytpmkkfbnaohlhaa", sum := "477fdb4f042c7ef049a4f28c5bb1e31f508d938a1eafd785eb78ef129a9dfc77", func := "giro/girolaw19.PairEnds", spec := "pairEnds", unfollowed := true, recurses := true, apart := false, narrowed := true }
def PairEndsUptoSaid : Prop := pairEndsUptoRow.holds Try.pinned (OpenSpec.upto pairEndsSpec)

/-- 'girolaw19.PairTwo', WHERE WHAT IT READS IS OF BULK AT MOST 1048576: true; the input reads as it did. -/
def pairTwoUptoRow : OpenClaim := { program := "ytpmkkfbnaohlhaa", sum := "477fdb4f042c7ef049a4f28c5bb1e31f508d938a1eafd785eb78ef129a9dfc77", func := "giro/girolaw19.PairTwo", spec := "pairTwo", unfollowed := true, recurses := true, apart := false, narrowed := true }
def PairTwoUptoSaid : Prop := pairTwoUptoRow.holds Try.pinned (OpenSpec.upto pairTwoSpec)

/-- 'girolaw19.PairKnown', WHERE WHAT IT READS IS OF BULK AT MOST 1048576: true; the input reads as it did. -/
def pairKnownUptoRow : OpenClaim := { program := "ytpmkkfbnaohlhaa", sum := "477fdb4f042c7ef049a4f28c5bb1e31f508d938a1eafd785eb78ef129a9dfc77", func := "giro/girolaw19.PairKnown", spec := "pairKnown", unfollowed := true, recurses := true, apart := false, narrowed := true }
def PairKnownUptoSaid : Prop := pairKnownUptoRow.holds Try.pinned (OpenSpec.upto pairKnownSpec)

/-- 'girolaw19.PairRuns', WHERE WHAT IT READS IS OF BULK AT MOST 1048576: true; the input reads as it did. -/
def pairRunsUptoRow : OpenClaim := { program := "ytpmkkfbnaohlhaa", sum := "477fdb4f042c7ef049a4f28c5bb1e31f508d938a1eafd785eb78ef129a9dfc77", func := "giro/girolaw19.PairRuns", spec := "pairRuns", unfollowed := true, recurses := true, apart := false, narrowed := true }
def PairRunsUptoSaid : Prop := pairRunsUptoRow.holds Try.pinned (OpenSpec.upto pairRunsSpec)

/-- 'girolaw21.SettleKnown', WHERE WHAT IT READS IS OF BULK AT MOST 1048576: true; the input reads as it did. -/
def settleKnownUptoRow : OpenClaim := { program := "ytpmkkfbnaohlhaa", sum := "477fdb4f042c7ef049a4f28c5bb1e31f508d938a1eafd785eb78ef129a9dfc77", func := "giro/girolaw21.SettleKnown", spec := "settleKnown", unfollowed := true, recurses := true, apart := false, narrowed := true }
def SettleKnownUptoSaid : Prop := settleKnownUptoRow.holds Try.pinned (OpenSpec.upto settleKnownSpec)

end Rows
end Go.Proofs.Ytpmkkfbnaohlhaa
