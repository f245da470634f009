/-
  No cell of these rows narrows 'for every input' (looked for: loops, veiled, ifaces, maps, wideKeys, modest, calm, conditions, laid).
  DERIVED. THE GIVEN ROWS OF THIS SEAT. 6 by the template 'for every input the law returns true; each argument reads behind the call as it read before'; 0 by the template 'total and deterministic' (their statements: YtifhjndcjphhbaaTotals.lean).
  GIVEN WITH THE SEED: the statements are not yours to turn. If you find one false, say at which input.
  Laid BY PROGRAM, IN A SANDBOX (cutbox-rows.mjs): the forced cells as the released guide's own fill.sh prints them over the translation 18cf8191ccdf71de… (all of the seat's roots in one cut). By AI agents, Wed Nov 11 2026. No macro, syntax, notation, axiom, sorry.
-/
import Derived.Test.YtifhjndcjphhbaaChecked
import GoSem.Claim
import GoSem.ClaimJoined
import GoSem.ClaimMapViews
import Derived.JoinedTies
import Derived.KernelRfl
namespace Go.Proofs.Ytifhjndcjphhbaa
/- THE CELL 'sum', in the pinned program and in every row, IS THE sha256 OF THE DUMP (.gsa) THAT YtifhjndcjphhbaaProg.lean LOADS. Nothing in Lean hashes anything: it is a label: what it is worth is what the hold of that sum in a sandbox is worth. -/
noncomputable def Try.pinned : Pinned := { name := "ytifhjndcjphhbaa", sum := "18cf8191ccdf71dedb181091d3078e09664ac6de3618438001aba0a627a41310", checked := Try.checked }
namespace Rows
def none {H : Type} : Left H := { results := [], args := [] }

/-- 'girolaw20.KnotRuns': WHATEVER THE INPUT: true; the input reads as it did. -/
def knotRunsSpec : ChangeSpec := { name := "knotRuns", fn := fun _ => fun
  | [d1, d2, d3, d4] => { results := [.lit (.bool true)], args := [d1, d2, d3, d4] }
  | _ => none }
def knotRunsRow : OpenClaim := { program := "ytifhjndcjphhbaa", sum := "18cf8191ccdf71dedb181091d3078e09664ac6de3618438001aba0a627a41310", func := "giro/girolaw20.KnotRuns", spec := "knotRuns", unfollowed := true, recurses := true, apart := false }
def KnotRunsSaid : Prop := knotRunsRow.holds Try.pinned (OpenSpec.ofChange knotRunsSpec)

/-- ITS FALSE NEIGHBOUR: 'it returns false'. Refute it at one input. -/
def knotRunsWrong : ChangeSpec := { name := "knotRuns", fn := fun _ => fun
  | [d1, d2, d3, d4] => { results := [.lit (.bool false)], args := [d1, d2, d3, d4] }
  | _ => none }
def KnotRunsWrongFalsely : Prop := knotRunsRow.holds Try.pinned (OpenSpec.ofChange knotRunsWrong)

/-- 'girolaw20.KnotAll': WHATEVER THE INPUT: true; the input reads as it did. -/
def knotAllSpec : ChangeSpec := { name := "knotAll", fn := fun _ => fun
  | [d1, d2, d3, d4] => { results := [.lit (.bool true)], args := [d1, d2, d3, d4] }
  | _ => none }
def knotAllRow : OpenClaim := { program := "ytifhjndcjphhbaa", sum := "18cf8191ccdf71dedb181091d3078e09664ac6de3618438001aba0a627a41310", func := "giro/girolaw20.KnotAll", spec := "knotAll", unfollowed := true, recurses := true, apart := false }
def KnotAllSaid : Prop := knotAllRow.holds Try.pinned (OpenSpec.ofChange knotAllSpec)

/-- ITS FALSE NEIGHBOUR: 'it returns false'. Refute it at one input. -/
def knotAllWrong : ChangeSpec := { name := "knotAll", fn := fun _ => fun
  | [d1, d2, d3, d4] => { results := [.lit (.bool false)], args := [d1, d2, d3, d4] }
  | _ => none }
def KnotAllWrongFalsely : Prop := knotAllRow.holds Try.pinned (OpenSpec.ofChange knotAllWrong)

/-- 'girolaw21.SettleEnds': WHATEVER THE INPUT: true; the input reads as it did. -/
def settleEndsSpec : ChangeSpec := { name := "settleEnds", fn := fun _ => fun
  | [d1, d2, d3, d4, d5] => { results := [.lit (.bool true)], args := [d1, d2, d3, d4, d5] }
  | _ => none }
def settleEndsRow : OpenClaim := { program := "ytifhjndcjphhbaa", sum := "18cf8191ccdf71dedb181091d3078e09664ac6de3618438001aba0a627a41310", func := "giro/girolaw21.SettleEnds", spec := "settleEnds", unfollowed := true, recurses := true, apart := false }
def SettleEndsSaid : Prop := settleEndsRow.holds Try.pinned (OpenSpec.ofChange settleEndsSpec)

/-- ITS FALSE NEIGHBOUR: 'it returns false'. Refute it at one input. -/
def settleEndsWrong : ChangeSpec := { name := "settleEnds", fn := fun _ => fun
  | [d1, d2, d3, d4, d5] => { results := [.lit (.bool false)], args := [d1, d2, d3, d4, d5] }
  | _ => none }
def SettleEndsWrongFalsely : Prop := settleEndsRow.holds Try.pinned (OpenSpec.ofChange settleEndsWrong)

/-- 'girolaw21.SettleAgain': WHATEVER THE INPUT: true; the input reads as it did. -/
def settleAgainSpec : ChangeSpec := { name := "settleAgain", fn := fun _ => fun
  | [d1, d2, d3, d4] => { results := [.lit (.bool true)], args := [d1, d2, d3, d4] }
  | _ => none }
def settleAgainRow : OpenClaim := { program := "ytifhjndcjphhbaa", sum := "18cf8191ccdf71dedb181091d3078e09664ac6de3618438001aba0a627a41310", func := "giro/girolaw21.SettleAgain", spec := "settleAgain", unfollowed := true, recurses := true, apart := false }
def SettleAgainSaid : Prop := settleAgainRow.holds Try.pinned (OpenSpec.ofChange settleAgainSpec)

/-- ITS FALSE NEIGHBOUR: 'it returns false'. Refute it at one input. -/
def settleAgainWrong : ChangeSpec := { name := "settleAgain", fn := fun _ => fun
  | [d1, d2, d3, d4] => { results := [.lit (.bool false)], args := [d1, d2, d3, d4] }
  | _ => none }
def SettleAgainWrongFalsely : Prop := settleAgainRow.holds Try.pinned (OpenSpec.ofChange settleAgainWrong)

/-- 'girolaw22.HourTold': WHATEVER THE INPUT: true; the input reads as it did. -/
def hourToldSpec : ChangeSpec := { name := "hourTold", fn := fun _ => fun
  | [d] => { results := [.lit (.bool true)], args := [d] }
  | _ => none }
def hourToldRow : OpenClaim := { program := "ytifhjndcjphhbaa", sum := "18cf8191ccdf71dedb181091d3078e09664ac6de3618438001aba0a627a41310", func := "giro/girolaw22.HourTold", spec := "hourTold", unfollowed := true, recurses := true, apart := false }
def HourToldSaid : Prop := hourToldRow.holds Try.pinned (OpenSpec.ofChange hourToldSpec)

/-- ITS FALSE NEIGHBOUR: 'it returns false'. Refute it at one input. -/
def hourToldWrong : ChangeSpec := { name := "hourTold", fn := fun _ => fun
  | [d] => { results := [.lit (.bool false)], args := [d] }
  | _ => none }
def HourToldWrongFalsely : Prop := hourToldRow.holds Try.pinned (OpenSpec.ofChange hourToldWrong)

/-- 'girolaw22.HourSolves': WHATEVER THE INPUT: true; the input reads as it did. -/
def hourSolvesSpec : ChangeSpec := { name := "hourSolves", fn := fun _ => fun
  | [d1, d2, d3] => { results := [.lit (.bool true)], args := [d1, d2, d3] }
  | _ => none }
def hourSolvesRow : OpenClaim := { program := "ytifhjndcjphhbaa", sum := "18cf8191ccdf71dedb181091d3078e09664ac6de3618438001aba0a627a41310", func := "giro/girolaw22.HourSolves", spec := "hourSolves", unfollowed := true, recurses := true, apart := false }
def HourSolvesSaid : Prop := hourSolvesRow.holds Try.pinned (OpenSpec.ofChange hourSolvesSpec)

/-- ITS FALSE NEIGHBOUR: 'it returns false'. Refute it at one input. -/
def hourSolvesWrong : ChangeSpec := { name := "hourSolves", fn := fun _ => fun
  | [d1, d2, d3] => { results := [.lit (.bool false)], args := [d1, d2, d3] }
  | _ => none }
def HourSolvesWrongFalsely : Prop := hourSolvesRow.holds Try.pinned (OpenSpec.ofChange hourSolvesWrong)

/- THE SECOND FORM. 'bulk': how many values and letters a reading holds, each counted each time it is reached (what is shared counts as often as it is met; a slice's spare places count too). A statement '..UptoSaid' is the law's where the arguments, and the package variables that the reading takes, are together of bulk at most 1048576: NARROWER than '..Said'. Prove '..Said' where nothing that the law and all that it calls make is longer than what came in: it says more and counts as full. Else prove '..UptoSaid'. A law counts once. -/
mutual
def uptoBulk {H : Type} : DataW H → Nat
  | .lit (.string bytes) => bytes.length + 1
  | .lit _ => 1
  | .nil => 1
  | .ptr d => uptoBulk d + 1
  | .slice elems spare => uptoBulkAll elems + uptoBulkAll spare + 1
  | .agg parts => uptoBulkAll parts + 1
  | .iface _ d => uptoBulk d + 1
  | .map entries => uptoBulkEntries entries + 1
  | .held _ => 1
def uptoBulkAll {H : Type} : List (DataW H) → Nat
  | [] => 0
  | d :: r => uptoBulk d + uptoBulkAll r
def uptoBulkEntries {H : Type} : List (Lit × DataW H) → Nat
  | [] => 0
  | x :: r => uptoBulkEntry x + uptoBulkEntries r
def uptoBulkEntry {H : Type} : Lit × DataW H → Nat
  | (.string bytes, d) => bytes.length + uptoBulk d + 1
  | (_, d) => uptoBulk d + 1
 end
def uptoSmall : (H : Type) → List (DataW H) → Bool := fun _ ds => decide (uptoBulkAll ds ≤ 1048576)
def OpenSpec.upto (s : _root_.Go.ChangeSpec) : _root_.Go.OpenSpec := { _root_.Go.OpenSpec.ofChange s with cond := some uptoSmall }

/-- 'girolaw20.KnotRuns', WHERE WHAT IT READS IS OF BULK AT MOST 1048576: true; the input reads as it did. -/
def knotRunsUptoRow : OpenClaim := { program := "ytifhjndcjphhbaa", sum := "18cf8191ccdf71dedb181091d3078e09664ac6de3618438001aba0a627a41310", func := "giro/girolaw20.KnotRuns", spec := "knotRuns", unfollowed := true, recurses := true, apart := false, narrowed := true }
def KnotRunsUptoSaid : Prop := knotRunsUptoRow.holds Try.pinned (OpenSpec.upto knotRunsSpec)

/-- 'girolaw20.KnotAll', WHERE WHAT IT READS IS OF BULK AT MOST 1048576: true; the input reads as it did. -/
def knotAllUptoRow : OpenClaim := { program := "ytifhjndcjphhbaa", sum := "18cf8191ccdf71dedb181091d3078e09664ac6de3618438001aba0a627a41310", func := "giro/girolaw20.KnotAll", spec := "knotAll", unfollowed := true, recurses := true, apart := false, narrowed := true }
def KnotAllUptoSaid : Prop := knotAllUptoRow.holds Try.pinned (OpenSpec.upto knotAllSpec)

/-- 'girolaw21.SettleEnds', WHERE WHAT IT READS IS OF BULK AT MOST 1048576: true; the input reads as it did. -/
def settleEndsUptoRow : OpenClaim := { program := "ytifhjndcjphhbaa", sum := "18cf8191ccdf71dedb181091d3078e09664ac6de3618438001aba0a627a41310", func := "giro/girolaw21.SettleEnds", spec := "settleEnds", unfollowed := true, recurses := true, apart := false, narrowed := true }
def SettleEndsUptoSaid : Prop := settleEndsUptoRow.holds Try.pinned (OpenSpec.upto settleEndsSpec)

/-- 'girolaw21.SettleAgain', WHERE WHAT IT READS IS OF BULK AT MOST 1048576: true; the input reads as it did. -/
def settleAgainUptoRow : OpenClaim := { program := "ytifhjndcjphhbaa", sum := "18cf8191ccdf71dedb181091d3078e09664ac6de3618438001aba0a627a41310", func := "giro/girolaw21.SettleAgain", spec := "settleAgain", unfollowed := true, recurses := true, apart := false, narrowed := true }
def SettleAgainUptoSaid : Prop := settleAgainUptoRow.holds Try.pinned (OpenSpec.upto settleAgainSpec)

/-- 'girolaw22.HourTold', WHERE WHAT IT READS IS OF BULK AT MOST 1048576: true; the input reads as it did. -/
def hourToldUptoRow : OpenClaim := { program := "ytifhjndcjphhbaa", sum := "18cf8191ccdf71dedb181091d3078e09664ac6de3618438001aba0a627a41310", func := "giro/girolaw22.HourTold", spec := "hourTold", unfollowed := true, recurses := true, apart := false, narrowed := true }
def HourToldUptoSaid : Prop := hourToldUptoRow.holds Try.pinned (OpenSpec.upto hourToldSpec)

/-- 'girolaw22.HourSolves', WHERE WHAT IT READS IS OF BULK AT MOST 1048576: true; the input reads as it did. -/
def hourSolvesUptoRow : OpenClaim := { program := "ytifhjndcjphhbaa", sum := "18cf8191ccdf71dedb181091d3078e09664ac6de3618438001aba0a627a41310", func := "giro/girolaw22.HourSolves", spec := "hourSolves", unfollowed := true, recurses := true, apart := false, narrowed := true }
def HourSolvesUptoSaid : Prop := hourSolvesUptoRow.holds Try.pinned (OpenSpec.upto hourSolvesSpec)

end Rows
end Go.Proofs.Ytifhjndcjphhbaa
