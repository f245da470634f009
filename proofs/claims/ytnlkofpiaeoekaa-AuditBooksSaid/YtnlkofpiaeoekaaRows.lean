/-
  No cell of these rows narrows 'for every input' (looked for: loops, veiled, ifaces, maps, wideKeys, modest, calm, conditions, laid).
  DERIVED. THE GIVEN ROWS OF THIS SEAT. 4 by the template 'for every input the law returns true; each argument reads behind the call as it read before'; 0 by the template 'total and deterministic' (their statements: YtnlkofpiaeoekaaTotals.lean).
  GIVEN WITH THE SEED: the statements are not yours to turn. If you find one false, say at which input.
  Laid BY PROGRAM, IN A SANDBOX (cutbox-rows.mjs): the forced cells as the released guide's own fill.sh prints them over the translation 98d0d46ab830fc57… (all of the seat's roots in one cut). By AI agents, Wed Nov 11 2026. No macro, syntax, notation, axiom, sorry.
-/
import Derived.Test.YtnlkofpiaeoekaaChecked
import GoSem.Claim
import GoSem.ClaimJoined
import GoSem.ClaimMapViews
import Derived.JoinedTies
import Derived.KernelRfl
namespace Go.Proofs.Ytnlkofpiaeoekaa
/- THE CELL 'sum', in the pinned program and in every row, IS THE sha256 OF THE DUMP (.gsa) THAT YtnlkofpiaeoekaaProg.lean LOADS. Nothing in Lean hashes anything: it is a label: what it is worth is what the hold of that sum in a sandbox is worth. -/
noncomputable def Try.pinned : Pinned := { name := "ytnlkofpiaeoekaa", sum := "98d0d46ab830fc579857f7c38782419081cd9fd22d7b0de4c798186f9eca4935", checked := Try.checked }
namespace Rows
def none {H : Type} : Left H := { results := [], args := [] }

/-- 'girolaw22.HourSolves': WHATEVER THE INPUT: true; the input reads as it did. -/
def hourSolvesSpec : ChangeSpec := { name := "hourSolves", fn := fun _ => fun
  | [d1, d2, d3] => { results := [.lit (.bool true)], args := [d1, d2, d3] }
  | _ => none }
def hourSolvesRow : OpenClaim := { program := "ytnlkofpiaeoekaa", sum := "98d0d46ab830fc579857f7c38782419081cd9fd22d7b0de4c798186f9eca4935", func := "giro/girolaw22.HourSolves", spec := "hourSolves", unfollowed := true, recurses := true, apart := false }
def HourSolvesSaid : Prop := hourSolvesRow.holds Try.pinned (OpenSpec.ofChange hourSolvesSpec)

/-- ITS FALSE NEIGHBOUR: 'it returns false'. Refute it at one input. -/
def hourSolvesWrong : ChangeSpec := { name := "hourSolves", fn := fun _ => fun
  | [d1, d2, d3] => { results := [.lit (.bool false)], args := [d1, d2, d3] }
  | _ => none }
def HourSolvesWrongFalsely : Prop := hourSolvesRow.holds Try.pinned (OpenSpec.ofChange hourSolvesWrong)

/-- 'girolaw27.AuditBooks': WHATEVER THE INPUT: true; the input reads as it did. -/
def auditBooksSpec : ChangeSpec := { name := "auditBooks", fn := fun _ => fun
  | [d1, d2] => { results := [.lit (.bool true)], args := [d1, d2] }
  | _ => none }
def auditBooksRow : OpenClaim := { program := "ytnlkofpiaeoekaa", sum := "98d0d46ab830fc579857f7c38782419081cd9fd22d7b0de4c798186f9eca4935", func := "giro/girolaw27.AuditBooks", spec := "auditBooks", inPlace := ["math/bits.Add64"], unfollowed := true, recurses := true, named := ["math/bits.divideError", "math/bits.overflowError"], apart := false }
def AuditBooksSaid : Prop := auditBooksRow.holds Try.pinned (OpenSpec.ofChange auditBooksSpec)

/-- ITS FALSE NEIGHBOUR: 'it returns false'. Refute it at one input. -/
def auditBooksWrong : ChangeSpec := { name := "auditBooks", fn := fun _ => fun
  | [d1, d2] => { results := [.lit (.bool false)], args := [d1, d2] }
  | _ => none }
def AuditBooksWrongFalsely : Prop := auditBooksRow.holds Try.pinned (OpenSpec.ofChange auditBooksWrong)

/-- 'girolaw27.AuditOnce': WHATEVER THE INPUT: true; the input reads as it did. -/
def auditOnceSpec : ChangeSpec := { name := "auditOnce", fn := fun _ => fun
  | [d1, d2] => { results := [.lit (.bool true)], args := [d1, d2] }
  | _ => none }
def auditOnceRow : OpenClaim := { program := "ytnlkofpiaeoekaa", sum := "98d0d46ab830fc579857f7c38782419081cd9fd22d7b0de4c798186f9eca4935", func := "giro/girolaw27.AuditOnce", spec := "auditOnce", inPlace := ["math/bits.Add64"], unfollowed := true, recurses := true, named := ["math/bits.divideError", "math/bits.overflowError"], apart := false }
def AuditOnceSaid : Prop := auditOnceRow.holds Try.pinned (OpenSpec.ofChange auditOnceSpec)

/-- ITS FALSE NEIGHBOUR: 'it returns false'. Refute it at one input. -/
def auditOnceWrong : ChangeSpec := { name := "auditOnce", fn := fun _ => fun
  | [d1, d2] => { results := [.lit (.bool false)], args := [d1, d2] }
  | _ => none }
def AuditOnceWrongFalsely : Prop := auditOnceRow.holds Try.pinned (OpenSpec.ofChange auditOnceWrong)

/-- 'girolaw27.AuditKnown': WHATEVER THE INPUT: true; the input reads as it did. -/
def auditKnownSpec : ChangeSpec := { name := "auditKnown", fn := fun _ => fun
  | [d] => { results := [.lit (.bool true)], args := [d] }
  | _ => none }
def auditKnownRow : OpenClaim := { program := "ytnlkofpiaeoekaa", sum := "98d0d46ab830fc579857f7c38782419081cd9fd22d7b0de4c798186f9eca4935", func := "giro/girolaw27.AuditKnown", spec := "auditKnown", inPlace := ["math/bits.Add64"], unfollowed := true, recurses := true, named := ["math/bits.divideError", "math/bits.overflowError"], apart := false }
def AuditKnownSaid : Prop := auditKnownRow.holds Try.pinned (OpenSpec.ofChange auditKnownSpec)

/-- ITS FALSE NEIGHBOUR: 'it returns false'. Refute it at one input. -/
def auditKnownWrong : ChangeSpec := { name := "auditKnown", fn := fun _ => fun
  | [d] => { results := [.lit (.bool false)], args := [d] }
  | _ => none }
def AuditKnownWrongFalsely : Prop := auditKnownRow.holds Try.pinned (OpenSpec.ofChange auditKnownWrong)

/- THE SECOND FORM. 'bulk': how many values and letters a reading holds, each counted each time it is reached (what is shared counts as often as it is met; a slice's spare places count too). A statement '..UptoSaid' is the law's where the arguments, and the package variables that the reading takes, are together of bulk at most 1048576: NARROWER than '..Said'. Prove '..Said' where nothing that the law and all that it calls make is longer than what came in: it says more and counts as full. Else prove '..UptoSaid'. A law counts once. -/
mutual
def uptoBulk {H : Type} : DataW H → Nat
  | .lit (.string bytes) => bytes.length + 1
  | .lit _ => 1
  | .nil => 1
  | .ptr d => uptoBulk d + 1
  | .slice elems spare => uptoBulkAll elems + uptoBulkAll spare + 1
  | .agg parts => uptoBulkAll parts + 1
  | .iface _ d => uptoBulk d + 1
  | .map entries => uptoBulkEntries entries + 1
  | .held _ => 1
def uptoBulkAll {H : Type} : List (DataW H) → Nat
  | [] => 0
  | d :: r => uptoBulk d + uptoBulkAll r
def uptoBulkEntries {H : Type} : List (Lit × DataW H) → Nat
  | [] => 0
  | x :: r => uptoBulkEntry x + uptoBulkEntries r
def uptoBulkEntry {H : Type} : Lit × DataW H → Nat
  | (.string bytes, d) => bytes.length + uptoBulk d + 1
  | (_, d) => uptoBulk d + 1
 end
def uptoSmall : (H : Type) → List (DataW H) → Bool := fun _ ds => decide (uptoBulkAll ds ≤ 1048576)
def OpenSpec.upto (s : _root_.Go.ChangeSpec) : _root_.Go.OpenSpec := { _root_.Go.OpenSpec.ofChange s with cond := some uptoSmall }

/-- 'girolaw22.HourSolves', WHERE WHAT IT READS IS OF BULK AT MOST 1048576: true; the input reads as it did. -/
def hourSolvesUptoRow : OpenClaim := { program := "ytnlkofpiaeoekaa", sum := "98d0d46ab830fc579857f7c38782419081cd9fd22d7b0de4c798186f9eca4935", func := "giro/girolaw22.HourSolves", spec := "hourSolves", unfollowed := true, recurses := true, apart := false, narrowed := true }
def HourSolvesUptoSaid : Prop := hourSolvesUptoRow.holds Try.pinned (OpenSpec.upto hourSolvesSpec)

/-- 'girolaw27.AuditBooks', WHERE WHAT IT READS IS OF BULK AT MOST 1048576: true; the input reads as it did. -/
def auditBooksUptoRow : OpenClaim := { program := "ytnlkofpiaeoekaa", sum := "98d0d46ab830fc579857f7c38782419081cd9fd22d7b0de4c798186f9eca4935", func := "giro/girolaw27.AuditBooks", spec := "auditBooks", inPlace := ["math/bits.Add64"], unfollowed := true, recurses := true, named := ["math/bits.divideError", "math/bits.overflowError"], apart := false, narrowed := true }
def AuditBooksUptoSaid : Prop := auditBooksUptoRow.holds Try.pinned (OpenSpec.upto auditBooksSpec)

/-- 'girolaw27.AuditOnce', WHERE WHAT IT READS IS OF BULK AT MOST 1048576: true; the input reads as it did. -/
def auditOnceUptoRow : OpenClaim := { program := "ytnlkofpiaeoekaa", sum := "98d0d46ab830fc579857f7c38782419081cd9fd22d7b0de4c798186f9eca4935", func := "giro/girolaw27.AuditOnce", spec := "auditOnce", inPlace := ["math/bits.Add64"], unfollowed := true, recurses := true, named := ["math/bits.divideError", "math/bits.overflowError"], apart := false, narrowed := true }
def AuditOnceUptoSaid : Prop := auditOnceUptoRow.holds Try.pinned (OpenSpec.upto auditOnceSpec)

/-- 'girolaw27.AuditKnown', WHERE WHAT IT READS IS OF BULK AT MOST 1048576: true; the input reads as it did. -/
def auditKnownUptoRow : OpenClaim := { program := "ytnlkofpiaeoekaa", sum := "98d0d46ab830fc579857f7c38782419081cd9fd22d7b0de4c798186f9eca4935", func := "giro/girolaw27.AuditKnown", spec := "auditKnown", inPlace := ["math/bits.Add64"], unfollowed := true, recurses := true, named := ["math/bits.divideError", "math/bits.overflowError"], apart := false, narrowed := true }
def AuditKnownUptoSaid : Prop := auditKnownUptoRow.holds Try.pinned (OpenSpec.upto auditKnownSpec)

end Rows
end Go.Proofs.Ytnlkofpiaeoekaa
