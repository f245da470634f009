/-
  No cell of these rows narrows 'for every input' (looked for: loops, veiled, ifaces, maps, wideKeys, modest, calm, conditions, laid).
  DERIVED. THE GIVEN ROWS OF THIS SEAT. 4 by the template 'for every input the law returns true; each argument reads behind the call as it read before'; 0 by the template 'total and deterministic' (their statements: YtbejmoaalcabdaaGreatTotals.lean).
  GIVEN WITH THE SEED: the statements are not yours to turn. If you find one false, say at which input.
  Laid BY PROGRAM, IN A SANDBOX (cutbox-rows.mjs): the forced cells as the released guide's own fill.sh prints them over the translation afbe03cafabd266c… (all of the seat's roots in one cut). By AI agents, Wed Nov 11 2026. No macro, syntax, notation, axiom, sorry.
-/
import Derived.Test.YtbejmoaalcabdaaGreatChecked
import GoSem.Claim
import GoSem.ClaimJoined
import GoSem.ClaimMapViews
import Derived.JoinedTies
import Derived.KernelRfl
namespace Go.Proofs.YtbejmoaalcabdaaGreat
/- THE CELL 'sum', in the pinned program and in every row, IS THE sha256 OF THE DUMP (.gsa) THAT YtbejmoaalcabdaaGreatProg.lean LOADS. Nothing in Lean hashes anything: it is a label: what it is worth is what the hold of that sum in a sandbox is worth. -/
noncomputable def Tryz.pinned : Pinned := { name := "ytbejmoaalcabdaagreat", sum := "afbe03cafabd266c4656c2646b0aaae2da6ff5fa2ef5ca0aee12836625ad8134", checked := Tryz.checked }
namespace Rows
def none {H : Type} : Left H := { results := [], args := [] }

/-- 'girotop.TopTwin': WHATEVER THE INPUT: true; the input reads as it did. -/
def topTwinSpec : ChangeSpec := { name := "topTwin", fn := fun _ => fun
  | [d1, d2, d3] => { results := [.lit (.bool true)], args := [d1, d2, d3] }
  | _ => none }
def topTwinRow : OpenClaim := { program := "ytbejmoaalcabdaagreat", sum := "afbe03cafabd266c4656c2646b0aaae2da6ff5fa2ef5ca0aee12836625ad8134", func := "giro/girotop.TopTwin", spec := "topTwin", inPlace := ["math/bits.Add64", "slices.overlaps[int64]", "slices.overlaps[giro/api.Pay]"], unfollowed := true, recurses := true, named := ["math/bits.divideError", "math/bits.overflowError"], apart := false }
def TopTwinSaid : Prop := topTwinRow.holds Tryz.pinned (OpenSpec.ofChange topTwinSpec)

/-- ITS FALSE NEIGHBOUR: 'it returns false'. Refute it at one input. -/
def topTwinWrong : ChangeSpec := { name := "topTwin", fn := fun _ => fun
  | [d1, d2, d3] => { results := [.lit (.bool false)], args := [d1, d2, d3] }
  | _ => none }
def TopTwinWrongFalsely : Prop := topTwinRow.holds Tryz.pinned (OpenSpec.ofChange topTwinWrong)

/-- 'girolaw26.PlayAsked': WHATEVER THE INPUT: true; the input reads as it did. -/
def playAskedSpec : ChangeSpec := { name := "playAsked", fn := fun _ => fun
  | [d1, d2, d3] => { results := [.lit (.bool true)], args := [d1, d2, d3] }
  | _ => none }
def playAskedRow : OpenClaim := { program := "ytbejmoaalcabdaagreat", sum := "afbe03cafabd266c4656c2646b0aaae2da6ff5fa2ef5ca0aee12836625ad8134", func := "giro/girolaw26.PlayAsked", spec := "playAsked", inPlace := ["math/bits.Add64", "slices.overlaps[int64]", "slices.overlaps[giro/api.Pay]"], unfollowed := true, recurses := true, named := ["math/bits.divideError", "math/bits.overflowError"], apart := false }
def PlayAskedSaid : Prop := playAskedRow.holds Tryz.pinned (OpenSpec.ofChange playAskedSpec)

/-- ITS FALSE NEIGHBOUR: 'it returns false'. Refute it at one input. -/
def playAskedWrong : ChangeSpec := { name := "playAsked", fn := fun _ => fun
  | [d1, d2, d3] => { results := [.lit (.bool false)], args := [d1, d2, d3] }
  | _ => none }
def PlayAskedWrongFalsely : Prop := playAskedRow.holds Tryz.pinned (OpenSpec.ofChange playAskedWrong)

/-- 'girotop.TopFloors': WHATEVER THE INPUT: true; the input reads as it did. -/
def topFloorsSpec : ChangeSpec := { name := "topFloors", fn := fun _ => fun
  | [d1, d2] => { results := [.lit (.bool true)], args := [d1, d2] }
  | _ => none }
def topFloorsRow : OpenClaim := { program := "ytbejmoaalcabdaagreat", sum := "afbe03cafabd266c4656c2646b0aaae2da6ff5fa2ef5ca0aee12836625ad8134", func := "giro/girotop.TopFloors", spec := "topFloors", inPlace := ["slices.overlaps[int64]", "slices.overlaps[giro/api.Pay]", "math/bits.Add64"], unfollowed := true, recurses := true, named := ["math/bits.divideError", "math/bits.overflowError"], apart := false }
def TopFloorsSaid : Prop := topFloorsRow.holds Tryz.pinned (OpenSpec.ofChange topFloorsSpec)

/-- ITS FALSE NEIGHBOUR: 'it returns false'. Refute it at one input. -/
def topFloorsWrong : ChangeSpec := { name := "topFloors", fn := fun _ => fun
  | [d1, d2] => { results := [.lit (.bool false)], args := [d1, d2] }
  | _ => none }
def TopFloorsWrongFalsely : Prop := topFloorsRow.holds Tryz.pinned (OpenSpec.ofChange topFloorsWrong)

/-- 'girotop.TopClose': WHATEVER THE INPUT: true; the input reads as it did. -/
def topCloseSpec : ChangeSpec := { name := "topClose", fn := fun _ => fun
  | [d1, d2] => { results := [.lit (.bool true)], args := [d1, d2] }
  | _ => none }
def topCloseRow : OpenClaim := { program := "ytbejmoaalcabdaagreat", sum := "afbe03cafabd266c4656c2646b0aaae2da6ff5fa2ef5ca0aee12836625ad8134", func := "giro/girotop.TopClose", spec := "topClose", inPlace := ["math/bits.Add64", "slices.overlaps[int64]", "slices.overlaps[giro/api.Pay]"], unfollowed := true, recurses := true, named := ["math/bits.divideError", "math/bits.overflowError"], apart := false }
def TopCloseSaid : Prop := topCloseRow.holds Tryz.pinned (OpenSpec.ofChange topCloseSpec)

/-- ITS FALSE NEIGHBOUR: 'it returns false'. Refute it at one input. -/
def topCloseWrong : ChangeSpec := { name := "topClose", fn := fun _ => fun
  | [d1, d2] => { results := [.lit (.bool false)], args := [d1, d2] }
  | _ => none }
def TopCloseWrongFalsely : Prop := topCloseRow.holds Tryz.pinned (OpenSpec.ofChange topCloseWrong)

/- THE SECOND FORM. 'bulk': how many values and letters a reading holds, each counted each time it is reached (what is shared counts as often as it is met; a slice's spare places count too). A statement '..UptoSaid' is the law's where the arguments, and the package variables that the reading takes, are together of bulk at most 1048576: NARROWER than '..Said'. Prove '..Said' where nothing that the law and all that it calls make is longer than what came in: it says more and counts as full. Else prove '..UptoSaid'. A law counts once. -/
mutual
def uptoBulk {H : Type} : DataW H → Nat
  | .lit (.string bytes) => bytes.length + 1
  | .lit _ => 1
  | .nil => 1
  | .ptr d => uptoBulk d + 1
  | .slice elems spare => uptoBulkAll elems + uptoBulkAll spare + 1
  | .agg parts => uptoBulkAll parts + 1
  | .iface _ d => uptoBulk d + 1
  | .map entries => uptoBulkEntries entries + 1
  | .held _ => 1
def uptoBulkAll {H : Type} : List (DataW H) → Nat
  | [] => 0
  | d :: r => uptoBulk d + uptoBulkAll r
def uptoBulkEntries {H : Type} : List (Lit × DataW H) → Nat
  | [] => 0
  | x :: r => uptoBulkEntry x + uptoBulkEntries r
def uptoBulkEntry {H : Type} : Lit × DataW H → Nat
  | (.string bytes, d) => bytes.length + uptoBulk d + 1
  | (_, d) => uptoBulk d + 1
 end
def uptoSmall : (H : Type) → List (DataW H) → Bool := fun _ ds => decide (uptoBulkAll ds ≤ 1048576)
def OpenSpec.upto (s : _root_.Go.ChangeSpec) : _root_.Go.OpenSpec := { _root_.Go.OpenSpec.ofChange s with cond := some uptoSmall }

/-- 'girotop.TopTwin', WHERE WHAT IT READS IS OF BULK AT MOST 1048576: true; the input reads as it did. -/
def topTwinUptoRow : OpenClaim := { program := "ytbejmoaalcabdaagreat", sum := "afbe03cafabd266c4656c2646b0aaae2da6ff5fa2ef5ca0aee12836625ad8134", func := "giro/girotop.TopTwin", spec := "topTwin", inPlace := ["math/bits.Add64", "slices.overlaps[int64]", "slices.overlaps[giro/api.Pay]"], unfollowed := true, recurses := true, named := ["math/bits.divideError", "math/bits.overflowError"], apart := false, narrowed := true }
def TopTwinUptoSaid : Prop := topTwinUptoRow.holds Tryz.pinned (OpenSpec.upto topTwinSpec)

/-- 'girolaw26.PlayAsked', WHERE WHAT IT READS IS OF BULK AT MOST 1048576: true; the input reads as it did. -/
def playAskedUptoRow : OpenClaim := { program := "ytbejmoaalcabdaagreat", sum := "afbe03cafabd266c4656c2646b0aaae2da6ff5fa2ef5ca0aee12836625ad8134", func := "giro/girolaw26.PlayAsked", spec := "playAsked", inPlace := ["math/bits.Add64", "slices.overlaps[int64]", "slices.overlaps[giro/api.Pay]"], unfollowed := true, recurses := true, named := ["math/bits.divideError", "math/bits.overflowError"], apart := false, narrowed := true }
def PlayAskedUptoSaid : Prop := playAskedUptoRow.holds Tryz.pinned (OpenSpec.upto playAskedSpec)

/-- 'girotop.TopFloors', WHERE WHAT IT READS IS OF BULK AT MOST 1048576: true; the input reads as it did. -/
def topFloorsUptoRow : OpenClaim := { program := "ytbejmoaalcabdaagreat", sum := "afbe03cafabd266c4656c2646b0aaae2da6ff5fa2ef5ca0aee12836625ad8134", func := "giro/girotop.TopFloors", spec := "topFloors", inPlace := ["slices.overlaps[int64]", "slices.overlaps[giro/api.Pay]", "math/bits.Add64"], unfollowed := true, recurses := true, named := ["math/bits.divideError", "math/bits.overflowError"], apart := false, narrowed := true }
def TopFloorsUptoSaid : Prop := topFloorsUptoRow.holds Tryz.pinned (OpenSpec.upto topFloorsSpec)

/-- 'girotop.TopClose', WHERE WHAT IT READS IS OF BULK AT MOST 1048576: true; the input reads as it did. -/
def topCloseUptoRow : OpenClaim := { program := "ytbejmoaalcabdaagreat", sum := "afbe03cafabd266c4656c2646b0aaae2da6ff5fa2ef5ca0aee12836625ad8134", func := "giro/girotop.TopClose", spec := "topClose", inPlace := ["math/bits.Add64", "slices.overlaps[int64]", "slices.overlaps[giro/api.Pay]"], unfollowed := true, recurses := true, named := ["math/bits.divideError", "math/bits.overflowError"], apart := false, narrowed := true }
def TopCloseUptoSaid : Prop := topCloseUptoRow.holds Tryz.pinned (OpenSpec.upto topCloseSpec)

end Rows
end Go.Proofs.YtbejmoaalcabdaaGreat
