/-
  No cell of these rows narrows 'for every input' (looked for: loops, veiled, ifaces, maps, wideKeys, modest, calm, conditions, laid).
  DERIVED. THE GIVEN ROWS OF THIS SEAT. 6 by the template 'for every input the law returns true; each argument reads behind the call as it read before'; 0 by the template 'total and deterministic' (their statements: YtlanbiabbhehaaaTotals.lean).
  GIVEN WITH THE SEED: the statements are not yours to turn. If you find one false, say at which input.
  Laid BY PROGRAM, IN A SANDBOX (cutbox-rows.mjs): the forced cells as the released guide's own fill.sh prints them over the translation 0b6197be8ec87665… (all of the seat's roots in one cut). By AI agents, Wed Nov 11 2026. No macro, syntax, notation, axiom, sorry.
-/
import Derived.Test.YtlanbiabbhehaaaChecked
import GoSem.Claim
import GoSem.ClaimJoined
import GoSem.ClaimMapViews
import Derived.JoinedTies
import Derived.KernelRfl
namespace Go.Proofs.Ytlanbiabbhehaaa
/- THE CELL 'sum', in the pinned program and in every row, IS THE sha256 OF THE DUMP (.gsa) THAT YtlanbiabbhehaaaProg.lean LOADS. Nothing in Lean hashes anything: it is a label: what it is worth is what the hold of that sum in a sandbox is worth. -/
noncomputable def Try.pinned : Pinned := { name := "ytlanbiabbhehaaa", sum := "0b6197be8ec87665cbe639f07ef6165495ce1ab0ce1cb0e73359422c7e9c055d", checked := Try.checked }
namespace Rows
def none {H : Type} : Left H := { results := [], args := [] }

/-- 'girolaw16.PostTells': WHATEVER THE INPUT: true; the input reads as it did. -/
def postTellsSpec : ChangeSpec := { name := "postTells", fn := fun _ => fun
  | [d1, d2] => { results := [.lit (.bool true)], args := [d1, d2] }
  | _ => none }
def postTellsRow : OpenClaim := { program := "ytlanbiabbhehaaa", sum := "0b6197be8ec87665cbe639f07ef6165495ce1ab0ce1cb0e73359422c7e9c055d", func := "giro/girolaw16.PostTells", spec := "postTells", unfollowed := true, recurses := true, apart := false }
def PostTellsSaid : Prop := postTellsRow.holds Try.pinned (OpenSpec.ofChange postTellsSpec)

/-- ITS FALSE NEIGHBOUR: 'it returns false'. Refute it at one input. -/
def postTellsWrong : ChangeSpec := { name := "postTells", fn := fun _ => fun
  | [d1, d2] => { results := [.lit (.bool false)], args := [d1, d2] }
  | _ => none }
def PostTellsWrongFalsely : Prop := postTellsRow.holds Try.pinned (OpenSpec.ofChange postTellsWrong)

/-- 'girolaw16.PostStays': WHATEVER THE INPUT: true; the input reads as it did. -/
def postStaysSpec : ChangeSpec := { name := "postStays", fn := fun _ => fun
  | [d1, d2] => { results := [.lit (.bool true)], args := [d1, d2] }
  | _ => none }
def postStaysRow : OpenClaim := { program := "ytlanbiabbhehaaa", sum := "0b6197be8ec87665cbe639f07ef6165495ce1ab0ce1cb0e73359422c7e9c055d", func := "giro/girolaw16.PostStays", spec := "postStays", unfollowed := true, recurses := true, apart := false }
def PostStaysSaid : Prop := postStaysRow.holds Try.pinned (OpenSpec.ofChange postStaysSpec)

/-- ITS FALSE NEIGHBOUR: 'it returns false'. Refute it at one input. -/
def postStaysWrong : ChangeSpec := { name := "postStays", fn := fun _ => fun
  | [d1, d2] => { results := [.lit (.bool false)], args := [d1, d2] }
  | _ => none }
def PostStaysWrongFalsely : Prop := postStaysRow.holds Try.pinned (OpenSpec.ofChange postStaysWrong)

/-- 'girolaw16.PostOrder': WHATEVER THE INPUT: true; the input reads as it did. -/
def postOrderSpec : ChangeSpec := { name := "postOrder", fn := fun _ => fun
  | [d1, d2, d3, d4] => { results := [.lit (.bool true)], args := [d1, d2, d3, d4] }
  | _ => none }
def postOrderRow : OpenClaim := { program := "ytlanbiabbhehaaa", sum := "0b6197be8ec87665cbe639f07ef6165495ce1ab0ce1cb0e73359422c7e9c055d", func := "giro/girolaw16.PostOrder", spec := "postOrder", unfollowed := true, recurses := true, apart := false }
def PostOrderSaid : Prop := postOrderRow.holds Try.pinned (OpenSpec.ofChange postOrderSpec)

/-- ITS FALSE NEIGHBOUR: 'it returns false'. Refute it at one input. -/
def postOrderWrong : ChangeSpec := { name := "postOrder", fn := fun _ => fun
  | [d1, d2, d3, d4] => { results := [.lit (.bool false)], args := [d1, d2, d3, d4] }
  | _ => none }
def PostOrderWrongFalsely : Prop := postOrderRow.holds Try.pinned (OpenSpec.ofChange postOrderWrong)

/-- 'girolaw16.PostFits': WHATEVER THE INPUT: true; the input reads as it did. -/
def postFitsSpec : ChangeSpec := { name := "postFits", fn := fun _ => fun
  | [d1, d2, d3] => { results := [.lit (.bool true)], args := [d1, d2, d3] }
  | _ => none }
def postFitsRow : OpenClaim := { program := "ytlanbiabbhehaaa", sum := "0b6197be8ec87665cbe639f07ef6165495ce1ab0ce1cb0e73359422c7e9c055d", func := "giro/girolaw16.PostFits", spec := "postFits", unfollowed := true, recurses := true, apart := false }
def PostFitsSaid : Prop := postFitsRow.holds Try.pinned (OpenSpec.ofChange postFitsSpec)

/-- ITS FALSE NEIGHBOUR: 'it returns false'. Refute it at one input. -/
def postFitsWrong : ChangeSpec := { name := "postFits", fn := fun _ => fun
  | [d1, d2, d3] => { results := [.lit (.bool false)], args := [d1, d2, d3] }
  | _ => none }
def PostFitsWrongFalsely : Prop := postFitsRow.holds Try.pinned (OpenSpec.ofChange postFitsWrong)

/-- 'girolaw16.PostOver': WHATEVER THE INPUT: true; the input reads as it did. -/
def postOverSpec : ChangeSpec := { name := "postOver", fn := fun _ => fun
  | [d1, d2, d3] => { results := [.lit (.bool true)], args := [d1, d2, d3] }
  | _ => none }
def postOverRow : OpenClaim := { program := "ytlanbiabbhehaaa", sum := "0b6197be8ec87665cbe639f07ef6165495ce1ab0ce1cb0e73359422c7e9c055d", func := "giro/girolaw16.PostOver", spec := "postOver", unfollowed := true, recurses := true, apart := false }
def PostOverSaid : Prop := postOverRow.holds Try.pinned (OpenSpec.ofChange postOverSpec)

/-- ITS FALSE NEIGHBOUR: 'it returns false'. Refute it at one input. -/
def postOverWrong : ChangeSpec := { name := "postOver", fn := fun _ => fun
  | [d1, d2, d3] => { results := [.lit (.bool false)], args := [d1, d2, d3] }
  | _ => none }
def PostOverWrongFalsely : Prop := postOverRow.holds Try.pinned (OpenSpec.ofChange postOverWrong)

/-- 'girolaw16.PostKept': WHATEVER THE INPUT: true; the input reads as it did. -/
def postKeptSpec : ChangeSpec := { name := "postKept", fn := fun _ => fun
  | [d1, d2] => { results := [.lit (.bool true)], args := [d1, d2] }
  | _ => none }
def postKeptRow : OpenClaim := { program := "ytlanbiabbhehaaa", sum := "0b6197be8ec87665cbe639f07ef6165495ce1ab0ce1cb0e73359422c7e9c055d", func := "giro/girolaw16.PostKept", spec := "postKept", unfollowed := true, recurses := true, apart := false }
def PostKeptSaid : Prop := postKeptRow.holds Try.pinned (OpenSpec.ofChange postKeptSpec)

/-- ITS FALSE NEIGHBOUR: 'it returns false'. Refute it at one input. -/
def postKeptWrong : ChangeSpec := { name := "postKept", fn := fun _ => fun
  | [d1, d2] => { results := [.lit (.bool false)], args := [d1, d2] }
  | _ => none }
def PostKeptWrongFalsely : Prop := postKeptRow.holds Try.pinned (OpenSpec.ofChange postKeptWrong)

/- THE SECOND FORM. 'bulk': how many values and letters a reading holds, each counted each time it is reached (what is shared counts as often as it is met; a slice's spare places count too). A statement '..UptoSaid' is the law's where the arguments, and the package variables that the reading takes, are together of bulk at most 1048576: NARROWER than '..Said'. Prove '..Said' where nothing that the law and all that it calls make is longer than what came in: it says more and counts as full. Else prove '..UptoSaid'. A law counts once. -/
mutual
def uptoBulk {H : Type} : DataW H → Nat
  | .lit (.string bytes) => bytes.length + 1
  | .lit _ => 1
  | .nil => 1
  | .ptr d => uptoBulk d + 1
  | .slice elems spare => uptoBulkAll elems + uptoBulkAll spare + 1
  | .agg parts => uptoBulkAll parts + 1
  | .iface _ d => uptoBulk d + 1
  | .map entries => uptoBulkEntries entries + 1
  | .held _ => 1
def uptoBulkAll {H : Type} : List (DataW H) → Nat
  | [] => 0
  | d :: r => uptoBulk d + uptoBulkAll r
def uptoBulkEntries {H : Type} : List (Lit × DataW H) → Nat
  | [] => 0
  | x :: r => uptoBulkEntry x + uptoBulkEntries r
def uptoBulkEntry {H : Type} : Lit × DataW H → Nat
  | (.string bytes, d) => bytes.length + uptoBulk d + 1
  | (_, d) => uptoBulk d + 1
 end
def uptoSmall : (H : Type) → List (DataW H) → Bool := fun _ ds => decide (uptoBulkAll ds ≤ 1048576)
def OpenSpec.upto (s : _root_.Go.ChangeSpec) : _root_.Go.OpenSpec := { _root_.Go.OpenSpec.ofChange s with cond := some uptoSmall }

/-- 'girolaw16.PostTells', WHERE WHAT IT READS IS OF BULK AT MOST 1048576: true; the input reads as it did. -/
def postTellsUptoRow : OpenClaim := { program := "ytlanbiabbhehaaa", sum := "0b6197be8ec87665cbe639f07ef6165495ce1ab0ce1cb0e73359422c7e9c055d", func := "giro/girolaw16.PostTells", spec := "postTells", unfollowed := true, recurses := true, apart := false, narrowed := true }
def PostTellsUptoSaid : Prop := postTellsUptoRow.holds Try.pinned (OpenSpec.upto postTellsSpec)

/-- 'girolaw16.PostStays', WHERE WHAT IT READS IS OF BULK AT MOST 1048576: true; the input reads as it did. -/
def postStaysUptoRow : OpenClaim := { program := "ytlanbiabbhehaaa", sum := "0b6197be8ec87665cbe639f07ef6165495ce1ab0ce1cb0e73359422c7e9c055d", func := "giro/girolaw16.PostStays", spec := "postStays", unfollowed := true, recurses := true, apart := false, narrowed := true }
def PostStaysUptoSaid : Prop := postStaysUptoRow.holds Try.pinned (OpenSpec.upto postStaysSpec)

/-- 'girolaw16.PostOrder', WHERE WHAT IT READS IS OF BULK AT MOST 1048576: true; the input reads as it did. -/
def postOrderUptoRow : OpenClaim := { program := "ytlanbiabbhehaaa", sum := "0b6197be8ec87665cbe639f07ef6165495ce1ab0ce1cb0e73359422c7e9c055d", func := "giro/girolaw16.PostOrder", spec := "postOrder", unfollowed := true, recurses := true, apart := false, narrowed := true }
def PostOrderUptoSaid : Prop := postOrderUptoRow.holds Try.pinned (OpenSpec.upto postOrderSpec)

/-- 'girolaw16.PostFits', WHERE WHAT IT READS IS OF BULK AT MOST 1048576: true; the input reads as it did. -/
def postFitsUptoRow : OpenClaim := { program := "ytlanbiabbhehaaa", sum := "0b6197be8ec87665cbe639f07ef6165495ce1ab0ce1cb0e73359422c7e9c055d", func := "giro/girolaw16.PostFits", spec := "postFits", unfollowed := true, recurses := true, apart := false, narrowed := true }
def PostFitsUptoSaid : Prop := postFitsUptoRow.holds Try.pinned (OpenSpec.upto postFitsSpec)

/-- 'girolaw16.PostOver', WHERE WHAT IT READS IS OF BULK AT MOST 1048576: true; the input reads as it did. -/
def postOverUptoRow : OpenClaim := { program := "ytlanbiabbhehaaa", sum := "0b6197be8ec87665cbe639f07ef6165495ce1ab0ce1cb0e73359422c7e9c055d", func := "giro/girolaw16.PostOver", spec := "postOver", unfollowed := true, recurses := true, apart := false, narrowed := true }
def PostOverUptoSaid : Prop := postOverUptoRow.holds Try.pinned (OpenSpec.upto postOverSpec)

/-- 'girolaw16.PostKept', WHERE WHAT IT READS IS OF BULK AT MOST 1048576: true; the input reads as it did. -/
def postKeptUptoRow : OpenClaim := { program := "ytlanbiabbhehaaa", sum := "0b6197be8ec87665cbe639f07ef6165495ce1ab0ce1cb0e73359422c7e9c055d", func := "giro/girolaw16.PostKept", spec := "postKept", unfollowed := true, recurses := true, apart := false, narrowed := true }
def PostKeptUptoSaid : Prop := postKeptUptoRow.holds Try.pinned (OpenSpec.upto postKeptSpec)

end Rows
end Go.Proofs.Ytlanbiabbhehaaa
