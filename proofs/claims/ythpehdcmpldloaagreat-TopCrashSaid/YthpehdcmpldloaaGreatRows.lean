/-
  No cell of these rows narrows 'for every input' (looked for: loops, veiled, ifaces, maps, wideKeys, modest, calm, conditions, laid).
  DERIVED. THE GIVEN ROWS OF THIS SEAT. 4 by the template 'for every input the law returns true; each argument reads behind the call as it read before'; 0 by the template 'total and deterministic' (their statements: YthpehdcmpldloaaGreatTotals.lean).
  GIVEN WITH THE SEED: the statements are not yours to turn. If you find one false, say at which input.
  Laid BY PROGRAM, IN A SANDBOX (cutbox-rows.mjs): the forced cells as the released guide's own fill.sh prints them over the translation 4b0c8283bab960de… (all of the seat's roots in one cut). By AI agents, Wed Nov 11 2026. No macro, syntax, notation, axiom, sorry.
-/
import Derived.Test.YthpehdcmpldloaaGreatChecked
import GoSem.Claim
import GoSem.ClaimJoined
import GoSem.ClaimMapViews
import Derived.JoinedTies
import Derived.KernelRfl
namespace Go.Proofs.YthpehdcmpldloaaGreat
/- THE CELL 'sum', in the pinned program and in every row, IS THE sha256 OF THE DUMP (.gsa) THAT YthpehdcmpldloaaGreatProg.lean LOADS. Nothing in Lean hashes anything: it is a label: what it is worth is what the hold of that sum in a sandbox is worth. -/
noncomputable def Tryz.pinned : Pinned := { name := "ythpehdcmpldloaagreat", sum := "4b0c8283bab960dea7b416e067b24f880e9fb6b5228ae9727654471680fdec73", checked := Tryz.checked }
namespace Rows
def none {H : Type} : Left H := { results := [], args := [] }

/-- 'girotop.TopCrash': WHATEVER THE INPUT: true; the input reads as it did. -/
def topCrashSpec : ChangeSpec := { name := "topCrash", fn := fun _ => fun
  | [d1, d2, d3] => { results := [.lit (.bool true)], args := [d1, d2, d3] }
  | _ => none }
def topCrashRow : OpenClaim := { program := "ythpehdcmpldloaagreat", sum := "4b0c8283bab960dea7b416e067b24f880e9fb6b5228ae9727654471680fdec73", func := "giro/girotop.TopCrash", spec := "topCrash", inPlace := ["math/bits.Add64", "slices.overlaps[int64]", "slices.overlaps[giro/api.Pay]"], unfollowed := true, recurses := true, named := ["math/bits.divideError", "math/bits.overflowError"], apart := false }
def TopCrashSaid : Prop := topCrashRow.holds Tryz.pinned (OpenSpec.ofChange topCrashSpec)

/-- ITS FALSE NEIGHBOUR: 'it returns false'. Refute it at one input. -/
def topCrashWrong : ChangeSpec := { name := "topCrash", fn := fun _ => fun
  | [d1, d2, d3] => { results := [.lit (.bool false)], args := [d1, d2, d3] }
  | _ => none }
def TopCrashWrongFalsely : Prop := topCrashRow.holds Tryz.pinned (OpenSpec.ofChange topCrashWrong)

/-- 'girolaw25.GateKeeps': WHATEVER THE INPUT: true; the input reads as it did. -/
def gateKeepsSpec : ChangeSpec := { name := "gateKeeps", fn := fun _ => fun
  | [d1, d2, d3, d4] => { results := [.lit (.bool true)], args := [d1, d2, d3, d4] }
  | _ => none }
def gateKeepsRow : OpenClaim := { program := "ythpehdcmpldloaagreat", sum := "4b0c8283bab960dea7b416e067b24f880e9fb6b5228ae9727654471680fdec73", func := "giro/girolaw25.GateKeeps", spec := "gateKeeps", inPlace := ["math/bits.Add64", "slices.overlaps[int64]", "slices.overlaps[giro/api.Pay]"], unfollowed := true, recurses := true, named := ["math/bits.divideError", "math/bits.overflowError"], apart := false }
def GateKeepsSaid : Prop := gateKeepsRow.holds Tryz.pinned (OpenSpec.ofChange gateKeepsSpec)

/-- ITS FALSE NEIGHBOUR: 'it returns false'. Refute it at one input. -/
def gateKeepsWrong : ChangeSpec := { name := "gateKeeps", fn := fun _ => fun
  | [d1, d2, d3, d4] => { results := [.lit (.bool false)], args := [d1, d2, d3, d4] }
  | _ => none }
def GateKeepsWrongFalsely : Prop := gateKeepsRow.holds Tryz.pinned (OpenSpec.ofChange gateKeepsWrong)

/-- 'girolaw25.GateSnap': WHATEVER THE INPUT: true; the input reads as it did. -/
def gateSnapSpec : ChangeSpec := { name := "gateSnap", fn := fun _ => fun
  | [d1, d2, d3, d4] => { results := [.lit (.bool true)], args := [d1, d2, d3, d4] }
  | _ => none }
def gateSnapRow : OpenClaim := { program := "ythpehdcmpldloaagreat", sum := "4b0c8283bab960dea7b416e067b24f880e9fb6b5228ae9727654471680fdec73", func := "giro/girolaw25.GateSnap", spec := "gateSnap", inPlace := ["math/bits.Add64", "slices.overlaps[int64]", "slices.overlaps[giro/api.Pay]"], unfollowed := true, recurses := true, named := ["math/bits.divideError", "math/bits.overflowError"], apart := false }
def GateSnapSaid : Prop := gateSnapRow.holds Tryz.pinned (OpenSpec.ofChange gateSnapSpec)

/-- ITS FALSE NEIGHBOUR: 'it returns false'. Refute it at one input. -/
def gateSnapWrong : ChangeSpec := { name := "gateSnap", fn := fun _ => fun
  | [d1, d2, d3, d4] => { results := [.lit (.bool false)], args := [d1, d2, d3, d4] }
  | _ => none }
def GateSnapWrongFalsely : Prop := gateSnapRow.holds Tryz.pinned (OpenSpec.ofChange gateSnapWrong)

/-- 'girolaw25.GateCrash': WHATEVER THE INPUT: true; the input reads as it did. -/
def gateCrashSpec : ChangeSpec := { name := "gateCrash", fn := fun _ => fun
  | [d1, d2, d3, d4] => { results := [.lit (.bool true)], args := [d1, d2, d3, d4] }
  | _ => none }
def gateCrashRow : OpenClaim := { program := "ythpehdcmpldloaagreat", sum := "4b0c8283bab960dea7b416e067b24f880e9fb6b5228ae9727654471680fdec73", func := "giro/girolaw25.GateCrash", spec := "gateCrash", inPlace := ["math/bits.Add64", "slices.overlaps[int64]", "slices.overlaps[giro/api.Pay]"], unfollowed := true, recurses := true, named := ["math/bits.divideError", "math/bits.overflowError"], apart := false }
def GateCrashSaid : Prop := gateCrashRow.holds Tryz.pinned (OpenSpec.ofChange gateCrashSpec)

/-- ITS FALSE NEIGHBOUR: 'it returns false'. Refute it at one input. -/
def gateCrashWrong : ChangeSpec := { name := "gateCrash", fn := fun _ => fun
  | [d1, d2, d3, d4] => { results := [.lit (.bool false)], args := [d1, d2, d3, d4] }
  | _ => none }
def GateCrashWrongFalsely : Prop := gateCrashRow.holds Tryz.pinned (OpenSpec.ofChange gateCrashWrong)

/- THE SECOND FORM. 'bulk': how many values and letters a reading holds, each counted each time it is reached (what is shared counts as often as it is met; a slice's spare places count too). A statement '..UptoSaid' is the law's where the arguments, and the package variables that the reading takes, are together of bulk at most 1048576: NARROWER than '..Said'. Prove '..Said' where nothing that the law and all that it calls make is longer than what came in: it says more and counts as full. Else prove '..UptoSaid'. A law counts once. -/
mutual
def uptoBulk {H : Type} : DataW H → Nat
  | .lit (.string bytes) => bytes.length + 1
  | .lit _ => 1
  | .nil => 1
  | .ptr d => uptoBulk d + 1
  | .slice elems spare => uptoBulkAll elems + uptoBulkAll spare + 1
  | .agg parts => uptoBulkAll parts + 1
  | .iface _ d => uptoBulk d + 1
  | .map entries => uptoBulkEntries entries + 1
  | .held _ => 1
def uptoBulkAll {H : Type} : List (DataW H) → Nat
  | [] => 0
  | d :: r => uptoBulk d + uptoBulkAll r
def uptoBulkEntries {H : Type} : List (Lit × DataW H) → Nat
  | [] => 0
  | x :: r => uptoBulkEntry x + uptoBulkEntries r
def uptoBulkEntry {H : Type} : Lit × DataW H → Nat
  | (.string bytes, d) => bytes.length + uptoBulk d + 1
  | (_, d) => uptoBulk d + 1
 end
def uptoSmall : (H : Type) → List (DataW H) → Bool := fun _ ds => decide (uptoBulkAll ds ≤ 1048576)
def OpenSpec.upto (s : _root_.Go.ChangeSpec) : _root_.Go.OpenSpec := { _root_.Go.OpenSpec.ofChange s with cond := some uptoSmall }

/-- 'girotop.TopCrash', WHERE WHAT IT READS IS OF BULK AT MOST 1048576: true; the input reads as it did. -/
def topCrashUptoRow : OpenClaim := { program := "ythpehdcmpldloaagreat", sum := "4b0c8283bab960dea7b416e067b24f880e9fb6b5228ae9727654471680fdec73", func := "giro/girotop.TopCrash", spec := "topCrash", inPlace := ["math/bits.Add64", "slices.overlaps[int64]", "slices.overlaps[giro/api.Pay]"], unfollowed := true, recurses := true, named := ["math/bits.divideError", "math/bits.overflowError"], apart := false, narrowed := true }
def TopCrashUptoSaid : Prop := topCrashUptoRow.holds Tryz.pinned (OpenSpec.upto topCrashSpec)

/-- 'girolaw25.GateKeeps', WHERE WHAT IT READS IS OF BULK AT MOST 1048576: true; the input reads as it did. -/
def gateKeepsUptoRow : OpenClaim := { program := "ythpehdcmpldloaagreat", sum := "4b0c8283bab960dea7b416e067b24f880e9fb6b5228ae9727654471680fdec73", func := "giro/girolaw25.GateKeeps", spec := "gateKeeps", inPlace := ["math/bits.Add64", "slices.overlaps[int64]", "slices.overlaps[giro/api.Pay]"], unfollowed := true, recurses := true, named := ["math/bits.divideError", "math/bits.overflowError"], apart := false, narrowed := true }
def GateKeepsUptoSaid : Prop := gateKeepsUptoRow.holds Tryz.pinned (OpenSpec.upto gateKeepsSpec)

/-- 'girolaw25.GateSnap', WHERE WHAT IT READS IS OF BULK AT MOST 1048576: true; the input reads as it did. -/
def gateSnapUptoRow : OpenClaim := { program := "ythpehdcmpldloaagreat", sum := "4b0c8283bab960dea7b416e067b24f880e9fb6b5228ae9727654471680fdec73", func := "giro/girolaw25.GateSnap", spec := "gateSnap", inPlace := ["math/bits.Add64", "slices.overlaps[int64]", "slices.overlaps[giro/api.Pay]"], unfollowed := true, recurses := true, named := ["math/bits.divideError", "math/bits.overflowError"], apart := false, narrowed := true }
def GateSnapUptoSaid : Prop := gateSnapUptoRow.holds Tryz.pinned (OpenSpec.upto gateSnapSpec)

/-- 'girolaw25.GateCrash', WHERE WHAT IT READS IS OF BULK AT MOST 1048576: true; the input reads as it did. -/
def gateCrashUptoRow : OpenClaim := { program := "ythpehdcmpldloaagreat", sum := "4b0c8283bab960dea7b416e067b24f880e9fb6b5228ae9727654471680fdec73", func := "giro/girolaw25.GateCrash", spec := "gateCrash", inPlace := ["math/bits.Add64", "slices.overlaps[int64]", "slices.overlaps[giro/api.Pay]"], unfollowed := true, recurses := true, named := ["math/bits.divideError", "math/bits.overflowError"], apart := false, narrowed := true }
def GateCrashUptoSaid : Prop := gateCrashUptoRow.holds Tryz.pinned (OpenSpec.upto gateCrashSpec)

end Rows
end Go.Proofs.YthpehdcmpldloaaGreat
