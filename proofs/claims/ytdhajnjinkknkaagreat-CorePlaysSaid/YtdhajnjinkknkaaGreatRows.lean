/-
  No cell of these rows narrows 'for every input' (looked for: loops, veiled, ifaces, maps, wideKeys, modest, calm, conditions, laid).
  DERIVED. THE GIVEN ROWS OF THIS SEAT. 11 by the template 'for every input the law returns true; each argument reads behind the call as it read before'; 0 by the template 'total and deterministic' (their statements: YtdhajnjinkknkaaGreatTotals.lean).
  GIVEN WITH THE SEED: the statements are not yours to turn. If you find one false, say at which input.
  Laid BY PROGRAM, IN A SANDBOX (cutbox-rows.mjs): the forced cells as the released guide's own fill.sh prints them over the translation 1f290d682e472d15… (all of the seat's roots in one cut). By AI agents, Wed Nov 11 2026. No macro, syntax, notation, axiom, sorry.
-/
import Derived.Test.YtdhajnjinkknkaaGreatChecked
import GoSem.Claim
import GoSem.ClaimJoined
import GoSem.ClaimMapViews
import Derived.JoinedTies
import Derived.KernelRfl
namespace Go.Proofs.YtdhajnjinkknkaaGreat
/- THE CELL 'sum', in the pinned program and in every row, IS THE sha256 OF THE DUMP (.gsa) THAT YtdhajnjinkknkaaGreatProg.lean LOADS. Nothing in Lean hashes anything: it is a label: what it is worth is what the hold of that sum in a sandbox is worth. -/
noncomputable def Tryz.pinned : Pinned := { name := "ytdhajnjinkknkaagreat", sum := "1f290d682e472d15f9eec0628fbe1a1111295f034a1048eaa9ee35af3780a39c", checked := Tryz.checked }
namespace Rows
def none {H : Type} : Left H := { results := [], args := [] }

/-- 'girolaw23.CoreTotal': WHATEVER THE INPUT: true; the input reads as it did. -/
def coreTotalSpec : ChangeSpec := { name := "coreTotal", fn := fun _ => fun
  | [d1, d2] => { results := [.lit (.bool true)], args := [d1, d2] }
  | _ => none }
def coreTotalRow : OpenClaim := { program := "ytdhajnjinkknkaagreat", sum := "1f290d682e472d15f9eec0628fbe1a1111295f034a1048eaa9ee35af3780a39c", func := "giro/girolaw23.CoreTotal", spec := "coreTotal", inPlace := ["slices.overlaps[int64]", "slices.overlaps[giro/api.Pay]", "math/bits.Add64"], unfollowed := true, recurses := true, named := ["math/bits.divideError", "math/bits.overflowError"], apart := false }
def CoreTotalSaid : Prop := coreTotalRow.holds Tryz.pinned (OpenSpec.ofChange coreTotalSpec)

/-- ITS FALSE NEIGHBOUR: 'it returns false'. Refute it at one input. -/
def coreTotalWrong : ChangeSpec := { name := "coreTotal", fn := fun _ => fun
  | [d1, d2] => { results := [.lit (.bool false)], args := [d1, d2] }
  | _ => none }
def CoreTotalWrongFalsely : Prop := coreTotalRow.holds Tryz.pinned (OpenSpec.ofChange coreTotalWrong)

/-- 'girolaw23.CoreStuck': WHATEVER THE INPUT: true; the input reads as it did. -/
def coreStuckSpec : ChangeSpec := { name := "coreStuck", fn := fun _ => fun
  | [d1, d2] => { results := [.lit (.bool true)], args := [d1, d2] }
  | _ => none }
def coreStuckRow : OpenClaim := { program := "ytdhajnjinkknkaagreat", sum := "1f290d682e472d15f9eec0628fbe1a1111295f034a1048eaa9ee35af3780a39c", func := "giro/girolaw23.CoreStuck", spec := "coreStuck", inPlace := ["slices.overlaps[int64]", "slices.overlaps[giro/api.Pay]", "math/bits.Add64"], unfollowed := true, recurses := true, named := ["math/bits.divideError", "math/bits.overflowError"], apart := false }
def CoreStuckSaid : Prop := coreStuckRow.holds Tryz.pinned (OpenSpec.ofChange coreStuckSpec)

/-- ITS FALSE NEIGHBOUR: 'it returns false'. Refute it at one input. -/
def coreStuckWrong : ChangeSpec := { name := "coreStuck", fn := fun _ => fun
  | [d1, d2] => { results := [.lit (.bool false)], args := [d1, d2] }
  | _ => none }
def CoreStuckWrongFalsely : Prop := coreStuckRow.holds Tryz.pinned (OpenSpec.ofChange coreStuckWrong)

/-- 'girolaw23.CoreRefused': WHATEVER THE INPUT: true; the input reads as it did. -/
def coreRefusedSpec : ChangeSpec := { name := "coreRefused", fn := fun _ => fun
  | [d1, d2, d3] => { results := [.lit (.bool true)], args := [d1, d2, d3] }
  | _ => none }
def coreRefusedRow : OpenClaim := { program := "ytdhajnjinkknkaagreat", sum := "1f290d682e472d15f9eec0628fbe1a1111295f034a1048eaa9ee35af3780a39c", func := "giro/girolaw23.CoreRefused", spec := "coreRefused", inPlace := ["slices.overlaps[int64]", "slices.overlaps[giro/api.Pay]", "math/bits.Add64"], unfollowed := true, recurses := true, named := ["math/bits.divideError", "math/bits.overflowError"], apart := false }
def CoreRefusedSaid : Prop := coreRefusedRow.holds Tryz.pinned (OpenSpec.ofChange coreRefusedSpec)

/-- ITS FALSE NEIGHBOUR: 'it returns false'. Refute it at one input. -/
def coreRefusedWrong : ChangeSpec := { name := "coreRefused", fn := fun _ => fun
  | [d1, d2, d3] => { results := [.lit (.bool false)], args := [d1, d2, d3] }
  | _ => none }
def CoreRefusedWrongFalsely : Prop := coreRefusedRow.holds Tryz.pinned (OpenSpec.ofChange coreRefusedWrong)

/-- 'girolaw23.CoreKnown': WHATEVER THE INPUT: true; the input reads as it did. -/
def coreKnownSpec : ChangeSpec := { name := "coreKnown", fn := fun _ => fun
  | [d] => { results := [.lit (.bool true)], args := [d] }
  | _ => none }
def coreKnownRow : OpenClaim := { program := "ytdhajnjinkknkaagreat", sum := "1f290d682e472d15f9eec0628fbe1a1111295f034a1048eaa9ee35af3780a39c", func := "giro/girolaw23.CoreKnown", spec := "coreKnown", inPlace := ["slices.overlaps[int64]", "slices.overlaps[giro/api.Pay]", "math/bits.Add64"], unfollowed := true, recurses := true, named := ["math/bits.divideError", "math/bits.overflowError"], apart := false }
def CoreKnownSaid : Prop := coreKnownRow.holds Tryz.pinned (OpenSpec.ofChange coreKnownSpec)

/-- ITS FALSE NEIGHBOUR: 'it returns false'. Refute it at one input. -/
def coreKnownWrong : ChangeSpec := { name := "coreKnown", fn := fun _ => fun
  | [d] => { results := [.lit (.bool false)], args := [d] }
  | _ => none }
def CoreKnownWrongFalsely : Prop := coreKnownRow.holds Tryz.pinned (OpenSpec.ofChange coreKnownWrong)

/-- 'girolaw23.CorePool': WHATEVER THE INPUT: true; the input reads as it did. -/
def corePoolSpec : ChangeSpec := { name := "corePool", fn := fun _ => fun
  | [d1, d2, d3] => { results := [.lit (.bool true)], args := [d1, d2, d3] }
  | _ => none }
def corePoolRow : OpenClaim := { program := "ytdhajnjinkknkaagreat", sum := "1f290d682e472d15f9eec0628fbe1a1111295f034a1048eaa9ee35af3780a39c", func := "giro/girolaw23.CorePool", spec := "corePool", inPlace := ["slices.overlaps[int64]", "slices.overlaps[giro/api.Pay]", "math/bits.Add64"], unfollowed := true, recurses := true, named := ["math/bits.divideError", "math/bits.overflowError"], apart := false }
def CorePoolSaid : Prop := corePoolRow.holds Tryz.pinned (OpenSpec.ofChange corePoolSpec)

/-- ITS FALSE NEIGHBOUR: 'it returns false'. Refute it at one input. -/
def corePoolWrong : ChangeSpec := { name := "corePool", fn := fun _ => fun
  | [d1, d2, d3] => { results := [.lit (.bool false)], args := [d1, d2, d3] }
  | _ => none }
def CorePoolWrongFalsely : Prop := corePoolRow.holds Tryz.pinned (OpenSpec.ofChange corePoolWrong)

/-- 'girolaw23.CoreQueue': WHATEVER THE INPUT: true; the input reads as it did. -/
def coreQueueSpec : ChangeSpec := { name := "coreQueue", fn := fun _ => fun
  | [d] => { results := [.lit (.bool true)], args := [d] }
  | _ => none }
def coreQueueRow : OpenClaim := { program := "ytdhajnjinkknkaagreat", sum := "1f290d682e472d15f9eec0628fbe1a1111295f034a1048eaa9ee35af3780a39c", func := "giro/girolaw23.CoreQueue", spec := "coreQueue", inPlace := ["slices.overlaps[int64]", "slices.overlaps[giro/api.Pay]", "math/bits.Add64"], unfollowed := true, recurses := true, named := ["math/bits.divideError", "math/bits.overflowError"], apart := false }
def CoreQueueSaid : Prop := coreQueueRow.holds Tryz.pinned (OpenSpec.ofChange coreQueueSpec)

/-- ITS FALSE NEIGHBOUR: 'it returns false'. Refute it at one input. -/
def coreQueueWrong : ChangeSpec := { name := "coreQueue", fn := fun _ => fun
  | [d] => { results := [.lit (.bool false)], args := [d] }
  | _ => none }
def CoreQueueWrongFalsely : Prop := coreQueueRow.holds Tryz.pinned (OpenSpec.ofChange coreQueueWrong)

/-- 'girolaw23.CorePlays': WHATEVER THE INPUT: true; the input reads as it did. -/
def corePlaysSpec : ChangeSpec := { name := "corePlays", fn := fun _ => fun
  | [d1, d2] => { results := [.lit (.bool true)], args := [d1, d2] }
  | _ => none }
def corePlaysRow : OpenClaim := { program := "ytdhajnjinkknkaagreat", sum := "1f290d682e472d15f9eec0628fbe1a1111295f034a1048eaa9ee35af3780a39c", func := "giro/girolaw23.CorePlays", spec := "corePlays", inPlace := ["slices.overlaps[int64]", "slices.overlaps[giro/api.Pay]", "math/bits.Add64"], unfollowed := true, recurses := true, named := ["math/bits.divideError", "math/bits.overflowError"], apart := false }
def CorePlaysSaid : Prop := corePlaysRow.holds Tryz.pinned (OpenSpec.ofChange corePlaysSpec)

/-- ITS FALSE NEIGHBOUR: 'it returns false'. Refute it at one input. -/
def corePlaysWrong : ChangeSpec := { name := "corePlays", fn := fun _ => fun
  | [d1, d2] => { results := [.lit (.bool false)], args := [d1, d2] }
  | _ => none }
def CorePlaysWrongFalsely : Prop := corePlaysRow.holds Tryz.pinned (OpenSpec.ofChange corePlaysWrong)

/-- 'girolaw23.CoreIs': WHATEVER THE INPUT: true; the input reads as it did. -/
def coreIsSpec : ChangeSpec := { name := "coreIs", fn := fun _ => fun
  | [d1, d2] => { results := [.lit (.bool true)], args := [d1, d2] }
  | _ => none }
def coreIsRow : OpenClaim := { program := "ytdhajnjinkknkaagreat", sum := "1f290d682e472d15f9eec0628fbe1a1111295f034a1048eaa9ee35af3780a39c", func := "giro/girolaw23.CoreIs", spec := "coreIs", inPlace := ["math/bits.Add64", "slices.overlaps[int64]", "slices.overlaps[giro/api.Pay]"], unfollowed := true, recurses := true, named := ["math/bits.divideError", "math/bits.overflowError"], apart := false }
def CoreIsSaid : Prop := coreIsRow.holds Tryz.pinned (OpenSpec.ofChange coreIsSpec)

/-- ITS FALSE NEIGHBOUR: 'it returns false'. Refute it at one input. -/
def coreIsWrong : ChangeSpec := { name := "coreIs", fn := fun _ => fun
  | [d1, d2] => { results := [.lit (.bool false)], args := [d1, d2] }
  | _ => none }
def CoreIsWrongFalsely : Prop := coreIsRow.holds Tryz.pinned (OpenSpec.ofChange coreIsWrong)

/-- 'girolaw23.CoreStates': WHATEVER THE INPUT: true; the input reads as it did. -/
def coreStatesSpec : ChangeSpec := { name := "coreStates", fn := fun _ => fun
  | [d1, d2, d3] => { results := [.lit (.bool true)], args := [d1, d2, d3] }
  | _ => none }
def coreStatesRow : OpenClaim := { program := "ytdhajnjinkknkaagreat", sum := "1f290d682e472d15f9eec0628fbe1a1111295f034a1048eaa9ee35af3780a39c", func := "giro/girolaw23.CoreStates", spec := "coreStates", inPlace := ["slices.overlaps[int64]", "slices.overlaps[giro/api.Pay]", "math/bits.Add64"], unfollowed := true, recurses := true, named := ["math/bits.divideError", "math/bits.overflowError"], apart := false }
def CoreStatesSaid : Prop := coreStatesRow.holds Tryz.pinned (OpenSpec.ofChange coreStatesSpec)

/-- ITS FALSE NEIGHBOUR: 'it returns false'. Refute it at one input. -/
def coreStatesWrong : ChangeSpec := { name := "coreStates", fn := fun _ => fun
  | [d1, d2, d3] => { results := [.lit (.bool false)], args := [d1, d2, d3] }
  | _ => none }
def CoreStatesWrongFalsely : Prop := coreStatesRow.holds Tryz.pinned (OpenSpec.ofChange coreStatesWrong)

/-- 'girolaw27.AuditState': WHATEVER THE INPUT: true; the input reads as it did. -/
def auditStateSpec : ChangeSpec := { name := "auditState", fn := fun _ => fun
  | [d1, d2] => { results := [.lit (.bool true)], args := [d1, d2] }
  | _ => none }
def auditStateRow : OpenClaim := { program := "ytdhajnjinkknkaagreat", sum := "1f290d682e472d15f9eec0628fbe1a1111295f034a1048eaa9ee35af3780a39c", func := "giro/girolaw27.AuditState", spec := "auditState", inPlace := ["slices.overlaps[int64]", "slices.overlaps[giro/api.Pay]", "math/bits.Add64"], unfollowed := true, recurses := true, named := ["math/bits.divideError", "math/bits.overflowError"], apart := false }
def AuditStateSaid : Prop := auditStateRow.holds Tryz.pinned (OpenSpec.ofChange auditStateSpec)

/-- ITS FALSE NEIGHBOUR: 'it returns false'. Refute it at one input. -/
def auditStateWrong : ChangeSpec := { name := "auditState", fn := fun _ => fun
  | [d1, d2] => { results := [.lit (.bool false)], args := [d1, d2] }
  | _ => none }
def AuditStateWrongFalsely : Prop := auditStateRow.holds Tryz.pinned (OpenSpec.ofChange auditStateWrong)

/-- 'girolaw27.AuditEnds': WHATEVER THE INPUT: true; the input reads as it did. -/
def auditEndsSpec : ChangeSpec := { name := "auditEnds", fn := fun _ => fun
  | [d1, d2] => { results := [.lit (.bool true)], args := [d1, d2] }
  | _ => none }
def auditEndsRow : OpenClaim := { program := "ytdhajnjinkknkaagreat", sum := "1f290d682e472d15f9eec0628fbe1a1111295f034a1048eaa9ee35af3780a39c", func := "giro/girolaw27.AuditEnds", spec := "auditEnds", inPlace := ["slices.overlaps[int64]", "slices.overlaps[giro/api.Pay]", "math/bits.Add64"], unfollowed := true, recurses := true, named := ["math/bits.divideError", "math/bits.overflowError"], apart := false }
def AuditEndsSaid : Prop := auditEndsRow.holds Tryz.pinned (OpenSpec.ofChange auditEndsSpec)

/-- ITS FALSE NEIGHBOUR: 'it returns false'. Refute it at one input. -/
def auditEndsWrong : ChangeSpec := { name := "auditEnds", fn := fun _ => fun
  | [d1, d2] => { results := [.lit (.bool false)], args := [d1, d2] }
  | _ => none }
def AuditEndsWrongFalsely : Prop := auditEndsRow.holds Tryz.pinned (OpenSpec.ofChange auditEndsWrong)

/- THE SECOND FORM. 'bulk': how many values and letters a reading holds, each counted each time it is reached (what is shared counts as often as it is met; a slice's spare places count too). A statement '..UptoSaid' is the law's where the arguments, and the package variables that the reading takes, are together of bulk at most 1048576: NARROWER than '..Said'. Prove '..Said' where nothing that the law and all that it calls make is longer than what came in: it says more and counts as full. Else prove '..UptoSaid'. A law counts once. -/
mutual
def uptoBulk {H : Type} : DataW H → Nat
  | .lit (.string bytes) => bytes.length + 1
  | .lit _ => 1
  | .nil => 1
  | .ptr d => uptoBulk d + 1
  | .slice elems spare => uptoBulkAll elems + uptoBulkAll spare + 1
  | .agg parts => uptoBulkAll parts + 1
  | .iface _ d => uptoBulk d + 1
  | .map entries => uptoBulkEntries entries + 1
  | .held _ => 1
def uptoBulkAll {H : Type} : List (DataW H) → Nat
  | [] => 0
  | d :: r => uptoBulk d + uptoBulkAll r
def uptoBulkEntries {H : Type} : List (Lit × DataW H) → Nat
  | [] => 0
  | x :: r => uptoBulkEntry x + uptoBulkEntries r
def uptoBulkEntry {H : Type} : Lit × DataW H → Nat
  | (.string bytes, d) => bytes.length + uptoBulk d + 1
  | (_, d) => uptoBulk d + 1
 end
def uptoSmall : (H : Type) → List (DataW H) → Bool := fun _ ds => decide (uptoBulkAll ds ≤ 1048576)
def OpenSpec.upto (s : _root_.Go.ChangeSpec) : _root_.Go.OpenSpec := { _root_.Go.OpenSpec.ofChange s with cond := some uptoSmall }

/-- 'girolaw23.CoreTotal', WHERE WHAT IT READS IS OF BULK AT MOST 1048576: true; the input reads as it did. -/
def coreTotalUptoRow : OpenClaim := { program := "ytdhajnjinkknkaagreat", sum := "1f290d682e472d15f9eec0628fbe1a1111295f034a1048eaa9ee35af3780a39c", func := "giro/girolaw23.CoreTotal", spec := "coreTotal", inPlace := ["slices.overlaps[int64]", "slices.overlaps[giro/api.Pay]", "math/bits.Add64"], unfollowed := true, recurses := true, named := ["math/bits.divideError", "math/bits.overflowError"], apart := false, narrowed := true }
def CoreTotalUptoSaid : Prop := coreTotalUptoRow.holds Tryz.pinned (OpenSpec.upto coreTotalSpec)

/-- 'girolaw23.CoreStuck', WHERE WHAT IT READS IS OF BULK AT MOST 1048576: true; the input reads as it did. -/
def coreStuckUptoRow : OpenClaim := { program := "ytdhajnjinkknkaagreat", sum := "1f290d682e472d15f9eec0628fbe1a1111295f034a1048eaa9ee35af3780a39c", func := "giro/girolaw23.CoreStuck", spec := "coreStuck", inPlace := ["slices.overlaps[int64]", "slices.overlaps[giro/api.Pay]", "math/bits.Add64"], unfollowed := true, recurses := true, named := ["math/bits.divideError", "math/bits.overflowError"], apart := false, narrowed := true }
def CoreStuckUptoSaid : Prop := coreStuckUptoRow.holds Tryz.pinned (OpenSpec.upto coreStuckSpec)

/-- 'girolaw23.CoreRefused', WHERE WHAT IT READS IS OF BULK AT MOST 1048576: true; the input reads as it did. -/
def coreRefusedUptoRow : OpenClaim := { program := "ytdhajnjinkknkaagreat", sum := "1f290d682e472d15f9eec0628fbe1a1111295f034a1048eaa9ee35af3780a39c", func := "giro/girolaw23.CoreRefused", spec := "coreRefused", inPlace := ["slices.overlaps[int64]", "slices.overlaps[giro/api.Pay]", "math/bits.Add64"], unfollowed := true, recurses := true, named := ["math/bits.divideError", "math/bits.overflowError"], apart := false, narrowed := true }
def CoreRefusedUptoSaid : Prop := coreRefusedUptoRow.holds Tryz.pinned (OpenSpec.upto coreRefusedSpec)

/-- 'girolaw23.CoreKnown', WHERE WHAT IT READS IS OF BULK AT MOST 1048576: true; the input reads as it did. -/
def coreKnownUptoRow : OpenClaim := { program := "ytdhajnjinkknkaagreat", sum := "1f290d682e472d15f9eec0628fbe1a1111295f034a1048eaa9ee35af3780a39c", func := "giro/girolaw23.CoreKnown", spec := "coreKnown", inPlace := ["slices.overlaps[int64]", "slices.overlaps[giro/api.Pay]", "math/bits.Add64"], unfollowed := true, recurses := true, named := ["math/bits.divideError", "math/bits.overflowError"], apart := false, narrowed := true }
def CoreKnownUptoSaid : Prop := coreKnownUptoRow.holds Tryz.pinned (OpenSpec.upto coreKnownSpec)

/-- 'girolaw23.CorePool', WHERE WHAT IT READS IS OF BULK AT MOST 1048576: true; the input reads as it did. -/
def corePoolUptoRow : OpenClaim := { program := "ytdhajnjinkknkaagreat", sum := "1f290d682e472d15f9eec0628fbe1a1111295f034a1048eaa9ee35af3780a39c", func := "giro/girolaw23.CorePool", spec := "corePool", inPlace := ["slices.overlaps[int64]", "slices.overlaps[giro/api.Pay]", "math/bits.Add64"], unfollowed := true, recurses := true, named := ["math/bits.divideError", "math/bits.overflowError"], apart := false, narrowed := true }
def CorePoolUptoSaid : Prop := corePoolUptoRow.holds Tryz.pinned (OpenSpec.upto corePoolSpec)

/-- 'girolaw23.CoreQueue', WHERE WHAT IT READS IS OF BULK AT MOST 1048576: true; the input reads as it did. -/
def coreQueueUptoRow : OpenClaim := { program := "ytdhajnjinkknkaagreat", sum := "1f290d682e472d15f9eec0628fbe1a1111295f034a1048eaa9ee35af3780a39c", func := "giro/girolaw23.CoreQueue", spec := "coreQueue", inPlace := ["slices.overlaps[int64]", "slices.overlaps[giro/api.Pay]", "math/bits.Add64"], unfollowed := true, recurses := true, named := ["math/bits.divideError", "math/bits.overflowError"], apart := false, narrowed := true }
def CoreQueueUptoSaid : Prop := coreQueueUptoRow.holds Tryz.pinned (OpenSpec.upto coreQueueSpec)

/-- 'girolaw23.CorePlays', WHERE WHAT IT READS IS OF BULK AT MOST 1048576: true; the input reads as it did. -/
def corePlaysUptoRow : OpenClaim := { program := "ytdhajnjinkknkaagreat", sum := "1f290d682e472d15f9eec0628fbe1a1111295f034a1048eaa9ee35af3780a39c", func := "giro/girolaw23.CorePlays", spec := "corePlays", inPlace := ["slices.overlaps[int64]", "slices.overlaps[giro/api.Pay]", "math/bits.Add64"], unfollowed := true, recurses := true, named := ["math/bits.divideError", "math/bits.overflowError"], apart := false, narrowed := true }
def CorePlaysUptoSaid : Prop := corePlaysUptoRow.holds Tryz.pinned (OpenSpec.upto corePlaysSpec)

/-- 'girolaw23.CoreIs', WHERE WHAT IT READS IS OF BULK AT MOST 1048576: true; the input reads as it did. -/
def coreIsUptoRow : OpenClaim := { program := "ytdhajnjinkknkaagreat", sum := "1f290d682e472d15f9eec0628fbe1a1111295f034a1048eaa9ee35af3780a39c", func := "giro/girolaw23.CoreIs", spec := "coreIs", inPlace := ["math/bits.Add64", "slices.overlaps[int64]", "slices.overlaps[giro/api.Pay]"], unfollowed := true, recurses := true, named := ["math/bits.divideError", "math/bits.overflowError"], apart := false, narrowed := true }
def CoreIsUptoSaid : Prop := coreIsUptoRow.holds Tryz.pinned (OpenSpec.upto coreIsSpec)

/-- 'girolaw23.CoreStates', WHERE WHAT IT READS IS OF BULK AT MOST 1048576: true; the input reads as it did. -/
def coreStatesUptoRow : OpenClaim := { program := "ytdhajnjinkknkaagreat", sum := "1f290d682e472d15f9eec0628fbe1a1111295f034a1048eaa9ee35af3780a39c", func := "giro/girolaw23.CoreStates", spec := "coreStates", inPlace := ["slices.overlaps[int64]", "slices.overlaps[giro/api.Pay]", "math/bits.Add64"], unfollowed := true, recurses := true, named := ["math/bits.divideError", "math/bits.overflowError"], apart := false, narrowed := true }
def CoreStatesUptoSaid : Prop := coreStatesUptoRow.holds Tryz.pinned (OpenSpec.upto coreStatesSpec)

/-- 'girolaw27.AuditState', WHERE WHAT IT READS IS OF BULK AT MOST 1048576: true; the input reads as it did. -/
def auditStateUptoRow : OpenClaim := { program := "ytdhajnjinkknkaagreat", sum := "1f290d682e472d15f9eec0628fbe1a1111295f034a1048eaa9ee35af3780a39c", func := "giro/girolaw27.AuditState", spec := "auditState", inPlace := ["slices.overlaps[int64]", "slices.overlaps[giro/api.Pay]", "math/bits.Add64"], unfollowed := true, recurses := true, named := ["math/bits.divideError", "math/bits.overflowError"], apart := false, narrowed := true }
def AuditStateUptoSaid : Prop := auditStateUptoRow.holds Tryz.pinned (OpenSpec.upto auditStateSpec)

/-- 'girolaw27.AuditEnds', WHERE WHAT IT READS IS OF BULK AT MOST 1048576: true; the input reads as it did. -/
def auditEndsUptoRow : OpenClaim := { program := "ytdhajnjinkknkaagreat", sum := "1f290d682e472d15f9eec0628fbe1a1111295f034a1048eaa9ee35af3780a39c", func := "giro/girolaw27.AuditEnds", spec := "auditEnds", inPlace := ["slices.overlaps[int64]", "slices.overlaps[giro/api.Pay]", "math/bits.Add64"], unfollowed := true, recurses := true, named := ["math/bits.divideError", "math/bits.overflowError"], apart := false, narrowed := true }
def AuditEndsUptoSaid : Prop := auditEndsUptoRow.holds Tryz.pinned (OpenSpec.upto auditEndsSpec)

end Rows
end Go.Proofs.YtdhajnjinkknkaaGreat
