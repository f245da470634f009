/-
  No cell of these rows narrows 'for every input' (looked for: loops, veiled, ifaces, maps, wideKeys, modest, calm, conditions, laid).
  DERIVED. THE GIVEN ROWS OF THIS SEAT. 8 by the template 'for every input the law returns true; each argument reads behind the call as it read before'; 0 by the template 'total and deterministic' (their statements: YtnlkofpiaeoekaaGreatTotals.lean).
  GIVEN WITH THE SEED: the statements are not yours to turn. If you find one false, say at which input.
  Laid BY PROGRAM, IN A SANDBOX (cutbox-rows.mjs): the forced cells as the released guide's own fill.sh prints them over the translation 58715638bedadc2a… (all of the seat's roots in one cut). By AI agents, Wed Nov 11 2026. No macro, syntax, notation, axiom, sorry.
-/
import Derived.Test.YtnlkofpiaeoekaaGreatChecked
import GoSem.Claim
import GoSem.ClaimJoined
import GoSem.ClaimMapViews
import Derived.JoinedTies
import Derived.KernelRfl
namespace Go.Proofs.YtnlkofpiaeoekaaGreat
/- THE CELL 'sum', in the pinned program and in every row, IS THE sha256 OF THE DUMP (.gsa) THAT YtnlkofpiaeoekaaGreatProg.lean LOADS. Nothing in Lean hashes anything: it is a label: what it is worth is what the hold of that sum in a sandbox is worth. -/
noncomputable def Tryz.pinned : Pinned := { name := "ytnlkofpiaeoekaagreat", sum := "58715638bedadc2ab031abe0737bd78e5598f20ea29289806d90654bcc669291", checked := Tryz.checked }
namespace Rows
def none {H : Type} : Left H := { results := [], args := [] }

/-- 'girolaw27.AuditStuck': WHATEVER THE INPUT: true; the input reads as it did. -/
def auditStuckSpec : ChangeSpec := { name := "auditStuck", fn := fun _ => fun
  | [d1, d2, d3, d4] => { results := [.lit (.bool true)], args := [d1, d2, d3, d4] }
  | _ => none }
def auditStuckRow : OpenClaim := { program := "ytnlkofpiaeoekaagreat", sum := "58715638bedadc2ab031abe0737bd78e5598f20ea29289806d90654bcc669291", func := "giro/girolaw27.AuditStuck", spec := "auditStuck", inPlace := ["math/bits.Add64"], unfollowed := true, recurses := true, named := ["math/bits.divideError", "math/bits.overflowError"], apart := false }
def AuditStuckSaid : Prop := auditStuckRow.holds Tryz.pinned (OpenSpec.ofChange auditStuckSpec)

/-- ITS FALSE NEIGHBOUR: 'it returns false'. Refute it at one input. -/
def auditStuckWrong : ChangeSpec := { name := "auditStuck", fn := fun _ => fun
  | [d1, d2, d3, d4] => { results := [.lit (.bool false)], args := [d1, d2, d3, d4] }
  | _ => none }
def AuditStuckWrongFalsely : Prop := auditStuckRow.holds Tryz.pinned (OpenSpec.ofChange auditStuckWrong)

/-- 'girolaw27.AuditPosts': WHATEVER THE INPUT: true; the input reads as it did. -/
def auditPostsSpec : ChangeSpec := { name := "auditPosts", fn := fun _ => fun
  | [d1, d2, d3, d4] => { results := [.lit (.bool true)], args := [d1, d2, d3, d4] }
  | _ => none }
def auditPostsRow : OpenClaim := { program := "ytnlkofpiaeoekaagreat", sum := "58715638bedadc2ab031abe0737bd78e5598f20ea29289806d90654bcc669291", func := "giro/girolaw27.AuditPosts", spec := "auditPosts", inPlace := ["math/bits.Add64"], unfollowed := true, recurses := true, named := ["math/bits.divideError", "math/bits.overflowError"], apart := false }
def AuditPostsSaid : Prop := auditPostsRow.holds Tryz.pinned (OpenSpec.ofChange auditPostsSpec)

/-- ITS FALSE NEIGHBOUR: 'it returns false'. Refute it at one input. -/
def auditPostsWrong : ChangeSpec := { name := "auditPosts", fn := fun _ => fun
  | [d1, d2, d3, d4] => { results := [.lit (.bool false)], args := [d1, d2, d3, d4] }
  | _ => none }
def AuditPostsWrongFalsely : Prop := auditPostsRow.holds Tryz.pinned (OpenSpec.ofChange auditPostsWrong)

/-- 'girolaw23.CoreKnown': WHATEVER THE INPUT: true; the input reads as it did. -/
def coreKnownSpec : ChangeSpec := { name := "coreKnown", fn := fun _ => fun
  | [d] => { results := [.lit (.bool true)], args := [d] }
  | _ => none }
def coreKnownRow : OpenClaim := { program := "ytnlkofpiaeoekaagreat", sum := "58715638bedadc2ab031abe0737bd78e5598f20ea29289806d90654bcc669291", func := "giro/girolaw23.CoreKnown", spec := "coreKnown", inPlace := ["slices.overlaps[int64]", "slices.overlaps[giro/api.Pay]", "math/bits.Add64"], unfollowed := true, recurses := true, named := ["math/bits.divideError", "math/bits.overflowError"], apart := false }
def CoreKnownSaid : Prop := coreKnownRow.holds Tryz.pinned (OpenSpec.ofChange coreKnownSpec)

/-- ITS FALSE NEIGHBOUR: 'it returns false'. Refute it at one input. -/
def coreKnownWrong : ChangeSpec := { name := "coreKnown", fn := fun _ => fun
  | [d] => { results := [.lit (.bool false)], args := [d] }
  | _ => none }
def CoreKnownWrongFalsely : Prop := coreKnownRow.holds Tryz.pinned (OpenSpec.ofChange coreKnownWrong)

/-- 'girolaw23.CorePool': WHATEVER THE INPUT: true; the input reads as it did. -/
def corePoolSpec : ChangeSpec := { name := "corePool", fn := fun _ => fun
  | [d1, d2, d3] => { results := [.lit (.bool true)], args := [d1, d2, d3] }
  | _ => none }
def corePoolRow : OpenClaim := { program := "ytnlkofpiaeoekaagreat", sum := "58715638bedadc2ab031abe0737bd78e5598f20ea29289806d90654bcc669291", func := "giro/girolaw23.CorePool", spec := "corePool", inPlace := ["slices.overlaps[int64]", "slices.overlaps[giro/api.Pay]", "math/bits.Add64"], unfollowed := true, recurses := true, named := ["math/bits.divideError", "math/bits.overflowError"], apart := false }
def CorePoolSaid : Prop := corePoolRow.holds Tryz.pinned (OpenSpec.ofChange corePoolSpec)

/-- ITS FALSE NEIGHBOUR: 'it returns false'. Refute it at one input. -/
def corePoolWrong : ChangeSpec := { name := "corePool", fn := fun _ => fun
  | [d1, d2, d3] => { results := [.lit (.bool false)], args := [d1, d2, d3] }
  | _ => none }
def CorePoolWrongFalsely : Prop := corePoolRow.holds Tryz.pinned (OpenSpec.ofChange corePoolWrong)

/-- 'girolaw23.CoreQueue': WHATEVER THE INPUT: true; the input reads as it did. -/
def coreQueueSpec : ChangeSpec := { name := "coreQueue", fn := fun _ => fun
  | [d] => { results := [.lit (.bool true)], args := [d] }
  | _ => none }
def coreQueueRow : OpenClaim := { program := "ytnlkofpiaeoekaagreat", sum := "58715638bedadc2ab031abe0737bd78e5598f20ea29289806d90654bcc669291", func := "giro/girolaw23.CoreQueue", spec := "coreQueue", inPlace := ["slices.overlaps[int64]", "slices.overlaps[giro/api.Pay]", "math/bits.Add64"], unfollowed := true, recurses := true, named := ["math/bits.divideError", "math/bits.overflowError"], apart := false }
def CoreQueueSaid : Prop := coreQueueRow.holds Tryz.pinned (OpenSpec.ofChange coreQueueSpec)

/-- ITS FALSE NEIGHBOUR: 'it returns false'. Refute it at one input. -/
def coreQueueWrong : ChangeSpec := { name := "coreQueue", fn := fun _ => fun
  | [d] => { results := [.lit (.bool false)], args := [d] }
  | _ => none }
def CoreQueueWrongFalsely : Prop := coreQueueRow.holds Tryz.pinned (OpenSpec.ofChange coreQueueWrong)

/-- 'girolaw23.CoreRefused': WHATEVER THE INPUT: true; the input reads as it did. -/
def coreRefusedSpec : ChangeSpec := { name := "coreRefused", fn := fun _ => fun
  | [d1, d2, d3] => { results := [.lit (.bool true)], args := [d1, d2, d3] }
  | _ => none }
def coreRefusedRow : OpenClaim := { program := "ytnlkofpiaeoekaagreat", sum := "58715638bedadc2ab031abe0737bd78e5598f20ea29289806d90654bcc669291", func := "giro/girolaw23.CoreRefused", spec := "coreRefused", inPlace := ["slices.overlaps[int64]", "slices.overlaps[giro/api.Pay]", "math/bits.Add64"], unfollowed := true, recurses := true, named := ["math/bits.divideError", "math/bits.overflowError"], apart := false }
def CoreRefusedSaid : Prop := coreRefusedRow.holds Tryz.pinned (OpenSpec.ofChange coreRefusedSpec)

/-- ITS FALSE NEIGHBOUR: 'it returns false'. Refute it at one input. -/
def coreRefusedWrong : ChangeSpec := { name := "coreRefused", fn := fun _ => fun
  | [d1, d2, d3] => { results := [.lit (.bool false)], args := [d1, d2, d3] }
  | _ => none }
def CoreRefusedWrongFalsely : Prop := coreRefusedRow.holds Tryz.pinned (OpenSpec.ofChange coreRefusedWrong)

/-- 'girolaw23.CoreTotal': WHATEVER THE INPUT: true; the input reads as it did. -/
def coreTotalSpec : ChangeSpec := { name := "coreTotal", fn := fun _ => fun
  | [d1, d2] => { results := [.lit (.bool true)], args := [d1, d2] }
  | _ => none }
def coreTotalRow : OpenClaim := { program := "ytnlkofpiaeoekaagreat", sum := "58715638bedadc2ab031abe0737bd78e5598f20ea29289806d90654bcc669291", func := "giro/girolaw23.CoreTotal", spec := "coreTotal", inPlace := ["slices.overlaps[int64]", "slices.overlaps[giro/api.Pay]", "math/bits.Add64"], unfollowed := true, recurses := true, named := ["math/bits.divideError", "math/bits.overflowError"], apart := false }
def CoreTotalSaid : Prop := coreTotalRow.holds Tryz.pinned (OpenSpec.ofChange coreTotalSpec)

/-- ITS FALSE NEIGHBOUR: 'it returns false'. Refute it at one input. -/
def coreTotalWrong : ChangeSpec := { name := "coreTotal", fn := fun _ => fun
  | [d1, d2] => { results := [.lit (.bool false)], args := [d1, d2] }
  | _ => none }
def CoreTotalWrongFalsely : Prop := coreTotalRow.holds Tryz.pinned (OpenSpec.ofChange coreTotalWrong)

/-- 'girolaw23.CoreStuck': WHATEVER THE INPUT: true; the input reads as it did. -/
def coreStuckSpec : ChangeSpec := { name := "coreStuck", fn := fun _ => fun
  | [d1, d2] => { results := [.lit (.bool true)], args := [d1, d2] }
  | _ => none }
def coreStuckRow : OpenClaim := { program := "ytnlkofpiaeoekaagreat", sum := "58715638bedadc2ab031abe0737bd78e5598f20ea29289806d90654bcc669291", func := "giro/girolaw23.CoreStuck", spec := "coreStuck", inPlace := ["slices.overlaps[int64]", "slices.overlaps[giro/api.Pay]", "math/bits.Add64"], unfollowed := true, recurses := true, named := ["math/bits.divideError", "math/bits.overflowError"], apart := false }
def CoreStuckSaid : Prop := coreStuckRow.holds Tryz.pinned (OpenSpec.ofChange coreStuckSpec)

/-- ITS FALSE NEIGHBOUR: 'it returns false'. Refute it at one input. -/
def coreStuckWrong : ChangeSpec := { name := "coreStuck", fn := fun _ => fun
  | [d1, d2] => { results := [.lit (.bool false)], args := [d1, d2] }
  | _ => none }
def CoreStuckWrongFalsely : Prop := coreStuckRow.holds Tryz.pinned (OpenSpec.ofChange coreStuckWrong)

/- THE SECOND FORM. 'bulk': how many values and letters a reading holds, each counted each time it is reached (what is shared counts as often as it is met; a slice's spare places count too). A statement '..UptoSaid' is the law's where the arguments, and the package variables that the reading takes, are together of bulk at most 1048576: NARROWER than '..Said'. Prove '..Said' where nothing that the law and all that it calls make is longer than what came in: it says more and counts as full. Else prove '..UptoSaid'. A law counts once. -/
mutual
def uptoBulk {H : Type} : DataW H → Nat
  | .lit (.string bytes) => bytes.length + 1
  | .lit _ => 1
  | .nil => 1
  | .ptr d => uptoBulk d + 1
  | .slice elems spare => uptoBulkAll elems + uptoBulkAll spare + 1
  | .agg parts => uptoBulkAll parts + 1
  | .iface _ d => uptoBulk d + 1
  | .map entries => uptoBulkEntries entries + 1
  | .held _ => 1
def uptoBulkAll {H : Type} : List (DataW H) → Nat
  | [] => 0
  | d :: r => uptoBulk d + uptoBulkAll r
def uptoBulkEntries {H : Type} : List (Lit × DataW H) → Nat
  | [] => 0
  | x :: r => uptoBulkEntry x + uptoBulkEntries r
def uptoBulkEntry {H : Type} : Lit × DataW H → Nat
  | (.string bytes, d) => bytes.length + uptoBulk d + 1
  | (_, d) => uptoBulk d + 1
 end
def uptoSmall : (H : Type) → List (DataW H) → Bool := fun _ ds => decide (uptoBulkAll ds ≤ 1048576)
def OpenSpec.upto (s : _root_.Go.ChangeSpec) : _root_.Go.OpenSpec := { _root_.Go.OpenSpec.ofChange s with cond := some uptoSmall }

/-- 'girolaw27.AuditStuck', WHERE WHAT IT READS IS OF BULK AT MOST 1048576: true; the input reads as it did. -/
def auditStuckUptoRow : OpenClaim := { program := "ytnlkofpiaeoekaagreat", sum := "58715638bedadc2ab031abe0737bd78e5598f20ea29289806d90654bcc669291", func := "giro/girolaw27.AuditStuck", spec := "auditStuck", inPlace := ["math/bits.Add64"], unfollowed := true, recurses := true, named := ["math/bits.divideError", "math/bits.overflowError"], apart := false, narrowed := true }
def AuditStuckUptoSaid : Prop := auditStuckUptoRow.holds Tryz.pinned (OpenSpec.upto auditStuckSpec)

/-- 'girolaw27.AuditPosts', WHERE WHAT IT READS IS OF BULK AT MOST 1048576: true; the input reads as it did. -/
def auditPostsUptoRow : OpenClaim := { program := "ytnlkofpiaeoekaagreat", sum := "58715638bedadc2ab031abe0737bd78e5598f20ea29289806d90654bcc669291", func := "giro/girolaw27.AuditPosts", spec := "auditPosts", inPlace := ["math/bits.Add64"], unfollowed := true, recurses := true, named := ["math/bits.divideError", "math/bits.overflowError"], apart := false, narrowed := true }
def AuditPostsUptoSaid : Prop := auditPostsUptoRow.holds Tryz.pinned (OpenSpec.upto auditPostsSpec)

/-- 'girolaw23.CoreKnown', WHERE WHAT IT READS IS OF BULK AT MOST 1048576: true; the input reads as it did. -/
def coreKnownUptoRow : OpenClaim := { program := "ytnlkofpiaeoekaagreat", sum := "58715638bedadc2ab031abe0737bd78e5598f20ea29289806d90654bcc669291", func := "giro/girolaw23.CoreKnown", spec := "coreKnown", inPlace := ["slices.overlaps[int64]", "slices.overlaps[giro/api.Pay]", "math/bits.Add64"], unfollowed := true, recurses := true, named := ["math/bits.divideError", "math/bits.overflowError"], apart := false, narrowed := true }
def CoreKnownUptoSaid : Prop := coreKnownUptoRow.holds Tryz.pinned (OpenSpec.upto coreKnownSpec)

/-- 'girolaw23.CorePool', WHERE WHAT IT READS IS OF BULK AT MOST 1048576: true; the input reads as it did. -/
def corePoolUptoRow : OpenClaim := { program := "ytnlkofpiaeoekaagreat", sum := "58715638bedadc2ab031abe0737bd78e5598f20ea29289806d90654bcc669291", func := "giro/girolaw23.CorePool", spec := "corePool", inPlace := ["slices.overlaps[int64]", "slices.overlaps[giro/api.Pay]", "math/bits.Add64"], unfollowed := true, recurses := true, named := ["math/bits.divideError", "math/bits.overflowError"], apart := false, narrowed := true }
def CorePoolUptoSaid : Prop := corePoolUptoRow.holds Tryz.pinned (OpenSpec.upto corePoolSpec)

/-- 'girolaw23.CoreQueue', WHERE WHAT IT READS IS OF BULK AT MOST 1048576: true; the input reads as it did. -/
def coreQueueUptoRow : OpenClaim := { program := "ytnlkofpiaeoekaagreat", sum := "58715638bedadc2ab031abe0737bd78e5598f20ea29289806d90654bcc669291", func := "giro/girolaw23.CoreQueue", spec := "coreQueue", inPlace := ["slices.overlaps[int64]", "slices.overlaps[giro/api.Pay]", "math/bits.Add64"], unfollowed := true, recurses := true, named := ["math/bits.divideError", "math/bits.overflowError"], apart := false, narrowed := true }
def CoreQueueUptoSaid : Prop := coreQueueUptoRow.holds Tryz.pinned (OpenSpec.upto coreQueueSpec)

/-- 'girolaw23.CoreRefused', WHERE WHAT IT READS IS OF BULK AT MOST 1048576: true; the input reads as it did. -/
def coreRefusedUptoRow : OpenClaim := { program := "ytnlkofpiaeoekaagreat", sum := "58715638bedadc2ab031abe0737bd78e5598f20ea29289806d90654bcc669291", func := "giro/girolaw23.CoreRefused", spec := "coreRefused", inPlace := ["slices.overlaps[int64]", "slices.overlaps[giro/api.Pay]", "math/bits.Add64"], unfollowed := true, recurses := true, named := ["math/bits.divideError", "math/bits.overflowError"], apart := false, narrowed := true }
def CoreRefusedUptoSaid : Prop := coreRefusedUptoRow.holds Tryz.pinned (OpenSpec.upto coreRefusedSpec)

/-- 'girolaw23.CoreTotal', WHERE WHAT IT READS IS OF BULK AT MOST 1048576: true; the input reads as it did. -/
def coreTotalUptoRow : OpenClaim := { program := "ytnlkofpiaeoekaagreat", sum := "58715638bedadc2ab031abe0737bd78e5598f20ea29289806d90654bcc669291", func := "giro/girolaw23.CoreTotal", spec := "coreTotal", inPlace := ["slices.overlaps[int64]", "slices.overlaps[giro/api.Pay]", "math/bits.Add64"], unfollowed := true, recurses := true, named := ["math/bits.divideError", "math/bits.overflowError"], apart := false, narrowed := true }
def CoreTotalUptoSaid : Prop := coreTotalUptoRow.holds Tryz.pinned (OpenSpec.upto coreTotalSpec)

/-- 'girolaw23.CoreStuck', WHERE WHAT IT READS IS OF BULK AT MOST 1048576: true; the input reads as it did. -/
def coreStuckUptoRow : OpenClaim := { program := "ytnlkofpiaeoekaagreat", sum := "58715638bedadc2ab031abe0737bd78e5598f20ea29289806d90654bcc669291", func := "giro/girolaw23.CoreStuck", spec := "coreStuck", inPlace := ["slices.overlaps[int64]", "slices.overlaps[giro/api.Pay]", "math/bits.Add64"], unfollowed := true, recurses := true, named := ["math/bits.divideError", "math/bits.overflowError"], apart := false, narrowed := true }
def CoreStuckUptoSaid : Prop := coreStuckUptoRow.holds Tryz.pinned (OpenSpec.upto coreStuckSpec)

end Rows
end Go.Proofs.YtnlkofpiaeoekaaGreat
