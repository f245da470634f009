/-
  No cell of these rows narrows 'for every input' (looked for: loops, veiled, ifaces, maps, wideKeys, modest, calm, conditions, laid).
  DERIVED. THE GIVEN ROWS OF THIS SEAT. 12 by the template 'for every input the law returns true; each argument reads behind the call as it read before'; 0 by the template 'total and deterministic' (their statements: YtjjglblggikmeaaGreatTotals.lean).
  GIVEN WITH THE SEED: the statements are not yours to turn. If you find one false, say at which input.
  Laid BY PROGRAM, IN A SANDBOX (cutbox-rows.mjs): the forced cells as the released guide's own fill.sh prints them over the translation fc5e5aafd8f87705… (all of the seat's roots in one cut). By AI agents, Wed Nov 11 2026. No macro, syntax, notation, axiom, sorry.
-/
import Derived.Test.YtjjglblggikmeaaGreatChecked
import GoSem.Claim
import GoSem.ClaimJoined
import GoSem.ClaimMapViews
import Derived.JoinedTies
import Derived.KernelRfl
namespace Go.Proofs.YtjjglblggikmeaaGreat
/- THE CELL 'sum', in the pinned program and in every row, IS THE sha256 OF THE DUMP (.gsa) THAT YtjjglblggikmeaaGreatProg.lean LOADS. Nothing in Lean hashes anything: it is a label: what it is worth is what the hold of that sum in a sandbox is worth. -/
noncomputable def Tryz.pinned : Pinned := { name := "ytjjglblggikmeaagreat", sum := "fc5e5aafd8f8770599494b8d8b3ba2763d45c191ff43a292c94d5de134936415", checked := Tryz.checked }
namespace Rows
def none {H : Type} : Left H := { results := [], args := [] }

/-- 'girolaw25.GateKeeps': WHATEVER THE INPUT: true; the input reads as it did. -/
def gateKeepsSpec : ChangeSpec := { name := "gateKeeps", fn := fun _ => fun
  | [d1, d2, d3, d4] => { results := [.lit (.bool true)], args := [d1, d2, d3, d4] }
  | _ => none }
def gateKeepsRow : OpenClaim := { program := "ytjjglblggikmeaagreat", sum := "fc5e5aafd8f8770599494b8d8b3ba2763d45c191ff43a292c94d5de134936415", func := "giro/girolaw25.GateKeeps", spec := "gateKeeps", inPlace := ["math/bits.Add64", "slices.overlaps[int64]", "slices.overlaps[giro/api.Pay]"], unfollowed := true, recurses := true, named := ["math/bits.divideError", "math/bits.overflowError"], apart := false }
def GateKeepsSaid : Prop := gateKeepsRow.holds Tryz.pinned (OpenSpec.ofChange gateKeepsSpec)

/-- ITS FALSE NEIGHBOUR: 'it returns false'. Refute it at one input. -/
def gateKeepsWrong : ChangeSpec := { name := "gateKeeps", fn := fun _ => fun
  | [d1, d2, d3, d4] => { results := [.lit (.bool false)], args := [d1, d2, d3, d4] }
  | _ => none }
def GateKeepsWrongFalsely : Prop := gateKeepsRow.holds Tryz.pinned (OpenSpec.ofChange gateKeepsWrong)

/-- 'girolaw25.GateRooms': WHATEVER THE INPUT: true; the input reads as it did. -/
def gateRoomsSpec : ChangeSpec := { name := "gateRooms", fn := fun _ => fun
  | [d1, d2] => { results := [.lit (.bool true)], args := [d1, d2] }
  | _ => none }
def gateRoomsRow : OpenClaim := { program := "ytjjglblggikmeaagreat", sum := "fc5e5aafd8f8770599494b8d8b3ba2763d45c191ff43a292c94d5de134936415", func := "giro/girolaw25.GateRooms", spec := "gateRooms", inPlace := ["math/bits.Add64", "slices.overlaps[int64]", "slices.overlaps[giro/api.Pay]"], unfollowed := true, recurses := true, named := ["math/bits.divideError", "math/bits.overflowError"], apart := false }
def GateRoomsSaid : Prop := gateRoomsRow.holds Tryz.pinned (OpenSpec.ofChange gateRoomsSpec)

/-- ITS FALSE NEIGHBOUR: 'it returns false'. Refute it at one input. -/
def gateRoomsWrong : ChangeSpec := { name := "gateRooms", fn := fun _ => fun
  | [d1, d2] => { results := [.lit (.bool false)], args := [d1, d2] }
  | _ => none }
def GateRoomsWrongFalsely : Prop := gateRoomsRow.holds Tryz.pinned (OpenSpec.ofChange gateRoomsWrong)

/-- 'girolaw25.GateBytes': WHATEVER THE INPUT: true; the input reads as it did. -/
def gateBytesSpec : ChangeSpec := { name := "gateBytes", fn := fun _ => fun
  | [d1, d2, d3] => { results := [.lit (.bool true)], args := [d1, d2, d3] }
  | _ => none }
def gateBytesRow : OpenClaim := { program := "ytjjglblggikmeaagreat", sum := "fc5e5aafd8f8770599494b8d8b3ba2763d45c191ff43a292c94d5de134936415", func := "giro/girolaw25.GateBytes", spec := "gateBytes", inPlace := ["math/bits.Add64", "slices.overlaps[int64]", "slices.overlaps[giro/api.Pay]"], unfollowed := true, recurses := true, named := ["math/bits.divideError", "math/bits.overflowError"], apart := false }
def GateBytesSaid : Prop := gateBytesRow.holds Tryz.pinned (OpenSpec.ofChange gateBytesSpec)

/-- ITS FALSE NEIGHBOUR: 'it returns false'. Refute it at one input. -/
def gateBytesWrong : ChangeSpec := { name := "gateBytes", fn := fun _ => fun
  | [d1, d2, d3] => { results := [.lit (.bool false)], args := [d1, d2, d3] }
  | _ => none }
def GateBytesWrongFalsely : Prop := gateBytesRow.holds Tryz.pinned (OpenSpec.ofChange gateBytesWrong)

/-- 'girolaw25.GateSnap': WHATEVER THE INPUT: true; the input reads as it did. -/
def gateSnapSpec : ChangeSpec := { name := "gateSnap", fn := fun _ => fun
  | [d1, d2, d3, d4] => { results := [.lit (.bool true)], args := [d1, d2, d3, d4] }
  | _ => none }
def gateSnapRow : OpenClaim := { program := "ytjjglblggikmeaagreat", sum := "fc5e5aafd8f8770599494b8d8b3ba2763d45c191ff43a292c94d5de134936415", func := "giro/girolaw25.GateSnap", spec := "gateSnap", inPlace := ["math/bits.Add64", "slices.overlaps[int64]", "slices.overlaps[giro/api.Pay]"], unfollowed := true, recurses := true, named := ["math/bits.divideError", "math/bits.overflowError"], apart := false }
def GateSnapSaid : Prop := gateSnapRow.holds Tryz.pinned (OpenSpec.ofChange gateSnapSpec)

/-- ITS FALSE NEIGHBOUR: 'it returns false'. Refute it at one input. -/
def gateSnapWrong : ChangeSpec := { name := "gateSnap", fn := fun _ => fun
  | [d1, d2, d3, d4] => { results := [.lit (.bool false)], args := [d1, d2, d3, d4] }
  | _ => none }
def GateSnapWrongFalsely : Prop := gateSnapRow.holds Tryz.pinned (OpenSpec.ofChange gateSnapWrong)

/-- 'girolaw25.GatePlays': WHATEVER THE INPUT: true; the input reads as it did. -/
def gatePlaysSpec : ChangeSpec := { name := "gatePlays", fn := fun _ => fun
  | [d1, d2, d3, d4] => { results := [.lit (.bool true)], args := [d1, d2, d3, d4] }
  | _ => none }
def gatePlaysRow : OpenClaim := { program := "ytjjglblggikmeaagreat", sum := "fc5e5aafd8f8770599494b8d8b3ba2763d45c191ff43a292c94d5de134936415", func := "giro/girolaw25.GatePlays", spec := "gatePlays", inPlace := ["math/bits.Add64", "slices.overlaps[int64]", "slices.overlaps[giro/api.Pay]"], unfollowed := true, recurses := true, named := ["math/bits.divideError", "math/bits.overflowError"], apart := false }
def GatePlaysSaid : Prop := gatePlaysRow.holds Tryz.pinned (OpenSpec.ofChange gatePlaysSpec)

/-- ITS FALSE NEIGHBOUR: 'it returns false'. Refute it at one input. -/
def gatePlaysWrong : ChangeSpec := { name := "gatePlays", fn := fun _ => fun
  | [d1, d2, d3, d4] => { results := [.lit (.bool false)], args := [d1, d2, d3, d4] }
  | _ => none }
def GatePlaysWrongFalsely : Prop := gatePlaysRow.holds Tryz.pinned (OpenSpec.ofChange gatePlaysWrong)

/-- 'girolaw25.GateCrash': WHATEVER THE INPUT: true; the input reads as it did. -/
def gateCrashSpec : ChangeSpec := { name := "gateCrash", fn := fun _ => fun
  | [d1, d2, d3, d4] => { results := [.lit (.bool true)], args := [d1, d2, d3, d4] }
  | _ => none }
def gateCrashRow : OpenClaim := { program := "ytjjglblggikmeaagreat", sum := "fc5e5aafd8f8770599494b8d8b3ba2763d45c191ff43a292c94d5de134936415", func := "giro/girolaw25.GateCrash", spec := "gateCrash", inPlace := ["math/bits.Add64", "slices.overlaps[int64]", "slices.overlaps[giro/api.Pay]"], unfollowed := true, recurses := true, named := ["math/bits.divideError", "math/bits.overflowError"], apart := false }
def GateCrashSaid : Prop := gateCrashRow.holds Tryz.pinned (OpenSpec.ofChange gateCrashSpec)

/-- ITS FALSE NEIGHBOUR: 'it returns false'. Refute it at one input. -/
def gateCrashWrong : ChangeSpec := { name := "gateCrash", fn := fun _ => fun
  | [d1, d2, d3, d4] => { results := [.lit (.bool false)], args := [d1, d2, d3, d4] }
  | _ => none }
def GateCrashWrongFalsely : Prop := gateCrashRow.holds Tryz.pinned (OpenSpec.ofChange gateCrashWrong)

/-- 'girolaw26.PlayRuns': WHATEVER THE INPUT: true; the input reads as it did. -/
def playRunsSpec : ChangeSpec := { name := "playRuns", fn := fun _ => fun
  | [d1, d2, d3, d4] => { results := [.lit (.bool true)], args := [d1, d2, d3, d4] }
  | _ => none }
def playRunsRow : OpenClaim := { program := "ytjjglblggikmeaagreat", sum := "fc5e5aafd8f8770599494b8d8b3ba2763d45c191ff43a292c94d5de134936415", func := "giro/girolaw26.PlayRuns", spec := "playRuns", inPlace := ["math/bits.Add64", "slices.overlaps[int64]", "slices.overlaps[giro/api.Pay]"], unfollowed := true, recurses := true, named := ["math/bits.divideError", "math/bits.overflowError"], apart := false }
def PlayRunsSaid : Prop := playRunsRow.holds Tryz.pinned (OpenSpec.ofChange playRunsSpec)

/-- ITS FALSE NEIGHBOUR: 'it returns false'. Refute it at one input. -/
def playRunsWrong : ChangeSpec := { name := "playRuns", fn := fun _ => fun
  | [d1, d2, d3, d4] => { results := [.lit (.bool false)], args := [d1, d2, d3, d4] }
  | _ => none }
def PlayRunsWrongFalsely : Prop := playRunsRow.holds Tryz.pinned (OpenSpec.ofChange playRunsWrong)

/-- 'girolaw26.PlayAsked': WHATEVER THE INPUT: true; the input reads as it did. -/
def playAskedSpec : ChangeSpec := { name := "playAsked", fn := fun _ => fun
  | [d1, d2, d3] => { results := [.lit (.bool true)], args := [d1, d2, d3] }
  | _ => none }
def playAskedRow : OpenClaim := { program := "ytjjglblggikmeaagreat", sum := "fc5e5aafd8f8770599494b8d8b3ba2763d45c191ff43a292c94d5de134936415", func := "giro/girolaw26.PlayAsked", spec := "playAsked", inPlace := ["math/bits.Add64", "slices.overlaps[int64]", "slices.overlaps[giro/api.Pay]"], unfollowed := true, recurses := true, named := ["math/bits.divideError", "math/bits.overflowError"], apart := false }
def PlayAskedSaid : Prop := playAskedRow.holds Tryz.pinned (OpenSpec.ofChange playAskedSpec)

/-- ITS FALSE NEIGHBOUR: 'it returns false'. Refute it at one input. -/
def playAskedWrong : ChangeSpec := { name := "playAsked", fn := fun _ => fun
  | [d1, d2, d3] => { results := [.lit (.bool false)], args := [d1, d2, d3] }
  | _ => none }
def PlayAskedWrongFalsely : Prop := playAskedRow.holds Tryz.pinned (OpenSpec.ofChange playAskedWrong)

/-- 'girolaw26.PlayForm': WHATEVER THE INPUT: true; the input reads as it did. -/
def playFormSpec : ChangeSpec := { name := "playForm", fn := fun _ => fun
  | [d1, d2, d3] => { results := [.lit (.bool true)], args := [d1, d2, d3] }
  | _ => none }
def playFormRow : OpenClaim := { program := "ytjjglblggikmeaagreat", sum := "fc5e5aafd8f8770599494b8d8b3ba2763d45c191ff43a292c94d5de134936415", func := "giro/girolaw26.PlayForm", spec := "playForm", inPlace := ["math/bits.Add64", "slices.overlaps[int64]", "slices.overlaps[giro/api.Pay]"], unfollowed := true, recurses := true, named := ["math/bits.divideError", "math/bits.overflowError"], apart := false }
def PlayFormSaid : Prop := playFormRow.holds Tryz.pinned (OpenSpec.ofChange playFormSpec)

/-- ITS FALSE NEIGHBOUR: 'it returns false'. Refute it at one input. -/
def playFormWrong : ChangeSpec := { name := "playForm", fn := fun _ => fun
  | [d1, d2, d3] => { results := [.lit (.bool false)], args := [d1, d2, d3] }
  | _ => none }
def PlayFormWrongFalsely : Prop := playFormRow.holds Tryz.pinned (OpenSpec.ofChange playFormWrong)

/-- 'girotop.TopMoney': WHATEVER THE INPUT: true; the input reads as it did. -/
def topMoneySpec : ChangeSpec := { name := "topMoney", fn := fun _ => fun
  | [d1, d2] => { results := [.lit (.bool true)], args := [d1, d2] }
  | _ => none }
def topMoneyRow : OpenClaim := { program := "ytjjglblggikmeaagreat", sum := "fc5e5aafd8f8770599494b8d8b3ba2763d45c191ff43a292c94d5de134936415", func := "giro/girotop.TopMoney", spec := "topMoney", inPlace := ["math/bits.Add64", "slices.overlaps[int64]", "slices.overlaps[giro/api.Pay]"], unfollowed := true, recurses := true, named := ["math/bits.divideError", "math/bits.overflowError"], apart := false }
def TopMoneySaid : Prop := topMoneyRow.holds Tryz.pinned (OpenSpec.ofChange topMoneySpec)

/-- ITS FALSE NEIGHBOUR: 'it returns false'. Refute it at one input. -/
def topMoneyWrong : ChangeSpec := { name := "topMoney", fn := fun _ => fun
  | [d1, d2] => { results := [.lit (.bool false)], args := [d1, d2] }
  | _ => none }
def TopMoneyWrongFalsely : Prop := topMoneyRow.holds Tryz.pinned (OpenSpec.ofChange topMoneyWrong)

/-- 'girotop.TopFloors': WHATEVER THE INPUT: true; the input reads as it did. -/
def topFloorsSpec : ChangeSpec := { name := "topFloors", fn := fun _ => fun
  | [d1, d2] => { results := [.lit (.bool true)], args := [d1, d2] }
  | _ => none }
def topFloorsRow : OpenClaim := { program := "ytjjglblggikmeaagreat", sum := "fc5e5aafd8f8770599494b8d8b3ba2763d45c191ff43a292c94d5de134936415", func := "giro/girotop.TopFloors", spec := "topFloors", inPlace := ["slices.overlaps[int64]", "slices.overlaps[giro/api.Pay]", "math/bits.Add64"], unfollowed := true, recurses := true, named := ["math/bits.divideError", "math/bits.overflowError"], apart := false }
def TopFloorsSaid : Prop := topFloorsRow.holds Tryz.pinned (OpenSpec.ofChange topFloorsSpec)

/-- ITS FALSE NEIGHBOUR: 'it returns false'. Refute it at one input. -/
def topFloorsWrong : ChangeSpec := { name := "topFloors", fn := fun _ => fun
  | [d1, d2] => { results := [.lit (.bool false)], args := [d1, d2] }
  | _ => none }
def TopFloorsWrongFalsely : Prop := topFloorsRow.holds Tryz.pinned (OpenSpec.ofChange topFloorsWrong)

/-- 'girotop.TopClose': WHATEVER THE INPUT: true; the input reads as it did. -/
def topCloseSpec : ChangeSpec := { name := "topClose", fn := fun _ => fun
  | [d1, d2] => { results := [.lit (.bool true)], args := [d1, d2] }
  | _ => none }
def topCloseRow : OpenClaim := { program := "ytjjglblggikmeaagreat", sum := "fc5e5aafd8f8770599494b8d8b3ba2763d45c191ff43a292c94d5de134936415", func := "giro/girotop.TopClose", spec := "topClose", inPlace := ["math/bits.Add64", "slices.overlaps[int64]", "slices.overlaps[giro/api.Pay]"], unfollowed := true, recurses := true, named := ["math/bits.divideError", "math/bits.overflowError"], apart := false }
def TopCloseSaid : Prop := topCloseRow.holds Tryz.pinned (OpenSpec.ofChange topCloseSpec)

/-- ITS FALSE NEIGHBOUR: 'it returns false'. Refute it at one input. -/
def topCloseWrong : ChangeSpec := { name := "topClose", fn := fun _ => fun
  | [d1, d2] => { results := [.lit (.bool false)], args := [d1, d2] }
  | _ => none }
def TopCloseWrongFalsely : Prop := topCloseRow.holds Tryz.pinned (OpenSpec.ofChange topCloseWrong)

/- THE SECOND FORM. 'bulk': how many values and letters a reading holds, each counted each time it is reached (what is shared counts as often as it is met; a slice's spare places count too). A statement '..UptoSaid' is the law's where the arguments, and the package variables that the reading takes, are together of bulk at most 1048576: NARROWER than '..Said'. Prove '..Said' where nothing that the law and all that it calls make is longer than what came in: it says more and counts as full. Else prove '..UptoSaid'. A law counts once. -/
mutual
def uptoBulk {H : Type} : DataW H → Nat
  | .lit (.string bytes) => bytes.length + 1
  | .lit _ => 1
  | .nil => 1
  | .ptr d => uptoBulk d + 1
  | .slice elems spare => uptoBulkAll elems + uptoBulkAll spare + 1
  | .agg parts => uptoBulkAll parts + 1
  | .iface _ d => uptoBulk d + 1
  | .map entries => uptoBulkEntries entries + 1
  | .held _ => 1
def uptoBulkAll {H : Type} : List (DataW H) → Nat
  | [] => 0
  | d :: r => uptoBulk d + uptoBulkAll r
def uptoBulkEntries {H : Type} : List (Lit × DataW H) → Nat
  | [] => 0
  | x :: r => uptoBulkEntry x + uptoBulkEntries r
def uptoBulkEntry {H : Type} : Lit × DataW H → Nat
  | (.string bytes, d) => bytes.length + uptoBulk d + 1
  | (_, d) => uptoBulk d + 1
 end
def uptoSmall : (H : Type) → List (DataW H) → Bool := fun _ ds => decide (uptoBulkAll ds ≤ 1048576)
def OpenSpec.upto (s : _root_.Go.ChangeSpec) : _root_.Go.OpenSpec := { _root_.Go.OpenSpec.ofChange s with cond := some uptoSmall }

/-- 'girolaw25.GateKeeps', WHERE WHAT IT READS IS OF BULK AT MOST 1048576: true; the input reads as it did. -/
def gateKeepsUptoRow : OpenClaim := { program := "ytjjglblggikmeaagreat", sum := "fc5e5aafd8f8770599494b8d8b3ba2763d45c191ff43a292c94d5de134936415", func := "giro/girolaw25.GateKeeps", spec := "gateKeeps", inPlace := ["math/bits.Add64", "slices.overlaps[int64]", "slices.overlaps[giro/api.Pay]"], unfollowed := true, recurses := true, named := ["math/bits.divideError", "math/bits.overflowError"], apart := false, narrowed := true }
def GateKeepsUptoSaid : Prop := gateKeepsUptoRow.holds Tryz.pinned (OpenSpec.upto gateKeepsSpec)

/-- 'girolaw25.GateRooms', WHERE WHAT IT READS IS OF BULK AT MOST 1048576: true; the input reads as it did. -/
def gateRoomsUptoRow : OpenClaim := { program := "ytjjglblggikmeaagreat", sum := "fc5e5aafd8f8770599494b8d8b3ba2763d45c191ff43a292c94d5de134936415", func := "giro/girolaw25.GateRooms", spec := "gateRooms", inPlace := ["math/bits.Add64", "slices.overlaps[int64]", "slices.overlaps[giro/api.Pay]"], unfollowed := true, recurses := true, named := ["math/bits.divideError", "math/bits.overflowError"], apart := false, narrowed := true }
def GateRoomsUptoSaid : Prop := gateRoomsUptoRow.holds Tryz.pinned (OpenSpec.upto gateRoomsSpec)

/-- 'girolaw25.GateBytes', WHERE WHAT IT READS IS OF BULK AT MOST 1048576: true; the input reads as it did. -/
def gateBytesUptoRow : OpenClaim := { program := "ytjjglblggikmeaagreat", sum := "fc5e5aafd8f8770599494b8d8b3ba2763d45c191ff43a292c94d5de134936415", func := "giro/girolaw25.GateBytes", spec := "gateBytes", inPlace := ["math/bits.Add64", "slices.overlaps[int64]", "slices.overlaps[giro/api.Pay]"], unfollowed := true, recurses := true, named := ["math/bits.divideError", "math/bits.overflowError"], apart := false, narrowed := true }
def GateBytesUptoSaid : Prop := gateBytesUptoRow.holds Tryz.pinned (OpenSpec.upto gateBytesSpec)

/-- 'girolaw25.GateSnap', WHERE WHAT IT READS IS OF BULK AT MOST 1048576: true; the input reads as it did. -/
def gateSnapUptoRow : OpenClaim := { program := "ytjjglblggikmeaagreat", sum := "fc5e5aafd8f8770599494b8d8b3ba2763d45c191ff43a292c94d5de134936415", func := "giro/girolaw25.GateSnap", spec := "gateSnap", inPlace := ["math/bits.Add64", "slices.overlaps[int64]", "slices.overlaps[giro/api.Pay]"], unfollowed := true, recurses := true, named := ["math/bits.divideError", "math/bits.overflowError"], apart := false, narrowed := true }
def GateSnapUptoSaid : Prop := gateSnapUptoRow.holds Tryz.pinned (OpenSpec.upto gateSnapSpec)

/-- 'girolaw25.GatePlays', WHERE WHAT IT READS IS OF BULK AT MOST 1048576: true; the input reads as it did. -/
def gatePlaysUptoRow : OpenClaim := { program := "ytjjglblggikmeaagreat", sum := "fc5e5aafd8f8770599494b8d8b3ba2763d45c191ff43a292c94d5de134936415", func := "giro/girolaw25.GatePlays", spec := "gatePlays", inPlace := ["math/bits.Add64", "slices.overlaps[int64]", "slices.overlaps[giro/api.Pay]"], unfollowed := true, recurses := true, named := ["math/bits.divideError", "math/bits.overflowError"], apart := false, narrowed := true }
def GatePlaysUptoSaid : Prop := gatePlaysUptoRow.holds Tryz.pinned (OpenSpec.upto gatePlaysSpec)

/-- 'girolaw25.GateCrash', WHERE WHAT IT READS IS OF BULK AT MOST 1048576: true; the input reads as it did. -/
def gateCrashUptoRow : OpenClaim := { program := "ytjjglblggikmeaagreat", sum := "fc5e5aafd8f8770599494b8d8b3ba2763d45c191ff43a292c94d5de134936415", func := "giro/girolaw25.GateCrash", spec := "gateCrash", inPlace := ["math/bits.Add64", "slices.overlaps[int64]", "slices.overlaps[giro/api.Pay]"], unfollowed := true, recurses := true, named := ["math/bits.divideError", "math/bits.overflowError"], apart := false, narrowed := true }
def GateCrashUptoSaid : Prop := gateCrashUptoRow.holds Tryz.pinned (OpenSpec.upto gateCrashSpec)

/-- 'girolaw26.PlayRuns', WHERE WHAT IT READS IS OF BULK AT MOST 1048576: true; the input reads as it did. -/
def playRunsUptoRow : OpenClaim := { program := "ytjjglblggikmeaagreat", sum := "fc5e5aafd8f8770599494b8d8b3ba2763d45c191ff43a292c94d5de134936415", func := "giro/girolaw26.PlayRuns", spec := "playRuns", inPlace := ["math/bits.Add64", "slices.overlaps[int64]", "slices.overlaps[giro/api.Pay]"], unfollowed := true, recurses := true, named := ["math/bits.divideError", "math/bits.overflowError"], apart := false, narrowed := true }
def PlayRunsUptoSaid : Prop := playRunsUptoRow.holds Tryz.pinned (OpenSpec.upto playRunsSpec)

/-- 'girolaw26.PlayAsked', WHERE WHAT IT READS IS OF BULK AT MOST 1048576: true; the input reads as it did. -/
def playAskedUptoRow : OpenClaim := { program := "ytjjglblggikmeaagreat", sum := "fc5e5aafd8f8770599494b8d8b3ba2763d45c191ff43a292c94d5de134936415", func := "giro/girolaw26.PlayAsked", spec := "playAsked", inPlace := ["math/bits.Add64", "slices.overlaps[int64]", "slices.overlaps[giro/api.Pay]"], unfollowed := true, recurses := true, named := ["math/bits.divideError", "math/bits.overflowError"], apart := false, narrowed := true }
def PlayAskedUptoSaid : Prop := playAskedUptoRow.holds Tryz.pinned (OpenSpec.upto playAskedSpec)

/-- 'girolaw26.PlayForm', WHERE WHAT IT READS IS OF BULK AT MOST 1048576: true; the input reads as it did. -/
def playFormUptoRow : OpenClaim := { program := "ytjjglblggikmeaagreat", sum := "fc5e5aafd8f8770599494b8d8b3ba2763d45c191ff43a292c94d5de134936415", func := "giro/girolaw26.PlayForm", spec := "playForm", inPlace := ["math/bits.Add64", "slices.overlaps[int64]", "slices.overlaps[giro/api.Pay]"], unfollowed := true, recurses := true, named := ["math/bits.divideError", "math/bits.overflowError"], apart := false, narrowed := true }
def PlayFormUptoSaid : Prop := playFormUptoRow.holds Tryz.pinned (OpenSpec.upto playFormSpec)

/-- 'girotop.TopMoney', WHERE WHAT IT READS IS OF BULK AT MOST 1048576: true; the input reads as it did. -/
def topMoneyUptoRow : OpenClaim := { program := "ytjjglblggikmeaagreat", sum := "fc5e5aafd8f8770599494b8d8b3ba2763d45c191ff43a292c94d5de134936415", func := "giro/girotop.TopMoney", spec := "topMoney", inPlace := ["math/bits.Add64", "slices.overlaps[int64]", "slices.overlaps[giro/api.Pay]"], unfollowed := true, recurses := true, named := ["math/bits.divideError", "math/bits.overflowError"], apart := false, narrowed := true }
def TopMoneyUptoSaid : Prop := topMoneyUptoRow.holds Tryz.pinned (OpenSpec.upto topMoneySpec)

/-- 'girotop.TopFloors', WHERE WHAT IT READS IS OF BULK AT MOST 1048576: true; the input reads as it did. -/
def topFloorsUptoRow : OpenClaim := { program := "ytjjglblggikmeaagreat", sum := "fc5e5aafd8f8770599494b8d8b3ba2763d45c191ff43a292c94d5de134936415", func := "giro/girotop.TopFloors", spec := "topFloors", inPlace := ["slices.overlaps[int64]", "slices.overlaps[giro/api.Pay]", "math/bits.Add64"], unfollowed := true, recurses := true, named := ["math/bits.divideError", "math/bits.overflowError"], apart := false, narrowed := true }
def TopFloorsUptoSaid : Prop := topFloorsUptoRow.holds Tryz.pinned (OpenSpec.upto topFloorsSpec)

/-- 'girotop.TopClose', WHERE WHAT IT READS IS OF BULK AT MOST 1048576: true; the input reads as it did. -/
def topCloseUptoRow : OpenClaim := { program := "ytjjglblggikmeaagreat", sum := "fc5e5aafd8f8770599494b8d8b3ba2763d45c191ff43a292c94d5de134936415", func := "giro/girotop.TopClose", spec := "topClose", inPlace := ["math/bits.Add64", "slices.overlaps[int64]", "slices.overlaps[giro/api.Pay]"], unfollowed := true, recurses := true, named := ["math/bits.divideError", "math/bits.overflowError"], apart := false, narrowed := true }
def TopCloseUptoSaid : Prop := topCloseUptoRow.holds Tryz.pinned (OpenSpec.upto topCloseSpec)

end Rows
end Go.Proofs.YtjjglblggikmeaaGreat
