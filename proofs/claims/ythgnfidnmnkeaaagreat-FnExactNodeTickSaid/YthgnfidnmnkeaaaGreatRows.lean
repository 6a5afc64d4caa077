/-
  No cell of these rows narrows 'for every input' (looked for: loops, veiled, ifaces, maps, wideKeys, modest, calm, conditions, laid).
  DERIVED. THE GIVEN ROWS OF THIS SEAT. 12 by the template 'for every input the law returns true; each argument reads behind the call as it read before'; 0 by the template 'total and deterministic' (their statements: YthgnfidnmnkeaaaGreatTotals.lean).
  GIVEN WITH THE SEED: the statements are not yours to turn. If you find one false, say at which input.
  Laid BY PROGRAM, IN A SANDBOX (cutbox-rows.mjs): the forced cells as the released guide's own fill.sh prints them over the translation cc8aab6b68fafe0b… (all of the seat's roots in one cut). By AI agents, Wed Nov 11 2026. No macro, syntax, notation, axiom, sorry.
-/
import Derived.Test.YthgnfidnmnkeaaaGreatChecked
import GoSem.Claim
import GoSem.ClaimJoined
import GoSem.ClaimMapViews
import Derived.JoinedTies
import Derived.KernelRfl
namespace Go.Proofs.YthgnfidnmnkeaaaGreat
/- THE CELL 'sum', in the pinned program and in every row, IS THE sha256 OF THE DUMP (.gsa) THAT YthgnfidnmnkeaaaGreatProg.lean LOADS. Nothing in Lean hashes anything: it is a label: what it is worth is what the hold of that sum in a sandbox is worth. -/
noncomputable def Tryz.pinned : Pinned := { name := "ythgnfidnmnkeaaagreat", sum := "cc8aab6b68fafe0b4712501efd45243e8f5274aaec209dda893d2e21e8d61f10", checked := Tryz.checked }
namespace Rows
def none {H : Type} : Left H := { results := [], args := [] }

/-- 'laws.FnExactNodeTrip': WHATEVER THE INPUT: true; the input reads as it did. -/
def fnExactNodeTripSpec : ChangeSpec := { name := "fnExactNodeTrip", fn := fun _ => fun
  | [d1, d2] => { results := [.lit (.bool true)], args := [d1, d2] }
  | _ => none }
def fnExactNodeTripRow : OpenClaim := { program := "ythgnfidnmnkeaaagreat", sum := "cc8aab6b68fafe0b4712501efd45243e8f5274aaec209dda893d2e21e8d61f10", func := "loop.example/lightship/laws.FnExactNodeTrip", spec := "fnExactNodeTrip", unfollowed := true, recurses := true, apart := false }
def FnExactNodeTripSaid : Prop := fnExactNodeTripRow.holds Tryz.pinned (OpenSpec.ofChange fnExactNodeTripSpec)

/-- ITS FALSE NEIGHBOUR: 'it returns false'. Refute it at one input. -/
def fnExactNodeTripWrong : ChangeSpec := { name := "fnExactNodeTrip", fn := fun _ => fun
  | [d1, d2] => { results := [.lit (.bool false)], args := [d1, d2] }
  | _ => none }
def FnExactNodeTripWrongFalsely : Prop := fnExactNodeTripRow.holds Tryz.pinned (OpenSpec.ofChange fnExactNodeTripWrong)

/-- 'laws.FnExactNodeTakes': WHATEVER THE INPUT: true; the input reads as it did. -/
def fnExactNodeTakesSpec : ChangeSpec := { name := "fnExactNodeTakes", fn := fun _ => fun
  | [d1, d2] => { results := [.lit (.bool true)], args := [d1, d2] }
  | _ => none }
def fnExactNodeTakesRow : OpenClaim := { program := "ythgnfidnmnkeaaagreat", sum := "cc8aab6b68fafe0b4712501efd45243e8f5274aaec209dda893d2e21e8d61f10", func := "loop.example/lightship/laws.FnExactNodeTakes", spec := "fnExactNodeTakes", unfollowed := true, recurses := true, apart := false }
def FnExactNodeTakesSaid : Prop := fnExactNodeTakesRow.holds Tryz.pinned (OpenSpec.ofChange fnExactNodeTakesSpec)

/-- ITS FALSE NEIGHBOUR: 'it returns false'. Refute it at one input. -/
def fnExactNodeTakesWrong : ChangeSpec := { name := "fnExactNodeTakes", fn := fun _ => fun
  | [d1, d2] => { results := [.lit (.bool false)], args := [d1, d2] }
  | _ => none }
def FnExactNodeTakesWrongFalsely : Prop := fnExactNodeTakesRow.holds Tryz.pinned (OpenSpec.ofChange fnExactNodeTakesWrong)

/-- 'laws.FnExactNodeGates': WHATEVER THE INPUT: true; the input reads as it did. -/
def fnExactNodeGatesSpec : ChangeSpec := { name := "fnExactNodeGates", fn := fun _ => fun
  | [d1, d2] => { results := [.lit (.bool true)], args := [d1, d2] }
  | _ => none }
def fnExactNodeGatesRow : OpenClaim := { program := "ythgnfidnmnkeaaagreat", sum := "cc8aab6b68fafe0b4712501efd45243e8f5274aaec209dda893d2e21e8d61f10", func := "loop.example/lightship/laws.FnExactNodeGates", spec := "fnExactNodeGates", unfollowed := true, recurses := true, apart := false }
def FnExactNodeGatesSaid : Prop := fnExactNodeGatesRow.holds Tryz.pinned (OpenSpec.ofChange fnExactNodeGatesSpec)

/-- ITS FALSE NEIGHBOUR: 'it returns false'. Refute it at one input. -/
def fnExactNodeGatesWrong : ChangeSpec := { name := "fnExactNodeGates", fn := fun _ => fun
  | [d1, d2] => { results := [.lit (.bool false)], args := [d1, d2] }
  | _ => none }
def FnExactNodeGatesWrongFalsely : Prop := fnExactNodeGatesRow.holds Tryz.pinned (OpenSpec.ofChange fnExactNodeGatesWrong)

/-- 'laws.FnExactWorldOk': WHATEVER THE INPUT: true; the input reads as it did. -/
def fnExactWorldOkSpec : ChangeSpec := { name := "fnExactWorldOk", fn := fun _ => fun
  | [d] => { results := [.lit (.bool true)], args := [d] }
  | _ => none }
def fnExactWorldOkRow : OpenClaim := { program := "ythgnfidnmnkeaaagreat", sum := "cc8aab6b68fafe0b4712501efd45243e8f5274aaec209dda893d2e21e8d61f10", func := "loop.example/lightship/laws.FnExactWorldOk", spec := "fnExactWorldOk", unfollowed := true, recurses := true, apart := false }
def FnExactWorldOkSaid : Prop := fnExactWorldOkRow.holds Tryz.pinned (OpenSpec.ofChange fnExactWorldOkSpec)

/-- ITS FALSE NEIGHBOUR: 'it returns false'. Refute it at one input. -/
def fnExactWorldOkWrong : ChangeSpec := { name := "fnExactWorldOk", fn := fun _ => fun
  | [d] => { results := [.lit (.bool false)], args := [d] }
  | _ => none }
def FnExactWorldOkWrongFalsely : Prop := fnExactWorldOkRow.holds Tryz.pinned (OpenSpec.ofChange fnExactWorldOkWrong)

/-- 'laws.FnExactNodeNear': WHATEVER THE INPUT: true; the input reads as it did. -/
def fnExactNodeNearSpec : ChangeSpec := { name := "fnExactNodeNear", fn := fun _ => fun
  | [d1, d2] => { results := [.lit (.bool true)], args := [d1, d2] }
  | _ => none }
def fnExactNodeNearRow : OpenClaim := { program := "ythgnfidnmnkeaaagreat", sum := "cc8aab6b68fafe0b4712501efd45243e8f5274aaec209dda893d2e21e8d61f10", func := "loop.example/lightship/laws.FnExactNodeNear", spec := "fnExactNodeNear", unfollowed := true, recurses := true, apart := false }
def FnExactNodeNearSaid : Prop := fnExactNodeNearRow.holds Tryz.pinned (OpenSpec.ofChange fnExactNodeNearSpec)

/-- ITS FALSE NEIGHBOUR: 'it returns false'. Refute it at one input. -/
def fnExactNodeNearWrong : ChangeSpec := { name := "fnExactNodeNear", fn := fun _ => fun
  | [d1, d2] => { results := [.lit (.bool false)], args := [d1, d2] }
  | _ => none }
def FnExactNodeNearWrongFalsely : Prop := fnExactNodeNearRow.holds Tryz.pinned (OpenSpec.ofChange fnExactNodeNearWrong)

/-- 'laws.FnExactNodeJoin': WHATEVER THE INPUT: true; the input reads as it did. -/
def fnExactNodeJoinSpec : ChangeSpec := { name := "fnExactNodeJoin", fn := fun _ => fun
  | [d1, d2] => { results := [.lit (.bool true)], args := [d1, d2] }
  | _ => none }
def fnExactNodeJoinRow : OpenClaim := { program := "ythgnfidnmnkeaaagreat", sum := "cc8aab6b68fafe0b4712501efd45243e8f5274aaec209dda893d2e21e8d61f10", func := "loop.example/lightship/laws.FnExactNodeJoin", spec := "fnExactNodeJoin", unfollowed := true, recurses := true, apart := false }
def FnExactNodeJoinSaid : Prop := fnExactNodeJoinRow.holds Tryz.pinned (OpenSpec.ofChange fnExactNodeJoinSpec)

/-- ITS FALSE NEIGHBOUR: 'it returns false'. Refute it at one input. -/
def fnExactNodeJoinWrong : ChangeSpec := { name := "fnExactNodeJoin", fn := fun _ => fun
  | [d1, d2] => { results := [.lit (.bool false)], args := [d1, d2] }
  | _ => none }
def FnExactNodeJoinWrongFalsely : Prop := fnExactNodeJoinRow.holds Tryz.pinned (OpenSpec.ofChange fnExactNodeJoinWrong)

/-- 'laws.FnExactNodeView': WHATEVER THE INPUT: true; the input reads as it did. -/
def fnExactNodeViewSpec : ChangeSpec := { name := "fnExactNodeView", fn := fun _ => fun
  | [d] => { results := [.lit (.bool true)], args := [d] }
  | _ => none }
def fnExactNodeViewRow : OpenClaim := { program := "ythgnfidnmnkeaaagreat", sum := "cc8aab6b68fafe0b4712501efd45243e8f5274aaec209dda893d2e21e8d61f10", func := "loop.example/lightship/laws.FnExactNodeView", spec := "fnExactNodeView", unfollowed := true, recurses := true, apart := false }
def FnExactNodeViewSaid : Prop := fnExactNodeViewRow.holds Tryz.pinned (OpenSpec.ofChange fnExactNodeViewSpec)

/-- ITS FALSE NEIGHBOUR: 'it returns false'. Refute it at one input. -/
def fnExactNodeViewWrong : ChangeSpec := { name := "fnExactNodeView", fn := fun _ => fun
  | [d] => { results := [.lit (.bool false)], args := [d] }
  | _ => none }
def FnExactNodeViewWrongFalsely : Prop := fnExactNodeViewRow.holds Tryz.pinned (OpenSpec.ofChange fnExactNodeViewWrong)

/-- 'laws.FnExactWorldSafe': WHATEVER THE INPUT: true; the input reads as it did. -/
def fnExactWorldSafeSpec : ChangeSpec := { name := "fnExactWorldSafe", fn := fun _ => fun
  | [d] => { results := [.lit (.bool true)], args := [d] }
  | _ => none }
def fnExactWorldSafeRow : OpenClaim := { program := "ythgnfidnmnkeaaagreat", sum := "cc8aab6b68fafe0b4712501efd45243e8f5274aaec209dda893d2e21e8d61f10", func := "loop.example/lightship/laws.FnExactWorldSafe", spec := "fnExactWorldSafe", unfollowed := true, recurses := true, apart := false }
def FnExactWorldSafeSaid : Prop := fnExactWorldSafeRow.holds Tryz.pinned (OpenSpec.ofChange fnExactWorldSafeSpec)

/-- ITS FALSE NEIGHBOUR: 'it returns false'. Refute it at one input. -/
def fnExactWorldSafeWrong : ChangeSpec := { name := "fnExactWorldSafe", fn := fun _ => fun
  | [d] => { results := [.lit (.bool false)], args := [d] }
  | _ => none }
def FnExactWorldSafeWrongFalsely : Prop := fnExactWorldSafeRow.holds Tryz.pinned (OpenSpec.ofChange fnExactWorldSafeWrong)

/-- 'laws.FnExactWorldSame': WHATEVER THE INPUT: true; the input reads as it did. -/
def fnExactWorldSameSpec : ChangeSpec := { name := "fnExactWorldSame", fn := fun _ => fun
  | [d] => { results := [.lit (.bool true)], args := [d] }
  | _ => none }
def fnExactWorldSameRow : OpenClaim := { program := "ythgnfidnmnkeaaagreat", sum := "cc8aab6b68fafe0b4712501efd45243e8f5274aaec209dda893d2e21e8d61f10", func := "loop.example/lightship/laws.FnExactWorldSame", spec := "fnExactWorldSame", unfollowed := true, recurses := true, apart := false }
def FnExactWorldSameSaid : Prop := fnExactWorldSameRow.holds Tryz.pinned (OpenSpec.ofChange fnExactWorldSameSpec)

/-- ITS FALSE NEIGHBOUR: 'it returns false'. Refute it at one input. -/
def fnExactWorldSameWrong : ChangeSpec := { name := "fnExactWorldSame", fn := fun _ => fun
  | [d] => { results := [.lit (.bool false)], args := [d] }
  | _ => none }
def FnExactWorldSameWrongFalsely : Prop := fnExactWorldSameRow.holds Tryz.pinned (OpenSpec.ofChange fnExactWorldSameWrong)

/-- 'laws.FnExactNodeLeave': WHATEVER THE INPUT: true; the input reads as it did. -/
def fnExactNodeLeaveSpec : ChangeSpec := { name := "fnExactNodeLeave", fn := fun _ => fun
  | [d] => { results := [.lit (.bool true)], args := [d] }
  | _ => none }
def fnExactNodeLeaveRow : OpenClaim := { program := "ythgnfidnmnkeaaagreat", sum := "cc8aab6b68fafe0b4712501efd45243e8f5274aaec209dda893d2e21e8d61f10", func := "loop.example/lightship/laws.FnExactNodeLeave", spec := "fnExactNodeLeave", inPlace := ["slices.overlaps[loop.example/lightship/impl.Fact]", "slices.overlaps[loop.example/lightship/impl.Item]", "slices.overlaps[loop.example/lightship/impl.Doubt]"], unfollowed := true, recurses := true, apart := false }
def FnExactNodeLeaveSaid : Prop := fnExactNodeLeaveRow.holds Tryz.pinned (OpenSpec.ofChange fnExactNodeLeaveSpec)

/-- ITS FALSE NEIGHBOUR: 'it returns false'. Refute it at one input. -/
def fnExactNodeLeaveWrong : ChangeSpec := { name := "fnExactNodeLeave", fn := fun _ => fun
  | [d] => { results := [.lit (.bool false)], args := [d] }
  | _ => none }
def FnExactNodeLeaveWrongFalsely : Prop := fnExactNodeLeaveRow.holds Tryz.pinned (OpenSpec.ofChange fnExactNodeLeaveWrong)

/-- 'laws.FnExactNodeTick': WHATEVER THE INPUT: true; the input reads as it did. -/
def fnExactNodeTickSpec : ChangeSpec := { name := "fnExactNodeTick", fn := fun _ => fun
  | [d1, d2] => { results := [.lit (.bool true)], args := [d1, d2] }
  | _ => none }
def fnExactNodeTickRow : OpenClaim := { program := "ythgnfidnmnkeaaagreat", sum := "cc8aab6b68fafe0b4712501efd45243e8f5274aaec209dda893d2e21e8d61f10", func := "loop.example/lightship/laws.FnExactNodeTick", spec := "fnExactNodeTick", inPlace := ["slices.overlaps[loop.example/lightship/impl.Fact]", "slices.overlaps[loop.example/lightship/impl.Item]", "slices.overlaps[loop.example/lightship/impl.Doubt]"], unfollowed := true, recurses := true, apart := false }
def FnExactNodeTickSaid : Prop := fnExactNodeTickRow.holds Tryz.pinned (OpenSpec.ofChange fnExactNodeTickSpec)

/-- ITS FALSE NEIGHBOUR: 'it returns false'. Refute it at one input. -/
def fnExactNodeTickWrong : ChangeSpec := { name := "fnExactNodeTick", fn := fun _ => fun
  | [d1, d2] => { results := [.lit (.bool false)], args := [d1, d2] }
  | _ => none }
def FnExactNodeTickWrongFalsely : Prop := fnExactNodeTickRow.holds Tryz.pinned (OpenSpec.ofChange fnExactNodeTickWrong)

/-- 'laws.FnExactNodeHear': WHATEVER THE INPUT: true; the input reads as it did. -/
def fnExactNodeHearSpec : ChangeSpec := { name := "fnExactNodeHear", fn := fun _ => fun
  | [d1, d2] => { results := [.lit (.bool true)], args := [d1, d2] }
  | _ => none }
def fnExactNodeHearRow : OpenClaim := { program := "ythgnfidnmnkeaaagreat", sum := "cc8aab6b68fafe0b4712501efd45243e8f5274aaec209dda893d2e21e8d61f10", func := "loop.example/lightship/laws.FnExactNodeHear", spec := "fnExactNodeHear", inPlace := ["slices.overlaps[loop.example/lightship/impl.Fact]", "slices.overlaps[loop.example/lightship/impl.Item]", "slices.overlaps[loop.example/lightship/impl.Doubt]", "slices.overlaps[int]", "slices.overlaps[loop.example/lightship/impl.Foreign]", "slices.overlaps[loop.example/lightship/impl.Place]"], unfollowed := true, recurses := true, apart := false }
def FnExactNodeHearSaid : Prop := fnExactNodeHearRow.holds Tryz.pinned (OpenSpec.ofChange fnExactNodeHearSpec)

/-- ITS FALSE NEIGHBOUR: 'it returns false'. Refute it at one input. -/
def fnExactNodeHearWrong : ChangeSpec := { name := "fnExactNodeHear", fn := fun _ => fun
  | [d1, d2] => { results := [.lit (.bool false)], args := [d1, d2] }
  | _ => none }
def FnExactNodeHearWrongFalsely : Prop := fnExactNodeHearRow.holds Tryz.pinned (OpenSpec.ofChange fnExactNodeHearWrong)

/- THE SECOND FORM. 'bulk': how many values and letters a reading holds, each counted each time it is reached (what is shared counts as often as it is met; a slice's spare places count too). A statement '..UptoSaid' is the law's where the arguments, and the package variables that the reading takes, are together of bulk at most 1048576: NARROWER than '..Said'. Prove '..Said' where nothing that the law and all that it calls make is longer than what came in: it says more and counts as full. Else prove '..UptoSaid'. A law counts once. -/
mutual
def uptoBulk {H : Type} : DataW H → Nat
  | .lit (.string bytes) => bytes.length + 1
  | .lit _ => 1
  | .nil => 1
  | .ptr d => uptoBulk d + 1
  | .slice elems spare => uptoBulkAll elems + uptoBulkAll spare + 1
  | .agg parts => uptoBulkAll parts + 1
  | .iface _ d => uptoBulk d + 1
  | .map entries => uptoBulkEntries entries + 1
  | .held _ => 1
def uptoBulkAll {H : Type} : List (DataW H) → Nat
  | [] => 0
  | d :: r => uptoBulk d + uptoBulkAll r
def uptoBulkEntries {H : Type} : List (Lit × DataW H) → Nat
  | [] => 0
  | x :: r => uptoBulkEntry x + uptoBulkEntries r
def uptoBulkEntry {H : Type} : Lit × DataW H → Nat
  | (.string bytes, d) => bytes.length + uptoBulk d + 1
  | (_, d) => uptoBulk d + 1
 end
def uptoSmall : (H : Type) → List (DataW H) → Bool := fun _ ds => decide (uptoBulkAll ds ≤ 1048576)
def OpenSpec.upto (s : _root_.Go.ChangeSpec) : _root_.Go.OpenSpec := { _root_.Go.OpenSpec.ofChange s with cond := some uptoSmall }

/-- 'laws.FnExactNodeTrip', WHERE WHAT IT READS IS OF BULK AT MOST 1048576: true; the input reads as it did. -/
def fnExactNodeTripUptoRow : OpenClaim := { program := "ythgnfidnmnkeaaagreat", sum := "cc8aab6b68fafe0b4712501efd45243e8f5274aaec209dda893d2e21e8d61f10", func := "loop.example/lightship/laws.FnExactNodeTrip", spec := "fnExactNodeTrip", unfollowed := true, recurses := true, apart := false, narrowed := true }
def FnExactNodeTripUptoSaid : Prop := fnExactNodeTripUptoRow.holds Tryz.pinned (OpenSpec.upto fnExactNodeTripSpec)

/-- 'laws.FnExactNodeTakes', WHERE WHAT IT READS IS OF BULK AT MOST 1048576: true; the input reads as it did. -/
def fnExactNodeTakesUptoRow : OpenClaim := { program := "ythgnfidnmnkeaaagreat", sum := "cc8aab6b68fafe0b4712501efd45243e8f5274aaec209dda893d2e21e8d61f10", func := "loop.example/lightship/laws.FnExactNodeTakes", spec := "fnExactNodeTakes", unfollowed := true, recurses := true, apart := false, narrowed := true }
def FnExactNodeTakesUptoSaid : Prop := fnExactNodeTakesUptoRow.holds Tryz.pinned (OpenSpec.upto fnExactNodeTakesSpec)

/-- 'laws.FnExactNodeGates', WHERE WHAT IT READS IS OF BULK AT MOST 1048576: true; the input reads as it did. -/
def fnExactNodeGatesUptoRow : OpenClaim := { program := "ythgnfidnmnkeaaagreat", sum := "cc8aab6b68fafe0b4712501efd45243e8f5274aaec209dda893d2e21e8d61f10", func := "loop.example/lightship/laws.FnExactNodeGates", spec := "fnExactNodeGates", unfollowed := true, recurses := true, apart := false, narrowed := true }
def FnExactNodeGatesUptoSaid : Prop := fnExactNodeGatesUptoRow.holds Tryz.pinned (OpenSpec.upto fnExactNodeGatesSpec)

/-- 'laws.FnExactWorldOk', WHERE WHAT IT READS IS OF BULK AT MOST 1048576: true; the input reads as it did. -/
def fnExactWorldOkUptoRow : OpenClaim := { program := "ythgnfidnmnkeaaagreat", sum := "cc8aab6b68fafe0b4712501efd45243e8f5274aaec209dda893d2e21e8d61f10", func := "loop.example/lightship/laws.FnExactWorldOk", spec := "fnExactWorldOk", unfollowed := true, recurses := true, apart := false, narrowed := true }
def FnExactWorldOkUptoSaid : Prop := fnExactWorldOkUptoRow.holds Tryz.pinned (OpenSpec.upto fnExactWorldOkSpec)

/-- 'laws.FnExactNodeNear', WHERE WHAT IT READS IS OF BULK AT MOST 1048576: true; the input reads as it did. -/
def fnExactNodeNearUptoRow : OpenClaim := { program := "ythgnfidnmnkeaaagreat", sum := "cc8aab6b68fafe0b4712501efd45243e8f5274aaec209dda893d2e21e8d61f10", func := "loop.example/lightship/laws.FnExactNodeNear", spec := "fnExactNodeNear", unfollowed := true, recurses := true, apart := false, narrowed := true }
def FnExactNodeNearUptoSaid : Prop := fnExactNodeNearUptoRow.holds Tryz.pinned (OpenSpec.upto fnExactNodeNearSpec)

/-- 'laws.FnExactNodeJoin', WHERE WHAT IT READS IS OF BULK AT MOST 1048576: true; the input reads as it did. -/
def fnExactNodeJoinUptoRow : OpenClaim := { program := "ythgnfidnmnkeaaagreat", sum := "cc8aab6b68fafe0b4712501efd45243e8f5274aaec209dda893d2e21e8d61f10", func := "loop.example/lightship/laws.FnExactNodeJoin", spec := "fnExactNodeJoin", unfollowed := true, recurses := true, apart := false, narrowed := true }
def FnExactNodeJoinUptoSaid : Prop := fnExactNodeJoinUptoRow.holds Tryz.pinned (OpenSpec.upto fnExactNodeJoinSpec)

/-- 'laws.FnExactNodeView', WHERE WHAT IT READS IS OF BULK AT MOST 1048576: true; the input reads as it did. -/
def fnExactNodeViewUptoRow : OpenClaim := { program := "ythgnfidnmnkeaaagreat", sum := "cc8aab6b68fafe0b4712501efd45243e8f5274aaec209dda893d2e21e8d61f10", func := "loop.example/lightship/laws.FnExactNodeView", spec := "fnExactNodeView", unfollowed := true, recurses := true, apart := false, narrowed := true }
def FnExactNodeViewUptoSaid : Prop := fnExactNodeViewUptoRow.holds Tryz.pinned (OpenSpec.upto fnExactNodeViewSpec)

/-- 'laws.FnExactWorldSafe', WHERE WHAT IT READS IS OF BULK AT MOST 1048576: true; the input reads as it did. -/
def fnExactWorldSafeUptoRow : OpenClaim := { program := "ythgnfidnmnkeaaagreat", sum := "cc8aab6b68fafe0b4712501efd45243e8f5274aaec209dda893d2e21e8d61f10", func := "loop.example/lightship/laws.FnExactWorldSafe", spec := "fnExactWorldSafe", unfollowed := true, recurses := true, apart := false, narrowed := true }
def FnExactWorldSafeUptoSaid : Prop := fnExactWorldSafeUptoRow.holds Tryz.pinned (OpenSpec.upto fnExactWorldSafeSpec)

/-- 'laws.FnExactWorldSame', WHERE WHAT IT READS IS OF BULK AT MOST 1048576: true; the input reads as it did. -/
def fnExactWorldSameUptoRow : OpenClaim := { program := "ythgnfidnmnkeaaagreat", sum := "cc8aab6b68fafe0b4712501efd45243e8f5274aaec209dda893d2e21e8d61f10", func := "loop.example/lightship/laws.FnExactWorldSame", spec := "fnExactWorldSame", unfollowed := true, recurses := true, apart := false, narrowed := true }
def FnExactWorldSameUptoSaid : Prop := fnExactWorldSameUptoRow.holds Tryz.pinned (OpenSpec.upto fnExactWorldSameSpec)

/-- 'laws.FnExactNodeLeave', WHERE WHAT IT READS IS OF BULK AT MOST 1048576: true; the input reads as it did. -/
def fnExactNodeLeaveUptoRow : OpenClaim := { program := "ythgnfidnmnkeaaagreat", sum := "cc8aab6b68fafe0b4712501efd45243e8f5274aaec209dda893d2e21e8d61f10", func := "loop.example/lightship/laws.FnExactNodeLeave", spec := "fnExactNodeLeave", inPlace := ["slices.overlaps[loop.example/lightship/impl.Fact]", "slices.overlaps[loop.example/lightship/impl.Item]", "slices.overlaps[loop.example/lightship/impl.Doubt]"], unfollowed := true, recurses := true, apart := false, narrowed := true }
def FnExactNodeLeaveUptoSaid : Prop := fnExactNodeLeaveUptoRow.holds Tryz.pinned (OpenSpec.upto fnExactNodeLeaveSpec)

/-- 'laws.FnExactNodeTick', WHERE WHAT IT READS IS OF BULK AT MOST 1048576: true; the input reads as it did. -/
def fnExactNodeTickUptoRow : OpenClaim := { program := "ythgnfidnmnkeaaagreat", sum := "cc8aab6b68fafe0b4712501efd45243e8f5274aaec209dda893d2e21e8d61f10", func := "loop.example/lightship/laws.FnExactNodeTick", spec := "fnExactNodeTick", inPlace := ["slices.overlaps[loop.example/lightship/impl.Fact]", "slices.overlaps[loop.example/lightship/impl.Item]", "slices.overlaps[loop.example/lightship/impl.Doubt]"], unfollowed := true, recurses := true, apart := false, narrowed := true }
def FnExactNodeTickUptoSaid : Prop := fnExactNodeTickUptoRow.holds Tryz.pinned (OpenSpec.upto fnExactNodeTickSpec)

/-- 'laws.FnExactNodeHear', WHERE WHAT IT READS IS OF BULK AT MOST 1048576: true; the input reads as it did. -/
def fnExactNodeHearUptoRow : OpenClaim := { program := "ythgnfidnmnkeaaagreat", sum := "cc8aab6b68fafe0b4712501efd45243e8f5274aaec209dda893d2e21e8d61f10", func := "loop.example/lightship/laws.FnExactNodeHear", spec := "fnExactNodeHear", inPlace := ["slices.overlaps[loop.example/lightship/impl.Fact]", "slices.overlaps[loop.example/lightship/impl.Item]", "slices.overlaps[loop.example/lightship/impl.Doubt]", "slices.overlaps[int]", "slices.overlaps[loop.example/lightship/impl.Foreign]", "slices.overlaps[loop.example/lightship/impl.Place]"], unfollowed := true, recurses := true, apart := false, narrowed := true }
def FnExactNodeHearUptoSaid : Prop := fnExactNodeHearUptoRow.holds Tryz.pinned (OpenSpec.upto fnExactNodeHearSpec)

end Rows
end Go.Proofs.YthgnfidnmnkeaaaGreat
