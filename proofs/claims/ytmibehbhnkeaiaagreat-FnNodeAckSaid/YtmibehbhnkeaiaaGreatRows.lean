/-
  No cell of these rows narrows 'for every input' (looked for: loops, veiled, ifaces, maps, wideKeys, modest, calm, conditions, laid).
  DERIVED. THE GIVEN ROWS OF THIS SEAT. 9 by the template 'for every input the law returns true; each argument reads behind the call as it read before'; 0 by the template 'total and deterministic' (their statements: YtmibehbhnkeaiaaGreatTotals.lean).
  GIVEN WITH THE SEED: the statements are not yours to turn. If you find one false, say at which input.
  Laid BY PROGRAM, IN A SANDBOX (cutbox-rows.mjs): the forced cells as the released guide's own fill.sh prints them over the translation bfb649853667a1ae… (all of the seat's roots in one cut). By AI agents, Wed Nov 11 2026. No macro, syntax, notation, axiom, sorry.
-/
import Derived.Test.YtmibehbhnkeaiaaGreatChecked
import GoSem.Claim
import GoSem.ClaimJoined
import GoSem.ClaimMapViews
import Derived.JoinedTies
import Derived.KernelRfl
namespace Go.Proofs.YtmibehbhnkeaiaaGreat
/- THE CELL 'sum', in the pinned program and in every row, IS THE sha256 OF THE DUMP (.gsa) THAT YtmibehbhnkeaiaaGreatProg.lean LOADS. Nothing in Lean hashes anything: it is a label: what it is worth is what the hold of that sum in a sandbox is worth. -/
noncomputable def Tryz.pinned : Pinned := { name := "ytmibehbhnkeaiaagreat", sum := "bfb649853667a1ae2892475f9b5e9fb3d5d140c9fd0919c7aed955dde5cb64fd", checked := Tryz.checked }
namespace Rows
def none {H : Type} : Left H := { results := [], args := [] }

/-- 'laws.FnNodeHears': WHATEVER THE INPUT: true; the input reads as it did. -/
def fnNodeHearsSpec : ChangeSpec := { name := "fnNodeHears", fn := fun _ => fun
  | [d] => { results := [.lit (.bool true)], args := [d] }
  | _ => none }
def fnNodeHearsRow : OpenClaim := { program := "ytmibehbhnkeaiaagreat", sum := "bfb649853667a1ae2892475f9b5e9fb3d5d140c9fd0919c7aed955dde5cb64fd", func := "loop.example/lightship/laws.FnNodeHears", spec := "fnNodeHears", inPlace := ["slices.overlaps[loop.example/lightship/impl.Fact]", "slices.overlaps[loop.example/lightship/impl.Item]", "slices.overlaps[loop.example/lightship/impl.Doubt]", "slices.overlaps[int]", "slices.overlaps[loop.example/lightship/impl.Foreign]", "slices.overlaps[loop.example/lightship/impl.Place]"], unfollowed := true, recurses := true, apart := false }
def FnNodeHearsSaid : Prop := fnNodeHearsRow.holds Tryz.pinned (OpenSpec.ofChange fnNodeHearsSpec)

/-- ITS FALSE NEIGHBOUR: 'it returns false'. Refute it at one input. -/
def fnNodeHearsWrong : ChangeSpec := { name := "fnNodeHears", fn := fun _ => fun
  | [d] => { results := [.lit (.bool false)], args := [d] }
  | _ => none }
def FnNodeHearsWrongFalsely : Prop := fnNodeHearsRow.holds Tryz.pinned (OpenSpec.ofChange fnNodeHearsWrong)

/-- 'laws.FnNodeTakes': WHATEVER THE INPUT: true; the input reads as it did. -/
def fnNodeTakesSpec : ChangeSpec := { name := "fnNodeTakes", fn := fun _ => fun
  | [d] => { results := [.lit (.bool true)], args := [d] }
  | _ => none }
def fnNodeTakesRow : OpenClaim := { program := "ytmibehbhnkeaiaagreat", sum := "bfb649853667a1ae2892475f9b5e9fb3d5d140c9fd0919c7aed955dde5cb64fd", func := "loop.example/lightship/laws.FnNodeTakes", spec := "fnNodeTakes", inPlace := ["slices.overlaps[loop.example/lightship/impl.Fact]", "slices.overlaps[loop.example/lightship/impl.Item]", "slices.overlaps[loop.example/lightship/impl.Doubt]", "slices.overlaps[int]", "slices.overlaps[loop.example/lightship/impl.Foreign]", "slices.overlaps[loop.example/lightship/impl.Place]"], unfollowed := true, recurses := true, apart := false }
def FnNodeTakesSaid : Prop := fnNodeTakesRow.holds Tryz.pinned (OpenSpec.ofChange fnNodeTakesSpec)

/-- ITS FALSE NEIGHBOUR: 'it returns false'. Refute it at one input. -/
def fnNodeTakesWrong : ChangeSpec := { name := "fnNodeTakes", fn := fun _ => fun
  | [d] => { results := [.lit (.bool false)], args := [d] }
  | _ => none }
def FnNodeTakesWrongFalsely : Prop := fnNodeTakesRow.holds Tryz.pinned (OpenSpec.ofChange fnNodeTakesWrong)

/-- 'laws.FnNodeAgain': WHATEVER THE INPUT: true; the input reads as it did. -/
def fnNodeAgainSpec : ChangeSpec := { name := "fnNodeAgain", fn := fun _ => fun
  | [d] => { results := [.lit (.bool true)], args := [d] }
  | _ => none }
def fnNodeAgainRow : OpenClaim := { program := "ytmibehbhnkeaiaagreat", sum := "bfb649853667a1ae2892475f9b5e9fb3d5d140c9fd0919c7aed955dde5cb64fd", func := "loop.example/lightship/laws.FnNodeAgain", spec := "fnNodeAgain", inPlace := ["slices.overlaps[loop.example/lightship/impl.Fact]", "slices.overlaps[loop.example/lightship/impl.Item]", "slices.overlaps[loop.example/lightship/impl.Doubt]", "slices.overlaps[int]", "slices.overlaps[loop.example/lightship/impl.Foreign]", "slices.overlaps[loop.example/lightship/impl.Place]"], unfollowed := true, recurses := true, apart := false }
def FnNodeAgainSaid : Prop := fnNodeAgainRow.holds Tryz.pinned (OpenSpec.ofChange fnNodeAgainSpec)

/-- ITS FALSE NEIGHBOUR: 'it returns false'. Refute it at one input. -/
def fnNodeAgainWrong : ChangeSpec := { name := "fnNodeAgain", fn := fun _ => fun
  | [d] => { results := [.lit (.bool false)], args := [d] }
  | _ => none }
def FnNodeAgainWrongFalsely : Prop := fnNodeAgainRow.holds Tryz.pinned (OpenSpec.ofChange fnNodeAgainWrong)

/-- 'laws.FnNodeSelf': WHATEVER THE INPUT: true; the input reads as it did. -/
def fnNodeSelfSpec : ChangeSpec := { name := "fnNodeSelf", fn := fun _ => fun
  | [d] => { results := [.lit (.bool true)], args := [d] }
  | _ => none }
def fnNodeSelfRow : OpenClaim := { program := "ytmibehbhnkeaiaagreat", sum := "bfb649853667a1ae2892475f9b5e9fb3d5d140c9fd0919c7aed955dde5cb64fd", func := "loop.example/lightship/laws.FnNodeSelf", spec := "fnNodeSelf", inPlace := ["slices.overlaps[loop.example/lightship/impl.Fact]", "slices.overlaps[loop.example/lightship/impl.Item]", "slices.overlaps[loop.example/lightship/impl.Doubt]", "slices.overlaps[int]", "slices.overlaps[loop.example/lightship/impl.Foreign]", "slices.overlaps[loop.example/lightship/impl.Place]"], unfollowed := true, recurses := true, apart := false }
def FnNodeSelfSaid : Prop := fnNodeSelfRow.holds Tryz.pinned (OpenSpec.ofChange fnNodeSelfSpec)

/-- ITS FALSE NEIGHBOUR: 'it returns false'. Refute it at one input. -/
def fnNodeSelfWrong : ChangeSpec := { name := "fnNodeSelf", fn := fun _ => fun
  | [d] => { results := [.lit (.bool false)], args := [d] }
  | _ => none }
def FnNodeSelfWrongFalsely : Prop := fnNodeSelfRow.holds Tryz.pinned (OpenSpec.ofChange fnNodeSelfWrong)

/-- 'laws.FnNodeAck': WHATEVER THE INPUT: true; the input reads as it did. -/
def fnNodeAckSpec : ChangeSpec := { name := "fnNodeAck", fn := fun _ => fun
  | [d] => { results := [.lit (.bool true)], args := [d] }
  | _ => none }
def fnNodeAckRow : OpenClaim := { program := "ytmibehbhnkeaiaagreat", sum := "bfb649853667a1ae2892475f9b5e9fb3d5d140c9fd0919c7aed955dde5cb64fd", func := "loop.example/lightship/laws.FnNodeAck", spec := "fnNodeAck", inPlace := ["slices.overlaps[loop.example/lightship/impl.Fact]", "slices.overlaps[loop.example/lightship/impl.Item]", "slices.overlaps[loop.example/lightship/impl.Doubt]", "slices.overlaps[int]", "slices.overlaps[loop.example/lightship/impl.Foreign]", "slices.overlaps[loop.example/lightship/impl.Place]"], unfollowed := true, recurses := true, apart := false }
def FnNodeAckSaid : Prop := fnNodeAckRow.holds Tryz.pinned (OpenSpec.ofChange fnNodeAckSpec)

/-- ITS FALSE NEIGHBOUR: 'it returns false'. Refute it at one input. -/
def fnNodeAckWrong : ChangeSpec := { name := "fnNodeAck", fn := fun _ => fun
  | [d] => { results := [.lit (.bool false)], args := [d] }
  | _ => none }
def FnNodeAckWrongFalsely : Prop := fnNodeAckRow.holds Tryz.pinned (OpenSpec.ofChange fnNodeAckWrong)

/-- 'laws.FnNodeRound': WHATEVER THE INPUT: true; the input reads as it did. -/
def fnNodeRoundSpec : ChangeSpec := { name := "fnNodeRound", fn := fun _ => fun
  | [d] => { results := [.lit (.bool true)], args := [d] }
  | _ => none }
def fnNodeRoundRow : OpenClaim := { program := "ytmibehbhnkeaiaagreat", sum := "bfb649853667a1ae2892475f9b5e9fb3d5d140c9fd0919c7aed955dde5cb64fd", func := "loop.example/lightship/laws.FnNodeRound", spec := "fnNodeRound", inPlace := ["slices.overlaps[loop.example/lightship/impl.Fact]", "slices.overlaps[loop.example/lightship/impl.Item]", "slices.overlaps[loop.example/lightship/impl.Doubt]", "slices.overlaps[int]", "slices.overlaps[loop.example/lightship/impl.Foreign]", "slices.overlaps[loop.example/lightship/impl.Place]"], unfollowed := true, recurses := true, apart := false }
def FnNodeRoundSaid : Prop := fnNodeRoundRow.holds Tryz.pinned (OpenSpec.ofChange fnNodeRoundSpec)

/-- ITS FALSE NEIGHBOUR: 'it returns false'. Refute it at one input. -/
def fnNodeRoundWrong : ChangeSpec := { name := "fnNodeRound", fn := fun _ => fun
  | [d] => { results := [.lit (.bool false)], args := [d] }
  | _ => none }
def FnNodeRoundWrongFalsely : Prop := fnNodeRoundRow.holds Tryz.pinned (OpenSpec.ofChange fnNodeRoundWrong)

/-- 'laws.FnNodeOk': WHATEVER THE INPUT: true; the input reads as it did. -/
def fnNodeOkSpec : ChangeSpec := { name := "fnNodeOk", fn := fun _ => fun
  | [d1, d2] => { results := [.lit (.bool true)], args := [d1, d2] }
  | _ => none }
def fnNodeOkRow : OpenClaim := { program := "ytmibehbhnkeaiaagreat", sum := "bfb649853667a1ae2892475f9b5e9fb3d5d140c9fd0919c7aed955dde5cb64fd", func := "loop.example/lightship/laws.FnNodeOk", spec := "fnNodeOk", inPlace := ["slices.overlaps[loop.example/lightship/impl.Fact]", "slices.overlaps[loop.example/lightship/impl.Item]", "slices.overlaps[loop.example/lightship/impl.Doubt]", "slices.overlaps[int]", "slices.overlaps[loop.example/lightship/impl.Foreign]", "slices.overlaps[loop.example/lightship/impl.Place]"], unfollowed := true, recurses := true, apart := false }
def FnNodeOkSaid : Prop := fnNodeOkRow.holds Tryz.pinned (OpenSpec.ofChange fnNodeOkSpec)

/-- ITS FALSE NEIGHBOUR: 'it returns false'. Refute it at one input. -/
def fnNodeOkWrong : ChangeSpec := { name := "fnNodeOk", fn := fun _ => fun
  | [d1, d2] => { results := [.lit (.bool false)], args := [d1, d2] }
  | _ => none }
def FnNodeOkWrongFalsely : Prop := fnNodeOkRow.holds Tryz.pinned (OpenSpec.ofChange fnNodeOkWrong)

/-- 'laws.FnNodeLeave': WHATEVER THE INPUT: true; the input reads as it did. -/
def fnNodeLeaveSpec : ChangeSpec := { name := "fnNodeLeave", fn := fun _ => fun
  | [d1, d2] => { results := [.lit (.bool true)], args := [d1, d2] }
  | _ => none }
def fnNodeLeaveRow : OpenClaim := { program := "ytmibehbhnkeaiaagreat", sum := "bfb649853667a1ae2892475f9b5e9fb3d5d140c9fd0919c7aed955dde5cb64fd", func := "loop.example/lightship/laws.FnNodeLeave", spec := "fnNodeLeave", inPlace := ["slices.overlaps[loop.example/lightship/impl.Fact]", "slices.overlaps[loop.example/lightship/impl.Item]", "slices.overlaps[loop.example/lightship/impl.Doubt]", "slices.overlaps[int]", "slices.overlaps[loop.example/lightship/impl.Foreign]", "slices.overlaps[loop.example/lightship/impl.Place]"], unfollowed := true, recurses := true, apart := false }
def FnNodeLeaveSaid : Prop := fnNodeLeaveRow.holds Tryz.pinned (OpenSpec.ofChange fnNodeLeaveSpec)

/-- ITS FALSE NEIGHBOUR: 'it returns false'. Refute it at one input. -/
def fnNodeLeaveWrong : ChangeSpec := { name := "fnNodeLeave", fn := fun _ => fun
  | [d1, d2] => { results := [.lit (.bool false)], args := [d1, d2] }
  | _ => none }
def FnNodeLeaveWrongFalsely : Prop := fnNodeLeaveRow.holds Tryz.pinned (OpenSpec.ofChange fnNodeLeaveWrong)

/-- 'laws.FnNodeJoin': WHATEVER THE INPUT: true; the input reads as it did. -/
def fnNodeJoinSpec : ChangeSpec := { name := "fnNodeJoin", fn := fun _ => fun
  | [d1, d2] => { results := [.lit (.bool true)], args := [d1, d2] }
  | _ => none }
def fnNodeJoinRow : OpenClaim := { program := "ytmibehbhnkeaiaagreat", sum := "bfb649853667a1ae2892475f9b5e9fb3d5d140c9fd0919c7aed955dde5cb64fd", func := "loop.example/lightship/laws.FnNodeJoin", spec := "fnNodeJoin", inPlace := ["slices.overlaps[loop.example/lightship/impl.Fact]", "slices.overlaps[loop.example/lightship/impl.Item]", "slices.overlaps[loop.example/lightship/impl.Doubt]", "slices.overlaps[int]", "slices.overlaps[loop.example/lightship/impl.Foreign]", "slices.overlaps[loop.example/lightship/impl.Place]"], unfollowed := true, recurses := true, apart := false }
def FnNodeJoinSaid : Prop := fnNodeJoinRow.holds Tryz.pinned (OpenSpec.ofChange fnNodeJoinSpec)

/-- ITS FALSE NEIGHBOUR: 'it returns false'. Refute it at one input. -/
def fnNodeJoinWrong : ChangeSpec := { name := "fnNodeJoin", fn := fun _ => fun
  | [d1, d2] => { results := [.lit (.bool false)], args := [d1, d2] }
  | _ => none }
def FnNodeJoinWrongFalsely : Prop := fnNodeJoinRow.holds Tryz.pinned (OpenSpec.ofChange fnNodeJoinWrong)

/- THE SECOND FORM. 'bulk': how many values and letters a reading holds, each counted each time it is reached (what is shared counts as often as it is met; a slice's spare places count too). A statement '..UptoSaid' is the law's where the arguments, and the package variables that the reading takes, are together of bulk at most 1048576: NARROWER than '..Said'. Prove '..Said' where nothing that the law and all that it calls make is longer than what came in: it says more and counts as full. Else prove '..UptoSaid'. A law counts once. -/
mutual
def uptoBulk {H : Type} : DataW H → Nat
  | .lit (.string bytes) => bytes.length + 1
  | .lit _ => 1
  | .nil => 1
  | .ptr d => uptoBulk d + 1
  | .slice elems spare => uptoBulkAll elems + uptoBulkAll spare + 1
  | .agg parts => uptoBulkAll parts + 1
  | .iface _ d => uptoBulk d + 1
  | .map entries => uptoBulkEntries entries + 1
  | .held _ => 1
def uptoBulkAll {H : Type} : List (DataW H) → Nat
  | [] => 0
  | d :: r => uptoBulk d + uptoBulkAll r
def uptoBulkEntries {H : Type} : List (Lit × DataW H) → Nat
  | [] => 0
  | x :: r => uptoBulkEntry x + uptoBulkEntries r
def uptoBulkEntry {H : Type} : Lit × DataW H → Nat
  | (.string bytes, d) => bytes.length + uptoBulk d + 1
  | (_, d) => uptoBulk d + 1
 end
def uptoSmall : (H : Type) → List (DataW H) → Bool := fun _ ds => decide (uptoBulkAll ds ≤ 1048576)
def OpenSpec.upto (s : _root_.Go.ChangeSpec) : _root_.Go.OpenSpec := { _root_.Go.OpenSpec.ofChange s with cond := some uptoSmall }

/-- 'laws.FnNodeHears', WHERE WHAT IT READS IS OF BULK AT MOST 1048576: true; the input reads as it did. -/
def fnNodeHearsUptoRow : OpenClaim := { program := "ytmibehbhnkeaiaagreat", sum := "bfb649853667a1ae2892475f9b5e9fb3d5d140c9fd0919c7aed955dde5cb64fd", func := "loop.example/lightship/laws.FnNodeHears", spec := "fnNodeHears", inPlace := ["slices.overlaps[loop.example/lightship/impl.Fact]", "slices.overlaps[loop.example/lightship/impl.Item]", "slices.overlaps[loop.example/lightship/impl.Doubt]", "slices.overlaps[int]", "slices.overlaps[loop.example/lightship/impl.Foreign]", "slices.overlaps[loop.example/lightship/impl.Place]"], unfollowed := true, recurses := true, apart := false, narrowed := true }
def FnNodeHearsUptoSaid : Prop := fnNodeHearsUptoRow.holds Tryz.pinned (OpenSpec.upto fnNodeHearsSpec)

/-- 'laws.FnNodeTakes', WHERE WHAT IT READS IS OF BULK AT MOST 1048576: true; the input reads as it did. -/
def fnNodeTakesUptoRow : OpenClaim := { program := "ytmibehbhnkeaiaagreat", sum := "bfb649853667a1ae2892475f9b5e9fb3d5d140c9fd0919c7aed955dde5cb64fd", func := "loop.example/lightship/laws.FnNodeTakes", spec := "fnNodeTakes", inPlace := ["slices.overlaps[loop.example/lightship/impl.Fact]", "slices.overlaps[loop.example/lightship/impl.Item]", "slices.overlaps[loop.example/lightship/impl.Doubt]", "slices.overlaps[int]", "slices.overlaps[loop.example/lightship/impl.Foreign]", "slices.overlaps[loop.example/lightship/impl.Place]"], unfollowed := true, recurses := true, apart := false, narrowed := true }
def FnNodeTakesUptoSaid : Prop := fnNodeTakesUptoRow.holds Tryz.pinned (OpenSpec.upto fnNodeTakesSpec)

/-- 'laws.FnNodeAgain', WHERE WHAT IT READS IS OF BULK AT MOST 1048576: true; the input reads as it did. -/
def fnNodeAgainUptoRow : OpenClaim := { program := "ytmibehbhnkeaiaagreat", sum := "bfb649853667a1ae2892475f9b5e9fb3d5d140c9fd0919c7aed955dde5cb64fd", func := "loop.example/lightship/laws.FnNodeAgain", spec := "fnNodeAgain", inPlace := ["slices.overlaps[loop.example/lightship/impl.Fact]", "slices.overlaps[loop.example/lightship/impl.Item]", "slices.overlaps[loop.example/lightship/impl.Doubt]", "slices.overlaps[int]", "slices.overlaps[loop.example/lightship/impl.Foreign]", "slices.overlaps[loop.example/lightship/impl.Place]"], unfollowed := true, recurses := true, apart := false, narrowed := true }
def FnNodeAgainUptoSaid : Prop := fnNodeAgainUptoRow.holds Tryz.pinned (OpenSpec.upto fnNodeAgainSpec)

/-- 'laws.FnNodeSelf', WHERE WHAT IT READS IS OF BULK AT MOST 1048576: true; the input reads as it did. -/
def fnNodeSelfUptoRow : OpenClaim := { program := "ytmibehbhnkeaiaagreat", sum := "bfb649853667a1ae2892475f9b5e9fb3d5d140c9fd0919c7aed955dde5cb64fd", func := "loop.example/lightship/laws.FnNodeSelf", spec := "fnNodeSelf", inPlace := ["slices.overlaps[loop.example/lightship/impl.Fact]", "slices.overlaps[loop.example/lightship/impl.Item]", "slices.overlaps[loop.example/lightship/impl.Doubt]", "slices.overlaps[int]", "slices.overlaps[loop.example/lightship/impl.Foreign]", "slices.overlaps[loop.example/lightship/impl.Place]"], unfollowed := true, recurses := true, apart := false, narrowed := true }
def FnNodeSelfUptoSaid : Prop := fnNodeSelfUptoRow.holds Tryz.pinned (OpenSpec.upto fnNodeSelfSpec)

/-- 'laws.FnNodeAck', WHERE WHAT IT READS IS OF BULK AT MOST 1048576: true; the input reads as it did. -/
def fnNodeAckUptoRow : OpenClaim := { program := "ytmibehbhnkeaiaagreat", sum := "bfb649853667a1ae2892475f9b5e9fb3d5d140c9fd0919c7aed955dde5cb64fd", func := "loop.example/lightship/laws.FnNodeAck", spec := "fnNodeAck", inPlace := ["slices.overlaps[loop.example/lightship/impl.Fact]", "slices.overlaps[loop.example/lightship/impl.Item]", "slices.overlaps[loop.example/lightship/impl.Doubt]", "slices.overlaps[int]", "slices.overlaps[loop.example/lightship/impl.Foreign]", "slices.overlaps[loop.example/lightship/impl.Place]"], unfollowed := true, recurses := true, apart := false, narrowed := true }
def FnNodeAckUptoSaid : Prop := fnNodeAckUptoRow.holds Tryz.pinned (OpenSpec.upto fnNodeAckSpec)

/-- 'laws.FnNodeRound', WHERE WHAT IT READS IS OF BULK AT MOST 1048576: true; the input reads as it did. -/
def fnNodeRoundUptoRow : OpenClaim := { program := "ytmibehbhnkeaiaagreat", sum := "bfb649853667a1ae2892475f9b5e9fb3d5d140c9fd0919c7aed955dde5cb64fd", func := "loop.example/lightship/laws.FnNodeRound", spec := "fnNodeRound", inPlace := ["slices.overlaps[loop.example/lightship/impl.Fact]", "slices.overlaps[loop.example/lightship/impl.Item]", "slices.overlaps[loop.example/lightship/impl.Doubt]", "slices.overlaps[int]", "slices.overlaps[loop.example/lightship/impl.Foreign]", "slices.overlaps[loop.example/lightship/impl.Place]"], unfollowed := true, recurses := true, apart := false, narrowed := true }
def FnNodeRoundUptoSaid : Prop := fnNodeRoundUptoRow.holds Tryz.pinned (OpenSpec.upto fnNodeRoundSpec)

/-- 'laws.FnNodeOk', WHERE WHAT IT READS IS OF BULK AT MOST 1048576: true; the input reads as it did. -/
def fnNodeOkUptoRow : OpenClaim := { program := "ytmibehbhnkeaiaagreat", sum := "bfb649853667a1ae2892475f9b5e9fb3d5d140c9fd0919c7aed955dde5cb64fd", func := "loop.example/lightship/laws.FnNodeOk", spec := "fnNodeOk", inPlace := ["slices.overlaps[loop.example/lightship/impl.Fact]", "slices.overlaps[loop.example/lightship/impl.Item]", "slices.overlaps[loop.example/lightship/impl.Doubt]", "slices.overlaps[int]", "slices.overlaps[loop.example/lightship/impl.Foreign]", "slices.overlaps[loop.example/lightship/impl.Place]"], unfollowed := true, recurses := true, apart := false, narrowed := true }
def FnNodeOkUptoSaid : Prop := fnNodeOkUptoRow.holds Tryz.pinned (OpenSpec.upto fnNodeOkSpec)

/-- 'laws.FnNodeLeave', WHERE WHAT IT READS IS OF BULK AT MOST 1048576: true; the input reads as it did. -/
def fnNodeLeaveUptoRow : OpenClaim := { program := "ytmibehbhnkeaiaagreat", sum := "bfb649853667a1ae2892475f9b5e9fb3d5d140c9fd0919c7aed955dde5cb64fd", func := "loop.example/lightship/laws.FnNodeLeave", spec := "fnNodeLeave", inPlace := ["slices.overlaps[loop.example/lightship/impl.Fact]", "slices.overlaps[loop.example/lightship/impl.Item]", "slices.overlaps[loop.example/lightship/impl.Doubt]", "slices.overlaps[int]", "slices.overlaps[loop.example/lightship/impl.Foreign]", "slices.overlaps[loop.example/lightship/impl.Place]"], unfollowed := true, recurses := true, apart := false, narrowed := true }
def FnNodeLeaveUptoSaid : Prop := fnNodeLeaveUptoRow.holds Tryz.pinned (OpenSpec.upto fnNodeLeaveSpec)

/-- 'laws.FnNodeJoin', WHERE WHAT IT READS IS OF BULK AT MOST 1048576: true; the input reads as it did. -/
def fnNodeJoinUptoRow : OpenClaim := { program := "ytmibehbhnkeaiaagreat", sum := "bfb649853667a1ae2892475f9b5e9fb3d5d140c9fd0919c7aed955dde5cb64fd", func := "loop.example/lightship/laws.FnNodeJoin", spec := "fnNodeJoin", inPlace := ["slices.overlaps[loop.example/lightship/impl.Fact]", "slices.overlaps[loop.example/lightship/impl.Item]", "slices.overlaps[loop.example/lightship/impl.Doubt]", "slices.overlaps[int]", "slices.overlaps[loop.example/lightship/impl.Foreign]", "slices.overlaps[loop.example/lightship/impl.Place]"], unfollowed := true, recurses := true, apart := false, narrowed := true }
def FnNodeJoinUptoSaid : Prop := fnNodeJoinUptoRow.holds Tryz.pinned (OpenSpec.upto fnNodeJoinSpec)

end Rows
end Go.Proofs.YtmibehbhnkeaiaaGreat
