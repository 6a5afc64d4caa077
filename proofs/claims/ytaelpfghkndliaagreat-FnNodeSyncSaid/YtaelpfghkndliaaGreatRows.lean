/-
  No cell of these rows narrows 'for every input' (looked for: loops, veiled, ifaces, maps, wideKeys, modest, calm, conditions, laid).
  DERIVED. THE GIVEN ROWS OF THIS SEAT. 6 by the template 'for every input the law returns true; each argument reads behind the call as it read before'; 0 by the template 'total and deterministic' (their statements: YtaelpfghkndliaaGreatTotals.lean).
  GIVEN WITH THE SEED: the statements are not yours to turn. If you find one false, say at which input.
  Laid BY PROGRAM, IN A SANDBOX (cutbox-rows.mjs): the forced cells as the released guide's own fill.sh prints them over the translation 45294403a5bebe2a… (all of the seat's roots in one cut). By AI agents, Wed Nov 11 2026. No macro, syntax, notation, axiom, sorry.
-/
import Derived.Test.YtaelpfghkndliaaGreatChecked
import GoSem.Claim
import GoSem.ClaimJoined
import GoSem.ClaimMapViews
import Derived.JoinedTies
import Derived.KernelRfl
namespace Go.Proofs.YtaelpfghkndliaaGreat
/- THE CELL 'sum', in the pinned program and in every row, IS THE sha256 OF THE DUMP (.gsa) THAT YtaelpfghkndliaaGreatProg.lean LOADS. Nothing in Lean hashes anything: it is a label: what it is worth is what the hold of that sum in a sandbox is worth. -/
noncomputable def Tryz.pinned : Pinned := { name := "ytaelpfghkndliaagreat", sum := "45294403a5bebe2a16a91474ed4c8eaffaf21c81e417fdb0907e495ab0901313", checked := Tryz.checked }
namespace Rows
def none {H : Type} : Left H := { results := [], args := [] }

/-- 'laws.FnExactNodeHear': WHATEVER THE INPUT: true; the input reads as it did. -/
def fnExactNodeHearSpec : ChangeSpec := { name := "fnExactNodeHear", fn := fun _ => fun
  | [d1, d2] => { results := [.lit (.bool true)], args := [d1, d2] }
  | _ => none }
def fnExactNodeHearRow : OpenClaim := { program := "ytaelpfghkndliaagreat", sum := "45294403a5bebe2a16a91474ed4c8eaffaf21c81e417fdb0907e495ab0901313", func := "loop.example/lightship/laws.FnExactNodeHear", spec := "fnExactNodeHear", inPlace := ["slices.overlaps[loop.example/lightship/impl.Fact]", "slices.overlaps[loop.example/lightship/impl.Item]", "slices.overlaps[loop.example/lightship/impl.Doubt]", "slices.overlaps[int]", "slices.overlaps[loop.example/lightship/impl.Foreign]", "slices.overlaps[loop.example/lightship/impl.Place]"], unfollowed := true, recurses := true, apart := false }
def FnExactNodeHearSaid : Prop := fnExactNodeHearRow.holds Tryz.pinned (OpenSpec.ofChange fnExactNodeHearSpec)

/-- ITS FALSE NEIGHBOUR: 'it returns false'. Refute it at one input. -/
def fnExactNodeHearWrong : ChangeSpec := { name := "fnExactNodeHear", fn := fun _ => fun
  | [d1, d2] => { results := [.lit (.bool false)], args := [d1, d2] }
  | _ => none }
def FnExactNodeHearWrongFalsely : Prop := fnExactNodeHearRow.holds Tryz.pinned (OpenSpec.ofChange fnExactNodeHearWrong)

/-- 'laws.FnNodePing': WHATEVER THE INPUT: true; the input reads as it did. -/
def fnNodePingSpec : ChangeSpec := { name := "fnNodePing", fn := fun _ => fun
  | [d] => { results := [.lit (.bool true)], args := [d] }
  | _ => none }
def fnNodePingRow : OpenClaim := { program := "ytaelpfghkndliaagreat", sum := "45294403a5bebe2a16a91474ed4c8eaffaf21c81e417fdb0907e495ab0901313", func := "loop.example/lightship/laws.FnNodePing", spec := "fnNodePing", inPlace := ["slices.overlaps[loop.example/lightship/impl.Fact]", "slices.overlaps[loop.example/lightship/impl.Item]", "slices.overlaps[loop.example/lightship/impl.Doubt]", "slices.overlaps[int]", "slices.overlaps[loop.example/lightship/impl.Foreign]", "slices.overlaps[loop.example/lightship/impl.Place]"], unfollowed := true, recurses := true, apart := false }
def FnNodePingSaid : Prop := fnNodePingRow.holds Tryz.pinned (OpenSpec.ofChange fnNodePingSpec)

/-- ITS FALSE NEIGHBOUR: 'it returns false'. Refute it at one input. -/
def fnNodePingWrong : ChangeSpec := { name := "fnNodePing", fn := fun _ => fun
  | [d] => { results := [.lit (.bool false)], args := [d] }
  | _ => none }
def FnNodePingWrongFalsely : Prop := fnNodePingRow.holds Tryz.pinned (OpenSpec.ofChange fnNodePingWrong)

/-- 'laws.FnNodeAsk': WHATEVER THE INPUT: true; the input reads as it did. -/
def fnNodeAskSpec : ChangeSpec := { name := "fnNodeAsk", fn := fun _ => fun
  | [d] => { results := [.lit (.bool true)], args := [d] }
  | _ => none }
def fnNodeAskRow : OpenClaim := { program := "ytaelpfghkndliaagreat", sum := "45294403a5bebe2a16a91474ed4c8eaffaf21c81e417fdb0907e495ab0901313", func := "loop.example/lightship/laws.FnNodeAsk", spec := "fnNodeAsk", inPlace := ["slices.overlaps[loop.example/lightship/impl.Fact]", "slices.overlaps[loop.example/lightship/impl.Item]", "slices.overlaps[loop.example/lightship/impl.Doubt]", "slices.overlaps[int]", "slices.overlaps[loop.example/lightship/impl.Foreign]", "slices.overlaps[loop.example/lightship/impl.Place]"], unfollowed := true, recurses := true, apart := false }
def FnNodeAskSaid : Prop := fnNodeAskRow.holds Tryz.pinned (OpenSpec.ofChange fnNodeAskSpec)

/-- ITS FALSE NEIGHBOUR: 'it returns false'. Refute it at one input. -/
def fnNodeAskWrong : ChangeSpec := { name := "fnNodeAsk", fn := fun _ => fun
  | [d] => { results := [.lit (.bool false)], args := [d] }
  | _ => none }
def FnNodeAskWrongFalsely : Prop := fnNodeAskRow.holds Tryz.pinned (OpenSpec.ofChange fnNodeAskWrong)

/-- 'laws.FnNodeSync': WHATEVER THE INPUT: true; the input reads as it did. -/
def fnNodeSyncSpec : ChangeSpec := { name := "fnNodeSync", fn := fun _ => fun
  | [d] => { results := [.lit (.bool true)], args := [d] }
  | _ => none }
def fnNodeSyncRow : OpenClaim := { program := "ytaelpfghkndliaagreat", sum := "45294403a5bebe2a16a91474ed4c8eaffaf21c81e417fdb0907e495ab0901313", func := "loop.example/lightship/laws.FnNodeSync", spec := "fnNodeSync", inPlace := ["slices.overlaps[loop.example/lightship/impl.Fact]", "slices.overlaps[loop.example/lightship/impl.Item]", "slices.overlaps[loop.example/lightship/impl.Doubt]", "slices.overlaps[int]", "slices.overlaps[loop.example/lightship/impl.Foreign]", "slices.overlaps[loop.example/lightship/impl.Place]"], unfollowed := true, recurses := true, apart := false }
def FnNodeSyncSaid : Prop := fnNodeSyncRow.holds Tryz.pinned (OpenSpec.ofChange fnNodeSyncSpec)

/-- ITS FALSE NEIGHBOUR: 'it returns false'. Refute it at one input. -/
def fnNodeSyncWrong : ChangeSpec := { name := "fnNodeSync", fn := fun _ => fun
  | [d] => { results := [.lit (.bool false)], args := [d] }
  | _ => none }
def FnNodeSyncWrongFalsely : Prop := fnNodeSyncRow.holds Tryz.pinned (OpenSpec.ofChange fnNodeSyncWrong)

/-- 'laws.FnNodeHears': WHATEVER THE INPUT: true; the input reads as it did. -/
def fnNodeHearsSpec : ChangeSpec := { name := "fnNodeHears", fn := fun _ => fun
  | [d] => { results := [.lit (.bool true)], args := [d] }
  | _ => none }
def fnNodeHearsRow : OpenClaim := { program := "ytaelpfghkndliaagreat", sum := "45294403a5bebe2a16a91474ed4c8eaffaf21c81e417fdb0907e495ab0901313", func := "loop.example/lightship/laws.FnNodeHears", spec := "fnNodeHears", inPlace := ["slices.overlaps[loop.example/lightship/impl.Fact]", "slices.overlaps[loop.example/lightship/impl.Item]", "slices.overlaps[loop.example/lightship/impl.Doubt]", "slices.overlaps[int]", "slices.overlaps[loop.example/lightship/impl.Foreign]", "slices.overlaps[loop.example/lightship/impl.Place]"], unfollowed := true, recurses := true, apart := false }
def FnNodeHearsSaid : Prop := fnNodeHearsRow.holds Tryz.pinned (OpenSpec.ofChange fnNodeHearsSpec)

/-- ITS FALSE NEIGHBOUR: 'it returns false'. Refute it at one input. -/
def fnNodeHearsWrong : ChangeSpec := { name := "fnNodeHears", fn := fun _ => fun
  | [d] => { results := [.lit (.bool false)], args := [d] }
  | _ => none }
def FnNodeHearsWrongFalsely : Prop := fnNodeHearsRow.holds Tryz.pinned (OpenSpec.ofChange fnNodeHearsWrong)

/-- 'laws.FnNodeTakes': WHATEVER THE INPUT: true; the input reads as it did. -/
def fnNodeTakesSpec : ChangeSpec := { name := "fnNodeTakes", fn := fun _ => fun
  | [d] => { results := [.lit (.bool true)], args := [d] }
  | _ => none }
def fnNodeTakesRow : OpenClaim := { program := "ytaelpfghkndliaagreat", sum := "45294403a5bebe2a16a91474ed4c8eaffaf21c81e417fdb0907e495ab0901313", func := "loop.example/lightship/laws.FnNodeTakes", spec := "fnNodeTakes", inPlace := ["slices.overlaps[loop.example/lightship/impl.Fact]", "slices.overlaps[loop.example/lightship/impl.Item]", "slices.overlaps[loop.example/lightship/impl.Doubt]", "slices.overlaps[int]", "slices.overlaps[loop.example/lightship/impl.Foreign]", "slices.overlaps[loop.example/lightship/impl.Place]"], unfollowed := true, recurses := true, apart := false }
def FnNodeTakesSaid : Prop := fnNodeTakesRow.holds Tryz.pinned (OpenSpec.ofChange fnNodeTakesSpec)

/-- ITS FALSE NEIGHBOUR: 'it returns false'. Refute it at one input. -/
def fnNodeTakesWrong : ChangeSpec := { name := "fnNodeTakes", fn := fun _ => fun
  | [d] => { results := [.lit (.bool false)], args := [d] }
  | _ => none }
def FnNodeTakesWrongFalsely : Prop := fnNodeTakesRow.holds Tryz.pinned (OpenSpec.ofChange fnNodeTakesWrong)

/- THE SECOND FORM. 'bulk': how many values and letters a reading holds, each counted each time it is reached (what is shared counts as often as it is met; a slice's spare places count too). A statement '..UptoSaid' is the law's where the arguments, and the package variables that the reading takes, are together of bulk at most 1048576: NARROWER than '..Said'. Prove '..Said' where nothing that the law and all that it calls make is longer than what came in: it says more and counts as full. Else prove '..UptoSaid'. A law counts once. -/
mutual
def uptoBulk {H : Type} : DataW H → Nat
  | .lit (.string bytes) => bytes.length + 1
  | .lit _ => 1
  | .nil => 1
  | .ptr d => uptoBulk d + 1
  | .slice elems spare => uptoBulkAll elems + uptoBulkAll spare + 1
  | .agg parts => uptoBulkAll parts + 1
  | .iface _ d => uptoBulk d + 1
  | .map entries => uptoBulkEntries entries + 1
  | .held _ => 1
def uptoBulkAll {H : Type} : List (DataW H) → Nat
  | [] => 0
  | d :: r => uptoBulk d + uptoBulkAll r
def uptoBulkEntries {H : Type} : List (Lit × DataW H) → Nat
  | [] => 0
  | x :: r => uptoBulkEntry x + uptoBulkEntries r
def uptoBulkEntry {H : Type} : Lit × DataW H → Nat
  | (.string bytes, d) => bytes.length + uptoBulk d + 1
  | (_, d) => uptoBulk d + 1
 end
def uptoSmall : (H : Type) → List (DataW H) → Bool := fun _ ds => decide (uptoBulkAll ds ≤ 1048576)
def OpenSpec.upto (s : _root_.Go.ChangeSpec) : _root_.Go.OpenSpec := { _root_.Go.OpenSpec.ofChange s with cond := some uptoSmall }

/-- 'laws.FnExactNodeHear', WHERE WHAT IT READS IS OF BULK AT MOST 1048576: true; the input reads as it did. -/
def fnExactNodeHearUptoRow : OpenClaim := { program := "ytaelpfghkndliaagreat", sum := "45294403a5bebe2a16a91474ed4c8eaffaf21c81e417fdb0907e495ab0901313", func := "loop.example/lightship/laws.FnExactNodeHear", spec := "fnExactNodeHear", inPlace := ["slices.overlaps[loop.example/lightship/impl.Fact]", "slices.overlaps[loop.example/lightship/impl.Item]", "slices.overlaps[loop.example/lightship/impl.Doubt]", "slices.overlaps[int]", "slices.overlaps[loop.example/lightship/impl.Foreign]", "slices.overlaps[loop.example/lightship/impl.Place]"], unfollowed := true, recurses := true, apart := false, narrowed := true }
def FnExactNodeHearUptoSaid : Prop := fnExactNodeHearUptoRow.holds Tryz.pinned (OpenSpec.upto fnExactNodeHearSpec)

/-- 'laws.FnNodePing', WHERE WHAT IT READS IS OF BULK AT MOST 1048576: true; the input reads as it did. -/
def fnNodePingUptoRow : OpenClaim := { program := "ytaelpfghkndliaagreat", sum := "45294403a5bebe2a16a91474ed4c8eaffaf21c81e417fdb0907e495ab0901313", func := "loop.example/lightship/laws.FnNodePing", spec := "fnNodePing", inPlace := ["slices.overlaps[loop.example/lightship/impl.Fact]", "slices.overlaps[loop.example/lightship/impl.Item]", "slices.overlaps[loop.example/lightship/impl.Doubt]", "slices.overlaps[int]", "slices.overlaps[loop.example/lightship/impl.Foreign]", "slices.overlaps[loop.example/lightship/impl.Place]"], unfollowed := true, recurses := true, apart := false, narrowed := true }
def FnNodePingUptoSaid : Prop := fnNodePingUptoRow.holds Tryz.pinned (OpenSpec.upto fnNodePingSpec)

/-- 'laws.FnNodeAsk', WHERE WHAT IT READS IS OF BULK AT MOST 1048576: true; the input reads as it did. -/
def fnNodeAskUptoRow : OpenClaim := { program := "ytaelpfghkndliaagreat", sum := "45294403a5bebe2a16a91474ed4c8eaffaf21c81e417fdb0907e495ab0901313", func := "loop.example/lightship/laws.FnNodeAsk", spec := "fnNodeAsk", inPlace := ["slices.overlaps[loop.example/lightship/impl.Fact]", "slices.overlaps[loop.example/lightship/impl.Item]", "slices.overlaps[loop.example/lightship/impl.Doubt]", "slices.overlaps[int]", "slices.overlaps[loop.example/lightship/impl.Foreign]", "slices.overlaps[loop.example/lightship/impl.Place]"], unfollowed := true, recurses := true, apart := false, narrowed := true }
def FnNodeAskUptoSaid : Prop := fnNodeAskUptoRow.holds Tryz.pinned (OpenSpec.upto fnNodeAskSpec)

/-- 'laws.FnNodeSync', WHERE WHAT IT READS IS OF BULK AT MOST 1048576: true; the input reads as it did. -/
def fnNodeSyncUptoRow : OpenClaim := { program := "ytaelpfghkndliaagreat", sum := "45294403a5bebe2a16a91474ed4c8eaffaf21c81e417fdb0907e495ab0901313", func := "loop.example/lightship/laws.FnNodeSync", spec := "fnNodeSync", inPlace := ["slices.overlaps[loop.example/lightship/impl.Fact]", "slices.overlaps[loop.example/lightship/impl.Item]", "slices.overlaps[loop.example/lightship/impl.Doubt]", "slices.overlaps[int]", "slices.overlaps[loop.example/lightship/impl.Foreign]", "slices.overlaps[loop.example/lightship/impl.Place]"], unfollowed := true, recurses := true, apart := false, narrowed := true }
def FnNodeSyncUptoSaid : Prop := fnNodeSyncUptoRow.holds Tryz.pinned (OpenSpec.upto fnNodeSyncSpec)

/-- 'laws.FnNodeHears', WHERE WHAT IT READS IS OF BULK AT MOST 1048576: true; the input reads as it did. -/
def fnNodeHearsUptoRow : OpenClaim := { program := "ytaelpfghkndliaagreat", sum := "45294403a5bebe2a16a91474ed4c8eaffaf21c81e417fdb0907e495ab0901313", func := "loop.example/lightship/laws.FnNodeHears", spec := "fnNodeHears", inPlace := ["slices.overlaps[loop.example/lightship/impl.Fact]", "slices.overlaps[loop.example/lightship/impl.Item]", "slices.overlaps[loop.example/lightship/impl.Doubt]", "slices.overlaps[int]", "slices.overlaps[loop.example/lightship/impl.Foreign]", "slices.overlaps[loop.example/lightship/impl.Place]"], unfollowed := true, recurses := true, apart := false, narrowed := true }
def FnNodeHearsUptoSaid : Prop := fnNodeHearsUptoRow.holds Tryz.pinned (OpenSpec.upto fnNodeHearsSpec)

/-- 'laws.FnNodeTakes', WHERE WHAT IT READS IS OF BULK AT MOST 1048576: true; the input reads as it did. -/
def fnNodeTakesUptoRow : OpenClaim := { program := "ytaelpfghkndliaagreat", sum := "45294403a5bebe2a16a91474ed4c8eaffaf21c81e417fdb0907e495ab0901313", func := "loop.example/lightship/laws.FnNodeTakes", spec := "fnNodeTakes", inPlace := ["slices.overlaps[loop.example/lightship/impl.Fact]", "slices.overlaps[loop.example/lightship/impl.Item]", "slices.overlaps[loop.example/lightship/impl.Doubt]", "slices.overlaps[int]", "slices.overlaps[loop.example/lightship/impl.Foreign]", "slices.overlaps[loop.example/lightship/impl.Place]"], unfollowed := true, recurses := true, apart := false, narrowed := true }
def FnNodeTakesUptoSaid : Prop := fnNodeTakesUptoRow.holds Tryz.pinned (OpenSpec.upto fnNodeTakesSpec)

end Rows
end Go.Proofs.YtaelpfghkndliaaGreat
