/-
  No cell of these rows narrows 'for every input' (looked for: loops, veiled, ifaces, maps, wideKeys, modest, calm, conditions, laid).
  DERIVED. THE GIVEN ROWS OF THIS SEAT. 6 by the template 'for every input the law returns true; each argument reads behind the call as it read before'; 0 by the template 'total and deterministic' (their statements: YtaegajachoklkaaGreatTotals.lean).
  GIVEN WITH THE SEED: the statements are not yours to turn. If you find one false, say at which input.
  Laid BY PROGRAM, IN A SANDBOX (cutbox-rows.mjs): the forced cells as the released guide's own fill.sh prints them over the translation 374ca51e0fa8525f… (all of the seat's roots in one cut). By AI agents, Wed Nov 11 2026. No macro, syntax, notation, axiom, sorry.
-/
import Derived.Test.YtaegajachoklkaaGreatChecked
import GoSem.Claim
import GoSem.ClaimJoined
import GoSem.ClaimMapViews
import Derived.JoinedTies
import Derived.KernelRfl
namespace Go.Proofs.YtaegajachoklkaaGreat
/- THE CELL 'sum', in the pinned program and in every row, IS THE sha256 OF THE DUMP (.gsa) THAT YtaegajachoklkaaGreatProg.lean LOADS. Nothing in Lean hashes anything: it is a label: what it is worth is what the hold of that sum in a sandbox is worth. -/
noncomputable def Tryz.pinned : Pinned := { name := "ytaegajachoklkaagreat", sum := "374ca51e0fa8525f912ba9c2d06b83538c644e20590d5b6151a89773c5f11cbb", checked := Tryz.checked }
namespace Rows
def none {H : Type} : Left H := { results := [], args := [] }

/-- 'laws.FnNodeDown': WHATEVER THE INPUT: true; the input reads as it did. -/
def fnNodeDownSpec : ChangeSpec := { name := "fnNodeDown", fn := fun _ => fun
  | [d] => { results := [.lit (.bool true)], args := [d] }
  | _ => none }
def fnNodeDownRow : OpenClaim := { program := "ytaegajachoklkaagreat", sum := "374ca51e0fa8525f912ba9c2d06b83538c644e20590d5b6151a89773c5f11cbb", func := "loop.example/lightship/laws.FnNodeDown", spec := "fnNodeDown", inPlace := ["slices.overlaps[loop.example/lightship/impl.Fact]", "slices.overlaps[loop.example/lightship/impl.Item]", "slices.overlaps[loop.example/lightship/impl.Doubt]"], unfollowed := true, recurses := true, apart := false }
def FnNodeDownSaid : Prop := fnNodeDownRow.holds Tryz.pinned (OpenSpec.ofChange fnNodeDownSpec)

/-- ITS FALSE NEIGHBOUR: 'it returns false'. Refute it at one input. -/
def fnNodeDownWrong : ChangeSpec := { name := "fnNodeDown", fn := fun _ => fun
  | [d] => { results := [.lit (.bool false)], args := [d] }
  | _ => none }
def FnNodeDownWrongFalsely : Prop := fnNodeDownRow.holds Tryz.pinned (OpenSpec.ofChange fnNodeDownWrong)

/-- 'laws.FnNodeBury': WHATEVER THE INPUT: true; the input reads as it did. -/
def fnNodeBurySpec : ChangeSpec := { name := "fnNodeBury", fn := fun _ => fun
  | [d] => { results := [.lit (.bool true)], args := [d] }
  | _ => none }
def fnNodeBuryRow : OpenClaim := { program := "ytaegajachoklkaagreat", sum := "374ca51e0fa8525f912ba9c2d06b83538c644e20590d5b6151a89773c5f11cbb", func := "loop.example/lightship/laws.FnNodeBury", spec := "fnNodeBury", inPlace := ["slices.overlaps[loop.example/lightship/impl.Fact]", "slices.overlaps[loop.example/lightship/impl.Item]", "slices.overlaps[loop.example/lightship/impl.Doubt]"], unfollowed := true, recurses := true, apart := false }
def FnNodeBurySaid : Prop := fnNodeBuryRow.holds Tryz.pinned (OpenSpec.ofChange fnNodeBurySpec)

/-- ITS FALSE NEIGHBOUR: 'it returns false'. Refute it at one input. -/
def fnNodeBuryWrong : ChangeSpec := { name := "fnNodeBury", fn := fun _ => fun
  | [d] => { results := [.lit (.bool false)], args := [d] }
  | _ => none }
def FnNodeBuryWrongFalsely : Prop := fnNodeBuryRow.holds Tryz.pinned (OpenSpec.ofChange fnNodeBuryWrong)

/-- 'laws.FnNodeEnd': WHATEVER THE INPUT: true; the input reads as it did. -/
def fnNodeEndSpec : ChangeSpec := { name := "fnNodeEnd", fn := fun _ => fun
  | [d] => { results := [.lit (.bool true)], args := [d] }
  | _ => none }
def fnNodeEndRow : OpenClaim := { program := "ytaegajachoklkaagreat", sum := "374ca51e0fa8525f912ba9c2d06b83538c644e20590d5b6151a89773c5f11cbb", func := "loop.example/lightship/laws.FnNodeEnd", spec := "fnNodeEnd", inPlace := ["slices.overlaps[loop.example/lightship/impl.Fact]", "slices.overlaps[loop.example/lightship/impl.Item]", "slices.overlaps[loop.example/lightship/impl.Doubt]"], unfollowed := true, recurses := true, apart := false }
def FnNodeEndSaid : Prop := fnNodeEndRow.holds Tryz.pinned (OpenSpec.ofChange fnNodeEndSpec)

/-- ITS FALSE NEIGHBOUR: 'it returns false'. Refute it at one input. -/
def fnNodeEndWrong : ChangeSpec := { name := "fnNodeEnd", fn := fun _ => fun
  | [d] => { results := [.lit (.bool false)], args := [d] }
  | _ => none }
def FnNodeEndWrongFalsely : Prop := fnNodeEndRow.holds Tryz.pinned (OpenSpec.ofChange fnNodeEndWrong)

/-- 'laws.FnNodeHelp': WHATEVER THE INPUT: true; the input reads as it did. -/
def fnNodeHelpSpec : ChangeSpec := { name := "fnNodeHelp", fn := fun _ => fun
  | [d] => { results := [.lit (.bool true)], args := [d] }
  | _ => none }
def fnNodeHelpRow : OpenClaim := { program := "ytaegajachoklkaagreat", sum := "374ca51e0fa8525f912ba9c2d06b83538c644e20590d5b6151a89773c5f11cbb", func := "loop.example/lightship/laws.FnNodeHelp", spec := "fnNodeHelp", inPlace := ["slices.overlaps[loop.example/lightship/impl.Fact]", "slices.overlaps[loop.example/lightship/impl.Item]", "slices.overlaps[loop.example/lightship/impl.Doubt]"], unfollowed := true, recurses := true, apart := false }
def FnNodeHelpSaid : Prop := fnNodeHelpRow.holds Tryz.pinned (OpenSpec.ofChange fnNodeHelpSpec)

/-- ITS FALSE NEIGHBOUR: 'it returns false'. Refute it at one input. -/
def fnNodeHelpWrong : ChangeSpec := { name := "fnNodeHelp", fn := fun _ => fun
  | [d] => { results := [.lit (.bool false)], args := [d] }
  | _ => none }
def FnNodeHelpWrongFalsely : Prop := fnNodeHelpRow.holds Tryz.pinned (OpenSpec.ofChange fnNodeHelpWrong)

/-- 'laws.FnNodeSuspect': WHATEVER THE INPUT: true; the input reads as it did. -/
def fnNodeSuspectSpec : ChangeSpec := { name := "fnNodeSuspect", fn := fun _ => fun
  | [d] => { results := [.lit (.bool true)], args := [d] }
  | _ => none }
def fnNodeSuspectRow : OpenClaim := { program := "ytaegajachoklkaagreat", sum := "374ca51e0fa8525f912ba9c2d06b83538c644e20590d5b6151a89773c5f11cbb", func := "loop.example/lightship/laws.FnNodeSuspect", spec := "fnNodeSuspect", inPlace := ["slices.overlaps[loop.example/lightship/impl.Fact]", "slices.overlaps[loop.example/lightship/impl.Item]", "slices.overlaps[loop.example/lightship/impl.Doubt]"], unfollowed := true, recurses := true, apart := false }
def FnNodeSuspectSaid : Prop := fnNodeSuspectRow.holds Tryz.pinned (OpenSpec.ofChange fnNodeSuspectSpec)

/-- ITS FALSE NEIGHBOUR: 'it returns false'. Refute it at one input. -/
def fnNodeSuspectWrong : ChangeSpec := { name := "fnNodeSuspect", fn := fun _ => fun
  | [d] => { results := [.lit (.bool false)], args := [d] }
  | _ => none }
def FnNodeSuspectWrongFalsely : Prop := fnNodeSuspectRow.holds Tryz.pinned (OpenSpec.ofChange fnNodeSuspectWrong)

/-- 'laws.FnNodeDead': WHATEVER THE INPUT: true; the input reads as it did. -/
def fnNodeDeadSpec : ChangeSpec := { name := "fnNodeDead", fn := fun _ => fun
  | [d] => { results := [.lit (.bool true)], args := [d] }
  | _ => none }
def fnNodeDeadRow : OpenClaim := { program := "ytaegajachoklkaagreat", sum := "374ca51e0fa8525f912ba9c2d06b83538c644e20590d5b6151a89773c5f11cbb", func := "loop.example/lightship/laws.FnNodeDead", spec := "fnNodeDead", inPlace := ["slices.overlaps[loop.example/lightship/impl.Fact]", "slices.overlaps[loop.example/lightship/impl.Item]", "slices.overlaps[loop.example/lightship/impl.Doubt]"], unfollowed := true, recurses := true, apart := false }
def FnNodeDeadSaid : Prop := fnNodeDeadRow.holds Tryz.pinned (OpenSpec.ofChange fnNodeDeadSpec)

/-- ITS FALSE NEIGHBOUR: 'it returns false'. Refute it at one input. -/
def fnNodeDeadWrong : ChangeSpec := { name := "fnNodeDead", fn := fun _ => fun
  | [d] => { results := [.lit (.bool false)], args := [d] }
  | _ => none }
def FnNodeDeadWrongFalsely : Prop := fnNodeDeadRow.holds Tryz.pinned (OpenSpec.ofChange fnNodeDeadWrong)

/- THE SECOND FORM. 'bulk': how many values and letters a reading holds, each counted each time it is reached (what is shared counts as often as it is met; a slice's spare places count too). A statement '..UptoSaid' is the law's where the arguments, and the package variables that the reading takes, are together of bulk at most 1048576: NARROWER than '..Said'. Prove '..Said' where nothing that the law and all that it calls make is longer than what came in: it says more and counts as full. Else prove '..UptoSaid'. A law counts once. -/
mutual
def uptoBulk {H : Type} : DataW H → Nat
  | .lit (.string bytes) => bytes.length + 1
  | .lit _ => 1
  | .nil => 1
  | .ptr d => uptoBulk d + 1
  | .slice elems spare => uptoBulkAll elems + uptoBulkAll spare + 1
  | .agg parts => uptoBulkAll parts + 1
  | .iface _ d => uptoBulk d + 1
  | .map entries => uptoBulkEntries entries + 1
  | .held _ => 1
def uptoBulkAll {H : Type} : List (DataW H) → Nat
  | [] => 0
  | d :: r => uptoBulk d + uptoBulkAll r
def uptoBulkEntries {H : Type} : List (Lit × DataW H) → Nat
  | [] => 0
  | x :: r => uptoBulkEntry x + uptoBulkEntries r
def uptoBulkEntry {H : Type} : Lit × DataW H → Nat
  | (.string bytes, d) => bytes.length + uptoBulk d + 1
  | (_, d) => uptoBulk d + 1
 end
def uptoSmall : (H : Type) → List (DataW H) → Bool := fun _ ds => decide (uptoBulkAll ds ≤ 1048576)
def OpenSpec.upto (s : _root_.Go.ChangeSpec) : _root_.Go.OpenSpec := { _root_.Go.OpenSpec.ofChange s with cond := some uptoSmall }

/-- 'laws.FnNodeDown', WHERE WHAT IT READS IS OF BULK AT MOST 1048576: true; the input reads as it did. -/
def fnNodeDownUptoRow : OpenClaim := { program := "ytaegajachoklkaagreat", sum := "374ca51e0fa8525f912ba9c2d06b83538c644e20590d5b6151a89773c5f11cbb", func := "loop.example/lightship/laws.FnNodeDown", spec := "fnNodeDown", inPlace := ["slices.overlaps[loop.example/lightship/impl.Fact]", "slices.overlaps[loop.example/lightship/impl.Item]", "slices.overlaps[loop.example/lightship/impl.Doubt]"], unfollowed := true, recurses := true, apart := false, narrowed := true }
def FnNodeDownUptoSaid : Prop := fnNodeDownUptoRow.holds Tryz.pinned (OpenSpec.upto fnNodeDownSpec)

/-- 'laws.FnNodeBury', WHERE WHAT IT READS IS OF BULK AT MOST 1048576: true; the input reads as it did. -/
def fnNodeBuryUptoRow : OpenClaim := { program := "ytaegajachoklkaagreat", sum := "374ca51e0fa8525f912ba9c2d06b83538c644e20590d5b6151a89773c5f11cbb", func := "loop.example/lightship/laws.FnNodeBury", spec := "fnNodeBury", inPlace := ["slices.overlaps[loop.example/lightship/impl.Fact]", "slices.overlaps[loop.example/lightship/impl.Item]", "slices.overlaps[loop.example/lightship/impl.Doubt]"], unfollowed := true, recurses := true, apart := false, narrowed := true }
def FnNodeBuryUptoSaid : Prop := fnNodeBuryUptoRow.holds Tryz.pinned (OpenSpec.upto fnNodeBurySpec)

/-- 'laws.FnNodeEnd', WHERE WHAT IT READS IS OF BULK AT MOST 1048576: true; the input reads as it did. -/
def fnNodeEndUptoRow : OpenClaim := { program := "ytaegajachoklkaagreat", sum := "374ca51e0fa8525f912ba9c2d06b83538c644e20590d5b6151a89773c5f11cbb", func := "loop.example/lightship/laws.FnNodeEnd", spec := "fnNodeEnd", inPlace := ["slices.overlaps[loop.example/lightship/impl.Fact]", "slices.overlaps[loop.example/lightship/impl.Item]", "slices.overlaps[loop.example/lightship/impl.Doubt]"], unfollowed := true, recurses := true, apart := false, narrowed := true }
def FnNodeEndUptoSaid : Prop := fnNodeEndUptoRow.holds Tryz.pinned (OpenSpec.upto fnNodeEndSpec)

/-- 'laws.FnNodeHelp', WHERE WHAT IT READS IS OF BULK AT MOST 1048576: true; the input reads as it did. -/
def fnNodeHelpUptoRow : OpenClaim := { program := "ytaegajachoklkaagreat", sum := "374ca51e0fa8525f912ba9c2d06b83538c644e20590d5b6151a89773c5f11cbb", func := "loop.example/lightship/laws.FnNodeHelp", spec := "fnNodeHelp", inPlace := ["slices.overlaps[loop.example/lightship/impl.Fact]", "slices.overlaps[loop.example/lightship/impl.Item]", "slices.overlaps[loop.example/lightship/impl.Doubt]"], unfollowed := true, recurses := true, apart := false, narrowed := true }
def FnNodeHelpUptoSaid : Prop := fnNodeHelpUptoRow.holds Tryz.pinned (OpenSpec.upto fnNodeHelpSpec)

/-- 'laws.FnNodeSuspect', WHERE WHAT IT READS IS OF BULK AT MOST 1048576: true; the input reads as it did. -/
def fnNodeSuspectUptoRow : OpenClaim := { program := "ytaegajachoklkaagreat", sum := "374ca51e0fa8525f912ba9c2d06b83538c644e20590d5b6151a89773c5f11cbb", func := "loop.example/lightship/laws.FnNodeSuspect", spec := "fnNodeSuspect", inPlace := ["slices.overlaps[loop.example/lightship/impl.Fact]", "slices.overlaps[loop.example/lightship/impl.Item]", "slices.overlaps[loop.example/lightship/impl.Doubt]"], unfollowed := true, recurses := true, apart := false, narrowed := true }
def FnNodeSuspectUptoSaid : Prop := fnNodeSuspectUptoRow.holds Tryz.pinned (OpenSpec.upto fnNodeSuspectSpec)

/-- 'laws.FnNodeDead', WHERE WHAT IT READS IS OF BULK AT MOST 1048576: true; the input reads as it did. -/
def fnNodeDeadUptoRow : OpenClaim := { program := "ytaegajachoklkaagreat", sum := "374ca51e0fa8525f912ba9c2d06b83538c644e20590d5b6151a89773c5f11cbb", func := "loop.example/lightship/laws.FnNodeDead", spec := "fnNodeDead", inPlace := ["slices.overlaps[loop.example/lightship/impl.Fact]", "slices.overlaps[loop.example/lightship/impl.Item]", "slices.overlaps[loop.example/lightship/impl.Doubt]"], unfollowed := true, recurses := true, apart := false, narrowed := true }
def FnNodeDeadUptoSaid : Prop := fnNodeDeadUptoRow.holds Tryz.pinned (OpenSpec.upto fnNodeDeadSpec)

end Rows
end Go.Proofs.YtaegajachoklkaaGreat
