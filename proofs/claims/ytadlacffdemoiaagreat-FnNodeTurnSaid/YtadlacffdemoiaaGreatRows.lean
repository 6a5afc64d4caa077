/-
  No cell of these rows narrows 'for every input' (looked for: loops, veiled, ifaces, maps, wideKeys, modest, calm, conditions, laid).
  DERIVED. THE GIVEN ROWS OF THIS SEAT. 6 by the template 'for every input the law returns true; each argument reads behind the call as it read before'; 0 by the template 'total and deterministic' (their statements: YtadlacffdemoiaaGreatTotals.lean).
  GIVEN WITH THE SEED: the statements are not yours to turn. If you find one false, say at which input.
  Laid BY PROGRAM, IN A SANDBOX (cutbox-rows.mjs): the forced cells as the released guide's own fill.sh prints them over the translation 7a52331cc0bccfbd… (all of the seat's roots in one cut). By AI agents, Wed Nov 11 2026. No macro, syntax, notation, axiom, sorry.
-/
import Derived.Test.YtadlacffdemoiaaGreatChecked
import GoSem.Claim
import GoSem.ClaimJoined
import GoSem.ClaimMapViews
import Derived.JoinedTies
import Derived.KernelRfl
namespace Go.Proofs.YtadlacffdemoiaaGreat
/- THE CELL 'sum', in the pinned program and in every row, IS THE sha256 OF THE DUMP (.gsa) THAT YtadlacffdemoiaaGreatProg.lean LOADS. Nothing in Lean hashes anything: it is a label: what it is worth is what the hold of that sum in a sandbox is worth. -/
noncomputable def Tryz.pinned : Pinned := { name := "ytadlacffdemoiaagreat", sum := "7a52331cc0bccfbdd7148736e3fe6e59e0f4da38a945c5a8e67a609ccbd02b1b", checked := Tryz.checked }
namespace Rows
def none {H : Type} : Left H := { results := [], args := [] }

/-- 'laws.FnNodeRefute': WHATEVER THE INPUT: true; the input reads as it did. -/
def fnNodeRefuteSpec : ChangeSpec := { name := "fnNodeRefute", fn := fun _ => fun
  | [d] => { results := [.lit (.bool true)], args := [d] }
  | _ => none }
def fnNodeRefuteRow : OpenClaim := { program := "ytadlacffdemoiaagreat", sum := "7a52331cc0bccfbdd7148736e3fe6e59e0f4da38a945c5a8e67a609ccbd02b1b", func := "loop.example/lightship/laws.FnNodeRefute", spec := "fnNodeRefute", inPlace := ["slices.overlaps[loop.example/lightship/impl.Fact]", "slices.overlaps[loop.example/lightship/impl.Item]", "slices.overlaps[loop.example/lightship/impl.Doubt]", "slices.overlaps[int]", "slices.overlaps[loop.example/lightship/impl.Foreign]", "slices.overlaps[loop.example/lightship/impl.Place]"], unfollowed := true, recurses := true, apart := false }
def FnNodeRefuteSaid : Prop := fnNodeRefuteRow.holds Tryz.pinned (OpenSpec.ofChange fnNodeRefuteSpec)

/-- ITS FALSE NEIGHBOUR: 'it returns false'. Refute it at one input. -/
def fnNodeRefuteWrong : ChangeSpec := { name := "fnNodeRefute", fn := fun _ => fun
  | [d] => { results := [.lit (.bool false)], args := [d] }
  | _ => none }
def FnNodeRefuteWrongFalsely : Prop := fnNodeRefuteRow.holds Tryz.pinned (OpenSpec.ofChange fnNodeRefuteWrong)

/-- 'laws.FnNodeCast': WHATEVER THE INPUT: true; the input reads as it did. -/
def fnNodeCastSpec : ChangeSpec := { name := "fnNodeCast", fn := fun _ => fun
  | [d] => { results := [.lit (.bool true)], args := [d] }
  | _ => none }
def fnNodeCastRow : OpenClaim := { program := "ytadlacffdemoiaagreat", sum := "7a52331cc0bccfbdd7148736e3fe6e59e0f4da38a945c5a8e67a609ccbd02b1b", func := "loop.example/lightship/laws.FnNodeCast", spec := "fnNodeCast", inPlace := ["slices.overlaps[loop.example/lightship/impl.Fact]", "slices.overlaps[loop.example/lightship/impl.Item]", "slices.overlaps[loop.example/lightship/impl.Doubt]", "slices.overlaps[int]", "slices.overlaps[loop.example/lightship/impl.Foreign]", "slices.overlaps[loop.example/lightship/impl.Place]"], unfollowed := true, recurses := true, apart := false }
def FnNodeCastSaid : Prop := fnNodeCastRow.holds Tryz.pinned (OpenSpec.ofChange fnNodeCastSpec)

/-- ITS FALSE NEIGHBOUR: 'it returns false'. Refute it at one input. -/
def fnNodeCastWrong : ChangeSpec := { name := "fnNodeCast", fn := fun _ => fun
  | [d] => { results := [.lit (.bool false)], args := [d] }
  | _ => none }
def FnNodeCastWrongFalsely : Prop := fnNodeCastRow.holds Tryz.pinned (OpenSpec.ofChange fnNodeCastWrong)

/-- 'laws.FnNodeFar': WHATEVER THE INPUT: true; the input reads as it did. -/
def fnNodeFarSpec : ChangeSpec := { name := "fnNodeFar", fn := fun _ => fun
  | [d] => { results := [.lit (.bool true)], args := [d] }
  | _ => none }
def fnNodeFarRow : OpenClaim := { program := "ytadlacffdemoiaagreat", sum := "7a52331cc0bccfbdd7148736e3fe6e59e0f4da38a945c5a8e67a609ccbd02b1b", func := "loop.example/lightship/laws.FnNodeFar", spec := "fnNodeFar", inPlace := ["slices.overlaps[loop.example/lightship/impl.Fact]", "slices.overlaps[loop.example/lightship/impl.Item]", "slices.overlaps[loop.example/lightship/impl.Doubt]", "slices.overlaps[int]", "slices.overlaps[loop.example/lightship/impl.Foreign]", "slices.overlaps[loop.example/lightship/impl.Place]"], unfollowed := true, recurses := true, apart := false }
def FnNodeFarSaid : Prop := fnNodeFarRow.holds Tryz.pinned (OpenSpec.ofChange fnNodeFarSpec)

/-- ITS FALSE NEIGHBOUR: 'it returns false'. Refute it at one input. -/
def fnNodeFarWrong : ChangeSpec := { name := "fnNodeFar", fn := fun _ => fun
  | [d] => { results := [.lit (.bool false)], args := [d] }
  | _ => none }
def FnNodeFarWrongFalsely : Prop := fnNodeFarRow.holds Tryz.pinned (OpenSpec.ofChange fnNodeFarWrong)

/-- 'laws.FnNodeTurn': WHATEVER THE INPUT: true; the input reads as it did. -/
def fnNodeTurnSpec : ChangeSpec := { name := "fnNodeTurn", fn := fun _ => fun
  | [d1, d2] => { results := [.lit (.bool true)], args := [d1, d2] }
  | _ => none }
def fnNodeTurnRow : OpenClaim := { program := "ytadlacffdemoiaagreat", sum := "7a52331cc0bccfbdd7148736e3fe6e59e0f4da38a945c5a8e67a609ccbd02b1b", func := "loop.example/lightship/laws.FnNodeTurn", spec := "fnNodeTurn", inPlace := ["slices.overlaps[loop.example/lightship/impl.Fact]", "slices.overlaps[loop.example/lightship/impl.Item]", "slices.overlaps[loop.example/lightship/impl.Doubt]", "slices.overlaps[int]", "slices.overlaps[loop.example/lightship/impl.Foreign]", "slices.overlaps[loop.example/lightship/impl.Place]"], unfollowed := true, recurses := true, apart := false }
def FnNodeTurnSaid : Prop := fnNodeTurnRow.holds Tryz.pinned (OpenSpec.ofChange fnNodeTurnSpec)

/-- ITS FALSE NEIGHBOUR: 'it returns false'. Refute it at one input. -/
def fnNodeTurnWrong : ChangeSpec := { name := "fnNodeTurn", fn := fun _ => fun
  | [d1, d2] => { results := [.lit (.bool false)], args := [d1, d2] }
  | _ => none }
def FnNodeTurnWrongFalsely : Prop := fnNodeTurnRow.holds Tryz.pinned (OpenSpec.ofChange fnNodeTurnWrong)

/-- 'laws.FnNodeSure': WHATEVER THE INPUT: true; the input reads as it did. -/
def fnNodeSureSpec : ChangeSpec := { name := "fnNodeSure", fn := fun _ => fun
  | [d] => { results := [.lit (.bool true)], args := [d] }
  | _ => none }
def fnNodeSureRow : OpenClaim := { program := "ytadlacffdemoiaagreat", sum := "7a52331cc0bccfbdd7148736e3fe6e59e0f4da38a945c5a8e67a609ccbd02b1b", func := "loop.example/lightship/laws.FnNodeSure", spec := "fnNodeSure", inPlace := ["slices.overlaps[loop.example/lightship/impl.Fact]", "slices.overlaps[loop.example/lightship/impl.Item]", "slices.overlaps[loop.example/lightship/impl.Doubt]", "slices.overlaps[int]", "slices.overlaps[loop.example/lightship/impl.Foreign]", "slices.overlaps[loop.example/lightship/impl.Place]"], unfollowed := true, recurses := true, apart := false }
def FnNodeSureSaid : Prop := fnNodeSureRow.holds Tryz.pinned (OpenSpec.ofChange fnNodeSureSpec)

/-- ITS FALSE NEIGHBOUR: 'it returns false'. Refute it at one input. -/
def fnNodeSureWrong : ChangeSpec := { name := "fnNodeSure", fn := fun _ => fun
  | [d] => { results := [.lit (.bool false)], args := [d] }
  | _ => none }
def FnNodeSureWrongFalsely : Prop := fnNodeSureRow.holds Tryz.pinned (OpenSpec.ofChange fnNodeSureWrong)

/-- 'laws.FnNodeSave': WHATEVER THE INPUT: true; the input reads as it did. -/
def fnNodeSaveSpec : ChangeSpec := { name := "fnNodeSave", fn := fun _ => fun
  | [d] => { results := [.lit (.bool true)], args := [d] }
  | _ => none }
def fnNodeSaveRow : OpenClaim := { program := "ytadlacffdemoiaagreat", sum := "7a52331cc0bccfbdd7148736e3fe6e59e0f4da38a945c5a8e67a609ccbd02b1b", func := "loop.example/lightship/laws.FnNodeSave", spec := "fnNodeSave", inPlace := ["slices.overlaps[loop.example/lightship/impl.Fact]", "slices.overlaps[loop.example/lightship/impl.Item]", "slices.overlaps[loop.example/lightship/impl.Doubt]", "slices.overlaps[int]", "slices.overlaps[loop.example/lightship/impl.Foreign]", "slices.overlaps[loop.example/lightship/impl.Place]"], unfollowed := true, recurses := true, apart := false }
def FnNodeSaveSaid : Prop := fnNodeSaveRow.holds Tryz.pinned (OpenSpec.ofChange fnNodeSaveSpec)

/-- ITS FALSE NEIGHBOUR: 'it returns false'. Refute it at one input. -/
def fnNodeSaveWrong : ChangeSpec := { name := "fnNodeSave", fn := fun _ => fun
  | [d] => { results := [.lit (.bool false)], args := [d] }
  | _ => none }
def FnNodeSaveWrongFalsely : Prop := fnNodeSaveRow.holds Tryz.pinned (OpenSpec.ofChange fnNodeSaveWrong)

/- THE SECOND FORM. 'bulk': how many values and letters a reading holds, each counted each time it is reached (what is shared counts as often as it is met; a slice's spare places count too). A statement '..UptoSaid' is the law's where the arguments, and the package variables that the reading takes, are together of bulk at most 1048576: NARROWER than '..Said'. Prove '..Said' where nothing that the law and all that it calls make is longer than what came in: it says more and counts as full. Else prove '..UptoSaid'. A law counts once. -/
mutual
def uptoBulk {H : Type} : DataW H → Nat
  | .lit (.string bytes) => bytes.length + 1
  | .lit _ => 1
  | .nil => 1
  | .ptr d => uptoBulk d + 1
  | .slice elems spare => uptoBulkAll elems + uptoBulkAll spare + 1
  | .agg parts => uptoBulkAll parts + 1
  | .iface _ d => uptoBulk d + 1
  | .map entries => uptoBulkEntries entries + 1
  | .held _ => 1
def uptoBulkAll {H : Type} : List (DataW H) → Nat
  | [] => 0
  | d :: r => uptoBulk d + uptoBulkAll r
def uptoBulkEntries {H : Type} : List (Lit × DataW H) → Nat
  | [] => 0
  | x :: r => uptoBulkEntry x + uptoBulkEntries r
def uptoBulkEntry {H : Type} : Lit × DataW H → Nat
  | (.string bytes, d) => bytes.length + uptoBulk d + 1
  | (_, d) => uptoBulk d + 1
 end
def uptoSmall : (H : Type) → List (DataW H) → Bool := fun _ ds => decide (uptoBulkAll ds ≤ 1048576)
def OpenSpec.upto (s : _root_.Go.ChangeSpec) : _root_.Go.OpenSpec := { _root_.Go.OpenSpec.ofChange s with cond := some uptoSmall }

/-- 'laws.FnNodeRefute', WHERE WHAT IT READS IS OF BULK AT MOST 1048576: true; the input reads as it did. -/
def fnNodeRefuteUptoRow : OpenClaim := { program := "ytadlacffdemoiaagreat", sum := "7a52331cc0bccfbdd7148736e3fe6e59e0f4da38a945c5a8e67a609ccbd02b1b", func := "loop.example/lightship/laws.FnNodeRefute", spec := "fnNodeRefute", inPlace := ["slices.overlaps[loop.example/lightship/impl.Fact]", "slices.overlaps[loop.example/lightship/impl.Item]", "slices.overlaps[loop.example/lightship/impl.Doubt]", "slices.overlaps[int]", "slices.overlaps[loop.example/lightship/impl.Foreign]", "slices.overlaps[loop.example/lightship/impl.Place]"], unfollowed := true, recurses := true, apart := false, narrowed := true }
def FnNodeRefuteUptoSaid : Prop := fnNodeRefuteUptoRow.holds Tryz.pinned (OpenSpec.upto fnNodeRefuteSpec)

/-- 'laws.FnNodeCast', WHERE WHAT IT READS IS OF BULK AT MOST 1048576: true; the input reads as it did. -/
def fnNodeCastUptoRow : OpenClaim := { program := "ytadlacffdemoiaagreat", sum := "7a52331cc0bccfbdd7148736e3fe6e59e0f4da38a945c5a8e67a609ccbd02b1b", func := "loop.example/lightship/laws.FnNodeCast", spec := "fnNodeCast", inPlace := ["slices.overlaps[loop.example/lightship/impl.Fact]", "slices.overlaps[loop.example/lightship/impl.Item]", "slices.overlaps[loop.example/lightship/impl.Doubt]", "slices.overlaps[int]", "slices.overlaps[loop.example/lightship/impl.Foreign]", "slices.overlaps[loop.example/lightship/impl.Place]"], unfollowed := true, recurses := true, apart := false, narrowed := true }
def FnNodeCastUptoSaid : Prop := fnNodeCastUptoRow.holds Tryz.pinned (OpenSpec.upto fnNodeCastSpec)

/-- 'laws.FnNodeFar', WHERE WHAT IT READS IS OF BULK AT MOST 1048576: true; the input reads as it did. -/
def fnNodeFarUptoRow : OpenClaim := { program := "ytadlacffdemoiaagreat", sum := "7a52331cc0bccfbdd7148736e3fe6e59e0f4da38a945c5a8e67a609ccbd02b1b", func := "loop.example/lightship/laws.FnNodeFar", spec := "fnNodeFar", inPlace := ["slices.overlaps[loop.example/lightship/impl.Fact]", "slices.overlaps[loop.example/lightship/impl.Item]", "slices.overlaps[loop.example/lightship/impl.Doubt]", "slices.overlaps[int]", "slices.overlaps[loop.example/lightship/impl.Foreign]", "slices.overlaps[loop.example/lightship/impl.Place]"], unfollowed := true, recurses := true, apart := false, narrowed := true }
def FnNodeFarUptoSaid : Prop := fnNodeFarUptoRow.holds Tryz.pinned (OpenSpec.upto fnNodeFarSpec)

/-- 'laws.FnNodeTurn', WHERE WHAT IT READS IS OF BULK AT MOST 1048576: true; the input reads as it did. -/
def fnNodeTurnUptoRow : OpenClaim := { program := "ytadlacffdemoiaagreat", sum := "7a52331cc0bccfbdd7148736e3fe6e59e0f4da38a945c5a8e67a609ccbd02b1b", func := "loop.example/lightship/laws.FnNodeTurn", spec := "fnNodeTurn", inPlace := ["slices.overlaps[loop.example/lightship/impl.Fact]", "slices.overlaps[loop.example/lightship/impl.Item]", "slices.overlaps[loop.example/lightship/impl.Doubt]", "slices.overlaps[int]", "slices.overlaps[loop.example/lightship/impl.Foreign]", "slices.overlaps[loop.example/lightship/impl.Place]"], unfollowed := true, recurses := true, apart := false, narrowed := true }
def FnNodeTurnUptoSaid : Prop := fnNodeTurnUptoRow.holds Tryz.pinned (OpenSpec.upto fnNodeTurnSpec)

/-- 'laws.FnNodeSure', WHERE WHAT IT READS IS OF BULK AT MOST 1048576: true; the input reads as it did. -/
def fnNodeSureUptoRow : OpenClaim := { program := "ytadlacffdemoiaagreat", sum := "7a52331cc0bccfbdd7148736e3fe6e59e0f4da38a945c5a8e67a609ccbd02b1b", func := "loop.example/lightship/laws.FnNodeSure", spec := "fnNodeSure", inPlace := ["slices.overlaps[loop.example/lightship/impl.Fact]", "slices.overlaps[loop.example/lightship/impl.Item]", "slices.overlaps[loop.example/lightship/impl.Doubt]", "slices.overlaps[int]", "slices.overlaps[loop.example/lightship/impl.Foreign]", "slices.overlaps[loop.example/lightship/impl.Place]"], unfollowed := true, recurses := true, apart := false, narrowed := true }
def FnNodeSureUptoSaid : Prop := fnNodeSureUptoRow.holds Tryz.pinned (OpenSpec.upto fnNodeSureSpec)

/-- 'laws.FnNodeSave', WHERE WHAT IT READS IS OF BULK AT MOST 1048576: true; the input reads as it did. -/
def fnNodeSaveUptoRow : OpenClaim := { program := "ytadlacffdemoiaagreat", sum := "7a52331cc0bccfbdd7148736e3fe6e59e0f4da38a945c5a8e67a609ccbd02b1b", func := "loop.example/lightship/laws.FnNodeSave", spec := "fnNodeSave", inPlace := ["slices.overlaps[loop.example/lightship/impl.Fact]", "slices.overlaps[loop.example/lightship/impl.Item]", "slices.overlaps[loop.example/lightship/impl.Doubt]", "slices.overlaps[int]", "slices.overlaps[loop.example/lightship/impl.Foreign]", "slices.overlaps[loop.example/lightship/impl.Place]"], unfollowed := true, recurses := true, apart := false, narrowed := true }
def FnNodeSaveUptoSaid : Prop := fnNodeSaveUptoRow.holds Tryz.pinned (OpenSpec.upto fnNodeSaveSpec)

end Rows
end Go.Proofs.YtadlacffdemoiaaGreat
