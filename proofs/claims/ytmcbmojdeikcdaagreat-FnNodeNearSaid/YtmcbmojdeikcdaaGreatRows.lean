/-
  No cell of these rows narrows 'for every input' (looked for: loops, veiled, ifaces, maps, wideKeys, modest, calm, conditions, laid).
  DERIVED. THE GIVEN ROWS OF THIS SEAT. 5 by the template 'for every input the law returns true; each argument reads behind the call as it read before'; 0 by the template 'total and deterministic' (their statements: YtmcbmojdeikcdaaGreatTotals.lean).
  GIVEN WITH THE SEED: the statements are not yours to turn. If you find one false, say at which input.
  Laid BY PROGRAM, IN A SANDBOX (cutbox-rows.mjs): the forced cells as the released guide's own fill.sh prints them over the translation d437cc7780e6ea77… (all of the seat's roots in one cut). By AI agents, Wed Nov 11 2026. No macro, syntax, notation, axiom, sorry.
-/
import Derived.Test.YtmcbmojdeikcdaaGreatChecked
import GoSem.Claim
import GoSem.ClaimJoined
import GoSem.ClaimMapViews
import Derived.JoinedTies
import Derived.KernelRfl
namespace Go.Proofs.YtmcbmojdeikcdaaGreat
/- THE CELL 'sum', in the pinned program and in every row, IS THE sha256 OF THE DUMP (.gsa) THAT YtmcbmojdeikcdaaGreatProg.lean LOADS. Nothing in Lean hashes anything: it is a label: what it is worth is what the hold of that sum in a sandbox is worth. -/
noncomputable def Tryz.pinned : Pinned := { name := "ytmcbmojdeikcdaagreat", sum := "d437cc7780e6ea77ddc3a854518a9c2738653802dfc8376cd7e711524e9d7060", checked := Tryz.checked }
namespace Rows
def none {H : Type} : Left H := { results := [], args := [] }

/-- 'laws.FnNodeNear': WHATEVER THE INPUT: true; the input reads as it did. -/
def fnNodeNearSpec : ChangeSpec := { name := "fnNodeNear", fn := fun _ => fun
  | [d] => { results := [.lit (.bool true)], args := [d] }
  | _ => none }
def fnNodeNearRow : OpenClaim := { program := "ytmcbmojdeikcdaagreat", sum := "d437cc7780e6ea77ddc3a854518a9c2738653802dfc8376cd7e711524e9d7060", func := "loop.example/lightship/laws.FnNodeNear", spec := "fnNodeNear", unfollowed := true, recurses := true, apart := false }
def FnNodeNearSaid : Prop := fnNodeNearRow.holds Tryz.pinned (OpenSpec.ofChange fnNodeNearSpec)

/-- ITS FALSE NEIGHBOUR: 'it returns false'. Refute it at one input. -/
def fnNodeNearWrong : ChangeSpec := { name := "fnNodeNear", fn := fun _ => fun
  | [d] => { results := [.lit (.bool false)], args := [d] }
  | _ => none }
def FnNodeNearWrongFalsely : Prop := fnNodeNearRow.holds Tryz.pinned (OpenSpec.ofChange fnNodeNearWrong)

/-- 'laws.FnNodeGates': WHATEVER THE INPUT: true; the input reads as it did. -/
def fnNodeGatesSpec : ChangeSpec := { name := "fnNodeGates", fn := fun _ => fun
  | [d] => { results := [.lit (.bool true)], args := [d] }
  | _ => none }
def fnNodeGatesRow : OpenClaim := { program := "ytmcbmojdeikcdaagreat", sum := "d437cc7780e6ea77ddc3a854518a9c2738653802dfc8376cd7e711524e9d7060", func := "loop.example/lightship/laws.FnNodeGates", spec := "fnNodeGates", unfollowed := true, recurses := true, apart := false }
def FnNodeGatesSaid : Prop := fnNodeGatesRow.holds Tryz.pinned (OpenSpec.ofChange fnNodeGatesSpec)

/-- ITS FALSE NEIGHBOUR: 'it returns false'. Refute it at one input. -/
def fnNodeGatesWrong : ChangeSpec := { name := "fnNodeGates", fn := fun _ => fun
  | [d] => { results := [.lit (.bool false)], args := [d] }
  | _ => none }
def FnNodeGatesWrongFalsely : Prop := fnNodeGatesRow.holds Tryz.pinned (OpenSpec.ofChange fnNodeGatesWrong)

/-- 'laws.FnNodeView': WHATEVER THE INPUT: true; the input reads as it did. -/
def fnNodeViewSpec : ChangeSpec := { name := "fnNodeView", fn := fun _ => fun
  | [d1, d2] => { results := [.lit (.bool true)], args := [d1, d2] }
  | _ => none }
def fnNodeViewRow : OpenClaim := { program := "ytmcbmojdeikcdaagreat", sum := "d437cc7780e6ea77ddc3a854518a9c2738653802dfc8376cd7e711524e9d7060", func := "loop.example/lightship/laws.FnNodeView", spec := "fnNodeView", unfollowed := true, recurses := true, apart := false }
def FnNodeViewSaid : Prop := fnNodeViewRow.holds Tryz.pinned (OpenSpec.ofChange fnNodeViewSpec)

/-- ITS FALSE NEIGHBOUR: 'it returns false'. Refute it at one input. -/
def fnNodeViewWrong : ChangeSpec := { name := "fnNodeView", fn := fun _ => fun
  | [d1, d2] => { results := [.lit (.bool false)], args := [d1, d2] }
  | _ => none }
def FnNodeViewWrongFalsely : Prop := fnNodeViewRow.holds Tryz.pinned (OpenSpec.ofChange fnNodeViewWrong)

/-- 'laws.FnWorldSafe': WHATEVER THE INPUT: true; the input reads as it did. -/
def fnWorldSafeSpec : ChangeSpec := { name := "fnWorldSafe", fn := fun _ => fun
  | [d] => { results := [.lit (.bool true)], args := [d] }
  | _ => none }
def fnWorldSafeRow : OpenClaim := { program := "ytmcbmojdeikcdaagreat", sum := "d437cc7780e6ea77ddc3a854518a9c2738653802dfc8376cd7e711524e9d7060", func := "loop.example/lightship/laws.FnWorldSafe", spec := "fnWorldSafe", unfollowed := true, recurses := true, apart := false }
def FnWorldSafeSaid : Prop := fnWorldSafeRow.holds Tryz.pinned (OpenSpec.ofChange fnWorldSafeSpec)

/-- ITS FALSE NEIGHBOUR: 'it returns false'. Refute it at one input. -/
def fnWorldSafeWrong : ChangeSpec := { name := "fnWorldSafe", fn := fun _ => fun
  | [d] => { results := [.lit (.bool false)], args := [d] }
  | _ => none }
def FnWorldSafeWrongFalsely : Prop := fnWorldSafeRow.holds Tryz.pinned (OpenSpec.ofChange fnWorldSafeWrong)

/-- 'laws.FnWorldGates': WHATEVER THE INPUT: true; the input reads as it did. -/
def fnWorldGatesSpec : ChangeSpec := { name := "fnWorldGates", fn := fun _ => fun
  | [d] => { results := [.lit (.bool true)], args := [d] }
  | _ => none }
def fnWorldGatesRow : OpenClaim := { program := "ytmcbmojdeikcdaagreat", sum := "d437cc7780e6ea77ddc3a854518a9c2738653802dfc8376cd7e711524e9d7060", func := "loop.example/lightship/laws.FnWorldGates", spec := "fnWorldGates", unfollowed := true, recurses := true, apart := false }
def FnWorldGatesSaid : Prop := fnWorldGatesRow.holds Tryz.pinned (OpenSpec.ofChange fnWorldGatesSpec)

/-- ITS FALSE NEIGHBOUR: 'it returns false'. Refute it at one input. -/
def fnWorldGatesWrong : ChangeSpec := { name := "fnWorldGates", fn := fun _ => fun
  | [d] => { results := [.lit (.bool false)], args := [d] }
  | _ => none }
def FnWorldGatesWrongFalsely : Prop := fnWorldGatesRow.holds Tryz.pinned (OpenSpec.ofChange fnWorldGatesWrong)

/- THE SECOND FORM. 'bulk': how many values and letters a reading holds, each counted each time it is reached (what is shared counts as often as it is met; a slice's spare places count too). A statement '..UptoSaid' is the law's where the arguments, and the package variables that the reading takes, are together of bulk at most 1048576: NARROWER than '..Said'. Prove '..Said' where nothing that the law and all that it calls make is longer than what came in: it says more and counts as full. Else prove '..UptoSaid'. A law counts once. -/
mutual
def uptoBulk {H : Type} : DataW H → Nat
  | .lit (.string bytes) => bytes.length + 1
  | .lit _ => 1
  | .nil => 1
  | .ptr d => uptoBulk d + 1
  | .slice elems spare => uptoBulkAll elems + uptoBulkAll spare + 1
  | .agg parts => uptoBulkAll parts + 1
  | .iface _ d => uptoBulk d + 1
  | .map entries => uptoBulkEntries entries + 1
  | .held _ => 1
def uptoBulkAll {H : Type} : List (DataW H) → Nat
  | [] => 0
  | d :: r => uptoBulk d + uptoBulkAll r
def uptoBulkEntries {H : Type} : List (Lit × DataW H) → Nat
  | [] => 0
  | x :: r => uptoBulkEntry x + uptoBulkEntries r
def uptoBulkEntry {H : Type} : Lit × DataW H → Nat
  | (.string bytes, d) => bytes.length + uptoBulk d + 1
  | (_, d) => uptoBulk d + 1
 end
def uptoSmall : (H : Type) → List (DataW H) → Bool := fun _ ds => decide (uptoBulkAll ds ≤ 1048576)
def OpenSpec.upto (s : _root_.Go.ChangeSpec) : _root_.Go.OpenSpec := { _root_.Go.OpenSpec.ofChange s with cond := some uptoSmall }

/-- 'laws.FnNodeNear', WHERE WHAT IT READS IS OF BULK AT MOST 1048576: true; the input reads as it did. -/
def fnNodeNearUptoRow : OpenClaim := { program := "ytmcbmojdeikcdaagreat", sum := "d437cc7780e6ea77ddc3a854518a9c2738653802dfc8376cd7e711524e9d7060", func := "loop.example/lightship/laws.FnNodeNear", spec := "fnNodeNear", unfollowed := true, recurses := true, apart := false, narrowed := true }
def FnNodeNearUptoSaid : Prop := fnNodeNearUptoRow.holds Tryz.pinned (OpenSpec.upto fnNodeNearSpec)

/-- 'laws.FnNodeGates', WHERE WHAT IT READS IS OF BULK AT MOST 1048576: true; the input reads as it did. -/
def fnNodeGatesUptoRow : OpenClaim := { program := "ytmcbmojdeikcdaagreat", sum := "d437cc7780e6ea77ddc3a854518a9c2738653802dfc8376cd7e711524e9d7060", func := "loop.example/lightship/laws.FnNodeGates", spec := "fnNodeGates", unfollowed := true, recurses := true, apart := false, narrowed := true }
def FnNodeGatesUptoSaid : Prop := fnNodeGatesUptoRow.holds Tryz.pinned (OpenSpec.upto fnNodeGatesSpec)

/-- 'laws.FnNodeView', WHERE WHAT IT READS IS OF BULK AT MOST 1048576: true; the input reads as it did. -/
def fnNodeViewUptoRow : OpenClaim := { program := "ytmcbmojdeikcdaagreat", sum := "d437cc7780e6ea77ddc3a854518a9c2738653802dfc8376cd7e711524e9d7060", func := "loop.example/lightship/laws.FnNodeView", spec := "fnNodeView", unfollowed := true, recurses := true, apart := false, narrowed := true }
def FnNodeViewUptoSaid : Prop := fnNodeViewUptoRow.holds Tryz.pinned (OpenSpec.upto fnNodeViewSpec)

/-- 'laws.FnWorldSafe', WHERE WHAT IT READS IS OF BULK AT MOST 1048576: true; the input reads as it did. -/
def fnWorldSafeUptoRow : OpenClaim := { program := "ytmcbmojdeikcdaagreat", sum := "d437cc7780e6ea77ddc3a854518a9c2738653802dfc8376cd7e711524e9d7060", func := "loop.example/lightship/laws.FnWorldSafe", spec := "fnWorldSafe", unfollowed := true, recurses := true, apart := false, narrowed := true }
def FnWorldSafeUptoSaid : Prop := fnWorldSafeUptoRow.holds Tryz.pinned (OpenSpec.upto fnWorldSafeSpec)

/-- 'laws.FnWorldGates', WHERE WHAT IT READS IS OF BULK AT MOST 1048576: true; the input reads as it did. -/
def fnWorldGatesUptoRow : OpenClaim := { program := "ytmcbmojdeikcdaagreat", sum := "d437cc7780e6ea77ddc3a854518a9c2738653802dfc8376cd7e711524e9d7060", func := "loop.example/lightship/laws.FnWorldGates", spec := "fnWorldGates", unfollowed := true, recurses := true, apart := false, narrowed := true }
def FnWorldGatesUptoSaid : Prop := fnWorldGatesUptoRow.holds Tryz.pinned (OpenSpec.upto fnWorldGatesSpec)

end Rows
end Go.Proofs.YtmcbmojdeikcdaaGreat
