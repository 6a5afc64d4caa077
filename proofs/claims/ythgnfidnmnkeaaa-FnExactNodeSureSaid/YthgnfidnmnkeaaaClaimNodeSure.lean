/- FnExactNodeSure: for every input the law returns true, and each argument reads behind the call as it read before. -/
import Derived.Test.YthgnfidnmnkeaaaRows
import Derived.Test.YthgnfidnmnkeaaaSnd
import Derived.Test.YthgnfidnmnkeaaaLawNodeSure
import Derived.Test.YthgnfidnmnkeaaaEv31
namespace Go.Proofs.Ythgnfidnmnkeaaa
open Go.ChangeShapes Go.WideShapes Go.ChangeAt Go.RowKit Go.Proofs.YthgnfidnmnkeaaaEv

theorem Try.own : ownKnob Try.prog.godebug = none := by kernel_rfl
theorem Try.laidOut : laidOutB Try.prog = true := by kernel_rfl

theorem trodAll_len {H : Type} {enc : TypeId × Value → H} {P : Program} {W : World} {b : Nat} {sp : Nat → Bool} {hd : Bool} : ∀ {ts : List TypeId} {vs : List Value} {ds : List (DataW H)} {ps : List MemPlace}, DataW.TrodAll enc P W b sp hd ts vs ds ps → ds.length = ts.length
  | [], [], [], _, _ => rfl
  | [], [], _ :: _, _, h => h.elim
  | [], _ :: _, _, _, h => h.elim
  | _ :: _, [], _, _, h => h.elim
  | _ :: _, _ :: _, [], _, h => h.elim
  | _ :: _, _ :: _, _ :: _, _, ⟨_, _, _, h, _⟩ => by rw [List.length_cons, List.length_cons, trodAll_len h]

theorem nm_of {n : Go.Proofs.YthgnfidnmnkeaaaEv.Node} (h : Sm ty_laws_Node n) : NM n := by
  obtain ⟨_, _, _, _, _, _, _, _, ⟨a1, _⟩, ⟨a2, _⟩, _, ⟨a3, b3⟩, _, ⟨a4, b4⟩, ⟨a5, b5⟩⟩ := h
  have e : ∀ {k : Nat}, k ≤ maxLen → k ≤ 9223372036854775807 := fun h => Nat.le_trans h (by decide)
  refine ⟨e a1, e a2, e a3, fun d hd => ?_, e a4, fun p hp => ?_, e a5, fun x hx => ?_⟩
  · obtain ⟨_, _, _, h, _⟩ := b3 d hd; exact e h
  · obtain ⟨_, _, h, _⟩ := b4 p hp; exact e h
  · obtain ⟨_, h, _⟩ := b5 x hx; exact e h
set_option maxRecDepth 100000 in
theorem fnExactNodeSure_lifted (os : Os) (started : os.Started) (H : Type) (enc : TypeId × Value → H) :
    ReturnsInHanded {} Try.checked os 5 .any (Rows.fnExactNodeSureSpec.pre6 enc Try.prog Try.f5 Rows.fnExactNodeSureRow.domain false) (Rows.fnExactNodeSureSpec.post enc Try.prog Try.f5 false true false false) := by
  refine returnsInHanded_of_change (C := Try.checked) Try.own started (by kernel_rfl) Try.func5
    (ChangeSpec.witness6 (enc := enc) (C := Try.checked) false ⟨#[], #[.agg #[.int .i64 0, .bool false, .bool false, .bool false, .int .i64 0, .int .i64 0, .int .i64 0, .int .i64 0, .slice none 0 0, .slice none 0 0, .int .i64 0, .int .i64 0, .int .i64 0, .bool false, .slice none 0 0, .int .i64 0, .int .i64 0, .int .i64 0, .int .i64 0, .slice none 0 0, .slice none 0 0], .int .i64 0], []⟩ 8 (by kernel_rfl) (by kernel_rfl) (by kernel_rfl) (by kernel_rfl)) ?_
  intro W base args ds gs before hval hW hcnd _
  have hW' := hW
  obtain ⟨p, q, hA, hV, e0, hfz, hnd⟩ := hW
  obtain ⟨x, hx, hsx⟩ := open_args (pr := fun k => k < W.heap.size) [ty_laws_Node, .int .i64] Try.f5.params.toList args.toList ds p (by kernel_rfl) hA ⟨base, fun j t v h1 h2 => hval j t v (by simpa using h1) (by simpa using h2)⟩
  have hcalls := law_calls (tys := [ty_laws_Node, .int .i64]) (laws_FnExactNodeSure.sound 1048578) (x := x) hx (law_NodeSure 1048578 x.1 x.2.1 (nm_of hsx.1) (by omega))
  rw [Array.toArray_toList] at hcalls
  refine hcalls.mono fun e W' ⟨he, hb⟩ => ?_
  subst he
  have hlen : ds.length = 2 := (trodAll_len hA).trans (by rw [Try.params5]; rfl)
  have hgs : gs = [] := (trodVars_none hV).1
  subst hgs
  match ds, hlen, hW' with
  | [d0, d1], _, hW' =>
    exact ⟨_, rfl, post_of_below Try.laidOut hW' rfl hb (by rw [Try.params5]; decide +kernel) (tb := Try.f5.resultTypes[0]!) (by kernel_rfl) (by kernel_rfl) rfl rfl rfl⟩

theorem fnExactNodeSure_holds : Rows.FnExactNodeSureSaid :=
  OpenClaim.holds_of_wide 5 Try.f5 rfl rfl rfl rfl rfl rfl rfl ⟨rfl, rfl, rfl, rfl, rfl⟩ rfl rfl rfl rfl rfl (by kernel_rfl) Try.func5 (by kernel_rfl)
    (of_decide_eq_true (by kernel_rfl)) (by unfold Func.isWrapper; first | (rw [if_pos (by decide +kernel)]; kernel_rfl) | (rw [if_neg (by decide +kernel)]; exact ⟨rfl, rfl⟩))
    (fun os started H enc _ => fnExactNodeSure_lifted os started H enc)

end Go.Proofs.Ythgnfidnmnkeaaa
