/- FnViewNews: for every input the law returns true, and each argument reads behind the call as it read before. -/
import Derived.Test.YtdjmnbdicpgmiaaRows
import Derived.Test.YtdjmnbdicpgmiaaSnd
import Derived.Test.YtdjmnbdicpgmiaaLawFnViewNews
import Derived.Test.YtdjmnbdicpgmiaaE8
namespace Go.Proofs.Ytdjmnbdicpgmiaa
open Go.ChangeShapes Go.WideShapes Go.ChangeAt Go.RowKit Go.Proofs.YtdjmnbdicpgmiaaEv
theorem Try.own : ownKnob Try.prog.godebug = none := by kernel_rfl
theorem Try.laidOut : laidOutB Try.prog = true := by kernel_rfl
theorem trodAll_len {H : Type} {enc : TypeId × Value → H} {P : Program} {W : World} {b : Nat} {sp : Nat → Bool} {hd : Bool} : ∀ {ts : List TypeId} {vs : List Value} {ds : List (DataW H)} {ps : List MemPlace}, DataW.TrodAll enc P W b sp hd ts vs ds ps → ds.length = ts.length
  | [], [], [], _, _ => rfl
  | [], [], _ :: _, _, h => h.elim
  | [], _ :: _, _, _, h => h.elim
  | _ :: _, [], _, _, h => h.elim
  | _ :: _, _ :: _, [], _, h => h.elim
  | _ :: _, _ :: _, _ :: _, _, ⟨_, _, _, h, _⟩ => by rw [List.length_cons, List.length_cons, trodAll_len h]
theorem byte_of {y : Int} (h : (Lit.int .u8 y).wf = true) : 0 ≤ y ∧ y ≤ 255 := by
  simp only [Lit.wf, Bool.and_eq_true, decide_eq_true_eq] at h
  exact h
set_option maxRecDepth 100000 in
theorem fnViewNews_lifted (os : Os) (started : os.Started) (H : Type) (enc : TypeId × Value → H) :
    ReturnsInHanded {} Try.checked os 5 .any (Rows.fnViewNewsSpec.pre6 enc Try.prog Try.f5 Rows.fnViewNewsRow.domain false) (Rows.fnViewNewsSpec.post enc Try.prog Try.f5 false true false false) := by
  refine returnsInHanded_of_change (C := Try.checked) Try.own started (by kernel_rfl) Try.func5
    (ChangeSpec.witness6 (enc := enc) (C := Try.checked) false ⟨#[], #[.slice none 0 0], []⟩ 8 (by kernel_rfl) (by kernel_rfl) (by kernel_rfl) (by kernel_rfl)) ?_
  intro W base args ds gs before hval hW hcnd _
  have hW' := hW
  obtain ⟨p, q, hA, hV, e0, hfz, hnd⟩ := hW
  obtain ⟨x, hx, hsx⟩ := open_args (pr := fun k => k < W.heap.size) [.list false 5 (.int .u8)] Try.f5.params.toList args.toList ds p (by kernel_rfl) hA ⟨base, fun j t v h1 h2 => hval j t v (by simpa using h1) (by simpa using h2)⟩
  have hcalls := law_calls (tys := [.list false 5 (.int .u8)]) (laws_FnViewNews.sound 1048578) (x := x) hx (law_FnViewNews 1048578 x.1 (fun y hy => byte_of (hsx.1.2 y hy)) (Nat.le_trans hsx.1.1 (by decide)) (by omega))
  rw [Array.toArray_toList] at hcalls
  refine hcalls.mono fun e W' ⟨he, hb⟩ => ?_
  subst he
  have hlen : ds.length = 1 := (trodAll_len hA).trans (by rw [Try.params5]; rfl)
  have hgs : gs = [] := (trodVars_none hV).1
  subst hgs
  match ds, hlen, hW' with
  | [d0], _, hW' =>
    exact ⟨_, rfl, post_of_below Try.laidOut hW' rfl hb (by rw [Try.params5]; decide +kernel) (tb := Try.f5.resultTypes[0]!) (by kernel_rfl) (by kernel_rfl) rfl rfl rfl⟩
theorem band {a b : Bool} (h1 : a = true) (h2 : b = true) : (a && b) = true := by rw [h1, h2]; rfl
set_option maxHeartbeats 4000000 in
theorem fnViewNews_closed : joinedFacts Try.pinned.checked.prog 5 Try.f5 Rows.fnViewNewsSpec Rows.fnViewNewsRow = true := by
  unfold joinedFacts
  repeat' with_reducible apply band
  all_goals (as_aux_lemma => kernel_rfl)
set_option maxHeartbeats 4000000 in
theorem fnViewNews_holds : Rows.FnViewNewsSaid :=
  OpenClaim.holds_of_wide 5 Try.f5 rfl rfl rfl rfl rfl rfl rfl ⟨rfl, rfl, rfl, rfl, rfl⟩ rfl rfl rfl rfl rfl (by as_aux_lemma => kernel_rfl) Try.func5 fnViewNews_closed
    (of_decide_eq_true (by kernel_rfl)) (by unfold Func.isWrapper; first | (rw [if_pos (by decide +kernel)]; kernel_rfl) | (rw [if_neg (by decide +kernel)]; exact ⟨rfl, rfl⟩))
    (fun os started H enc _ => fnViewNews_lifted os started H enc)
end Go.Proofs.Ytdjmnbdicpgmiaa
