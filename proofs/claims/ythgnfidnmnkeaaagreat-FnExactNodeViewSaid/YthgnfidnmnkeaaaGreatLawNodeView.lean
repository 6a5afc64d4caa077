/- FnExactNodeView: the plain law. -/
import Derived.Test.YthgnfidnmnkeaaaGreatP2
namespace Go.Proofs.YthgnfidnmnkeaaaGreatEv
open Go
theorem nodeView_same (K : Nat) (n : Node) (hn : NB n) (hK : 1048577 < K) : ∃ r : List Fact, r.length ≤ 1048576 ∧ spec_NodeView.f K (n, ()) = some ((r, ()), ()) ∧ impl_NodeView.f K (n, ()) = some ((r, ()), ()) := by
  obtain ⟨b, h1, h2, h3⟩ := nodeOk_both K n hn hK
  cases b with
  | false =>
    refine ⟨[], by simp, ?_, ?_⟩
    · simp only [spec_NodeView.f, spec_NodeView.pre]; rw [h1]; rfl
    · simp only [impl_NodeView.f, impl_NodeView.pre]; rw [h2]; rfl
  | true =>
    have hP := h3.1 rfl
    cases hu : n.2.1 with
    | false =>
      refine ⟨[], by simp, ?_, ?_⟩
      · simp only [spec_NodeView.f, spec_NodeView.pre]; rw [h1]; simp only [Option.bind_some, hu]; rfl
      · simp only [impl_NodeView.f, impl_NodeView.pre]; rw [h2]; simp only [Option.bind_some, hu]; rfl
    | true =>
      refine ⟨viewOf n, by have := viewOf_len hn hP; omega, viewOf_s K n hn hP hu hK, ?_⟩
      simp only [impl_NodeView.f, impl_NodeView.pre]
      rw [h2]
      simp only [Option.bind_some, hu, Bool.not_true, cond_false]
      rw [viewOf_i K n hn hP hK]
      rfl
theorem facts_said (K : Nat) (r : List Fact) (hr : r.length ≤ 1048576) (hK : 1048577 < K) : ∃ m : Int, 0 ≤ m ∧ laws_eqFactS.f K (r, r, ()) = rb true ∧ laws_markFactS.f K (r, 1, ()) = some ((m, ()), ((mks mkFact r 1).1, ())) ∧ laws_heldFactS.f K ((mks mkFact r 1).1, 1, ()) = some ((m, ()), ()) := by
  have := wFacts_le hr
  refine ⟨(mks mkFact r 1).2, ?_, eqFactS_refl K r hr hK, markFactS_ok K r 1 hr (by omega) (by omega) hK, heldFactS_ok K r 1 hr (by omega) (by omega) hK⟩
  rw [mks_next wFact_ok]; omega
theorem law_NodeView (K : Nat) (n : Node) (hn : NM n) (hK : 1048577 < K) : laws_FnExactNodeView.f K (n, ()) = some ((true, ()), ()) := by
  simp only [laws_FnExactNodeView.f, laws_FnExactNodeView.pre]
  obtain ⟨r, h1, h2⟩ := szNode_ok K n hn 1048576 (by omega) (by omega) hK
  rw [h1, Option.bind_some]
  rcases h2 with h2 | ⟨h2, _, hb⟩
  · rw [decide_eq_true h2]; rfl
  · rw [nneg h2]
    obtain ⟨y, hy, h3, h4⟩ := nodeView_same K n hb hK
    obtain ⟨m, hm, h5⟩ := mark_copy K n hb hK
    obtain ⟨m', hm', h6, h7, h8⟩ := facts_said K y hy hK
    simp only [cond_false, toNode_ok K n hb hK, Option.bind_some, h3, h4, h5, h6, h7, h8, eqNode_refl K n hb hK, nneg hm, nneg hm', bne_self_eq_false, Bool.not_true]
end Go.Proofs.YthgnfidnmnkeaaaGreatEv
