/- FnExactNodeGates: the plain law. -/
import Derived.Test.YthgnfidnmnkeaaaGreatP2
namespace Go.Proofs.YthgnfidnmnkeaaaGreatEv
open Go
theorem nodeOk_both (K : Nat) (n : Node) (hn : NB n) (hK : 1048577 < K) : ∃ b, spec_NodeOk.f K (n, ()) = rb b ∧ impl_NodeOk.f K (n, ()) = rb b ∧ (b = true ↔ NodeP n) := by
  obtain ⟨b, h1, h2⟩ := nodeOk_s K n hn hK
  obtain ⟨b', h3, h4⟩ := nodeOk_i K n hn hK
  have : b = b' := by rw [Bool.eq_iff_iff, h2, h4]
  subst this
  exact ⟨b, h1, h3, h2⟩
theorem NodeP.up {n : Node} (h : NodeP n) (hu : n.2.1 = true) : UpP n := by
  have := h.2.2.2.2.2
  rwa [if_pos hu] at this
theorem nodeGates_same (K : Nat) (n : Node) (s : Int) (hn : NB n) (hK : 1048577 < K) : ∃ r : List Int, r.length ≤ 1048576 ∧ spec_NodeGates.f K (n, s, ()) = some ((r, ()), ()) ∧ impl_NodeGates.f K (n, s, ()) = some ((r, ()), ()) := by
  obtain ⟨b, h1, h2, h3⟩ := nodeOk_both K n hn hK
  simp only [spec_NodeGates.f, spec_NodeGates.pre, impl_NodeGates.f, impl_NodeGates.pre]
  rw [h1, h2]
  cases b with
  | false => exact ⟨[], by simp, rfl, rfl⟩
  | true =>
    simp only [Option.bind_some, Bool.not_true, cond_false]
    cases hu : n.2.1 with
    | false => exact ⟨[], by simp, rfl, rfl⟩
    | true =>
      have hU := (h3.1 rfl).up hu
      simp only [Bool.not_true, cond_false]
      rw [site_s K n.1, nsite_i K n]
      simp only [Option.bind_some]
      cases hs : s == siteI n.1 with
      | true =>
        simp only [cond_true]
        rw [show spec_l3Gates.f K (n.2.2.2.2.2.2.2.2.1, 2, ()) = _ from gates_s K (Node.table n) hn.table hK, show impl_TableGates.f K (n.2.2.2.2.2.2.2.2.1, 2, ()) = _ from gates_i K (Node.table n) hn.table hK hU.1]
        exact ⟨gates (Node.table n), Nat.le_trans (gates_len _) (by decide), rfl, rfl⟩
      | false =>
        simp only [cond_false]
        have hk := known_i K n s hn hK
        rw [hk]
        simp only [Option.bind_some]
        have hT : TableP (known (Node.others n) s) ∧ (known (Node.others n) s).length ≤ 1048576 := by
          rcases known_mem (l := Node.others n) (s := s) with h | ⟨x, hx, _, h⟩
          · rw [h]; exact ⟨⟨by simp, List.Pairwise.nil⟩, by simp⟩
          · rw [h]; exact ⟨(hU.2.2.2.2.2.2.2.2.1 x hx).2.2.2.1, hn.facts x hx⟩
        rw [gates_i K _ hT.2 hK hT.1]
        refine ⟨gates (known (Node.others n) s), Nat.le_trans (gates_len _) (by decide), ?_, rfl⟩
        have hl := hn.others
        refine (known_loop (step := fun rec a => spec_NodeGates.l0.step K (n, s, ()) rec a) (Node.others n) s (fun t => some ((gates t, ()), ())) ?_ ?_ (Node.others n).length 0 K (by omega) (by omega)).trans rfl
        · intro rec i hi
          simp only [spec_NodeGates.l0.step]
          rw [decLt (by omega : (i : Int) < (List.length (Node.others n) : Int)), idx_get hi, wr_succ i (by omega)]
          simp only [cond_true, Option.bind_some]
          rw [gates_s K _ (hn.facts _ (List.getElem_mem hi)) hK]
          rfl
        · intro rec
          simp only [spec_NodeGates.l0.step, decNl]
          rfl
theorem mark_copy (K : Nat) (n : Node) (hn : NB n) (hK : 1048577 < K) : ∃ m : Int, 0 ≤ m ∧ laws_markNode.f K (n, 1, ()) = some ((m, ()), ((mkNode n 1).1, ())) := by
  refine ⟨(mkNode n 1).2, ?_, markNode_ok K n hn 1 (by omega) ?_ hK⟩
  · rw [wNode_ok]; omega
  · have := wNode_le hn; omega
theorem ints_said (K : Nat) (r : List Int) (hr : r.length ≤ 1048576) (hK : 1048577 < K) : ∃ m : Int, 0 ≤ m ∧ laws_eqIntS.f K (r, r, ()) = rb true ∧ laws_markIntS.f K (r, 1, ()) = some ((m, ()), ((mks mkInt r 1).1, ())) ∧ laws_heldIntS.f K ((mks mkInt r 1).1, 1, ()) = some ((m, ()), ()) := by
  have := wInts_le hr
  refine ⟨(mks mkInt r 1).2, ?_, eqIntS_refl K r hr hK, markIntS_ok K r 1 hr (by omega) (by omega) hK, heldIntS_ok K r 1 hr (by omega) (by omega) hK⟩
  rw [mks_next wInt_ok]; omega
theorem law_NodeGates (K : Nat) (n : Node) (v : Int) (hn : NM n) (hK : 1048577 < K) : laws_FnExactNodeGates.f K (n, v, ()) = some ((true, ()), ()) := by
  simp only [laws_FnExactNodeGates.f, laws_FnExactNodeGates.pre]
  obtain ⟨r, h1, h2⟩ := szNode_ok K n hn 1048576 (by omega) (by omega) hK
  rw [h1, Option.bind_some]
  rcases h2 with h2 | ⟨h2, _, hb⟩
  · rw [decide_eq_true h2]; rfl
  · rw [nneg h2]
    obtain ⟨y, hy, h3, h4⟩ := nodeGates_same K n v hb hK
    obtain ⟨m, hm, h5⟩ := mark_copy K n hb hK
    obtain ⟨m', hm', h6, h7, h8⟩ := ints_said K y hy hK
    simp only [cond_false, toNode_ok K n hb hK, Option.bind_some, h3, h4, h5, h6, h7, h8, eqNode_refl K n hb hK, nneg hm, nneg hm', bne_self_eq_false, Bool.not_true]
end Go.Proofs.YthgnfidnmnkeaaaGreatEv
