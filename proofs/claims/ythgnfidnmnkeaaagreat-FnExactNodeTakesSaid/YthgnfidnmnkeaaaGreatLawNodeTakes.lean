/- FnExactNodeTakes: the plain law. -/
import Derived.Test.YthgnfidnmnkeaaaGreatPuW
namespace Go.Proofs.YthgnfidnmnkeaaaGreatEv
open Go

theorem takes_same (K : Nat) (n : Node) (w : Word) (hn : NB n) (hw : (Word.table w).length ≤ 1048576) (hK : 1048577 < K) : ∃ b, spec_NodeTakes.f K (n, w, ()) = rb b ∧ impl_NodeTakes.f K (n, w, ()) = rb b := by
  obtain ⟨b1, h1, h1'⟩ := (nodeOk_s K n hn hK).same (nodeOk_i K n hn hK) Iff.rfl
  simp only [spec_NodeTakes.f, spec_NodeTakes.pre, impl_NodeTakes.f, impl_NodeTakes.pre]
  rw [h1, h1']
  cases b1 with
  | false => exact ⟨false, rfl, rfl⟩
  | true =>
    simp only [Option.bind_some, Bool.not_true, cond_false]
    obtain ⟨b2, h2, h2p⟩ := wordOk_s K w hw hK
    obtain ⟨b2', h2', h2q⟩ := wordOk_i K w hw hK
    have : b2 = b2' := by rw [Bool.eq_iff_iff, h2p, h2q]
    subst this
    rw [h2, h2']
    cases b2 with
    | false => exact ⟨false, rfl, rfl⟩
    | true =>
      have hW := h2p.1 rfl
      simp only [Option.bind_some, Bool.not_true, cond_false]
      obtain ⟨b3, h3, h3'⟩ := (l4Site_s K (Word.table w) (siteI n.1) hw hK).same (ofSite_i K (Word.table w) (siteI n.1) hw hK) Iff.rfl
      obtain ⟨b4, h4, h4'⟩ := (l4Site_s K (Word.table w) (siteI w.2.2.1) hw hK).same (ofSite_i K (Word.table w) (siteI w.2.2.1) hw hK) Iff.rfl
      obtain ⟨b5, h5, h5'⟩ := near_i K n w.2.2.1
      have h6 : b5 = (siteI w.2.2.1 == siteI n.1) := by
        rw [Bool.eq_iff_iff, h5', beq_iff_eq]
        exact ⟨fun h => h.2, fun h => ⟨hW.2.2.1, h⟩⟩
      have hp : InP w.1 1 2 := hW.1
      simp only [spec_l22Takes.f, spec_l22Takes.pre, impl_Node_active.f, impl_Node_active.pre]
      rw [h5, site_s K n.1, site_s K w.2.2.1, site_i K w.2.2.1, nsite_i K n, h6]
      simp only [Option.bind_some]
      rw [h3, h4, h4', h3']
      simp only [Option.bind_some, bne]
      generalize (siteI w.2.2.1 == siteI n.1) = c1
      generalize (w.2.2.2.1 == n.1) = c2
      generalize (w.2.2.1 == n.1) = c3
      generalize (w.2.1 == 6) = c4
      generalize n.2.1 = c5
      generalize n.2.2.1 = c6
      rcases (by omega : w.1 = 1 ∨ w.1 = 2) with h | h <;> rw [h] <;> cases c1 <;> cases c2 <;> cases c3 <;> cases c4 <;> cases c5 <;> cases c6 <;> cases b3 <;> cases b4 <;> exact ⟨_, rfl, rfl⟩

theorem law_NodeTakes (K : Nat) (n : Node) (w : Word) (hn : NM n) (hw : (Word.table w).length ≤ 9223372036854775807) (hK : 1048577 < K) : laws_FnExactNodeTakes.f K (n, w, ()) = some ((true, ()), ()) := by
  simp only [laws_FnExactNodeTakes.f, laws_FnExactNodeTakes.pre]
  obtain ⟨r, h1, h2⟩ := szNode_ok K n hn 1048576 (by omega) (by omega) hK
  rw [h1, Option.bind_some]
  rcases h2 with h2 | ⟨h2, h2', hb⟩
  · rw [decide_eq_true h2]; rfl
  · rw [show decide (r < 0) = false from decide_eq_false (by omega)]
    simp only [cond_false]
    obtain ⟨r2, h3, h4⟩ := szWord_ok K w hw r h2 (by omega)
    rw [h3, Option.bind_some]
    rcases h4 with h4 | ⟨h4, _, hb2⟩
    · rw [decide_eq_true h4]; rfl
    · rw [show decide (r2 < 0) = false from decide_eq_false (by omega)]
      obtain ⟨y, h5, h6⟩ := takes_same K n w hb hb2 hK
      simp only [cond_false, toNode_ok K n hb hK, toWord_ok K w hb2 hK, Option.bind_some]
      rw [h5]
      simp only [Option.bind_some]
      rw [h6]
      simp only [Option.bind_some, bne_self_eq_false, cond_false]
      rw [eqNode_refl K n hb hK, eqWord_refl K w hb2 hK]
      rfl

end Go.Proofs.YthgnfidnmnkeaaaGreatEv
