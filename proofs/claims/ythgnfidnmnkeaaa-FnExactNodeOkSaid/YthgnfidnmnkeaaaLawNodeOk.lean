/- FnExactNodeOk: the plain law. -/
import Derived.Test.YthgnfidnmnkeaaaPu7
namespace Go.Proofs.YthgnfidnmnkeaaaEv
open Go

theorem law_NodeOk (K : Nat) (n : Node) (hn : NM n) (hK : 1048577 < K) : laws_FnExactNodeOk.f K (n, ()) = some ((true, ()), ()) := by
  simp only [laws_FnExactNodeOk.f, laws_FnExactNodeOk.pre]
  obtain ⟨r, h1, h2⟩ := szNode_ok K n hn 1048576 (by omega) (by omega) hK
  rw [h1, Option.bind_some]
  rcases h2 with h2 | ⟨h2, _, hb⟩
  · rw [decide_eq_true h2]; rfl
  · rw [show decide (r < 0) = false from decide_eq_false (by omega)]
    obtain ⟨b, h3, h4⟩ := Ret.same (nodeOk_s K n hb hK) (nodeOk_i K n hb hK) Iff.rfl
    simp only [cond_false, toNode_ok K n hb hK, Option.bind_some]
    rw [h3]
    simp only [Option.bind_some]
    rw [h4]
    simp only [Option.bind_some, bne_self_eq_false, cond_false]
    rw [eqNode_refl K n hb hK]
    rfl

end Go.Proofs.YthgnfidnmnkeaaaEv
