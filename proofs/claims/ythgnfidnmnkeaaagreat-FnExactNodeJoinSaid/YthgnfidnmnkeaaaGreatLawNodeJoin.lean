/- FnExactNodeJoin: the plain law. -/
import Derived.Test.YthgnfidnmnkeaaaGreatP2
namespace Go.Proofs.YthgnfidnmnkeaaaGreatEv
open Go
def zeroNode : Node := (0, false, false, false, 0, 0, 0, 0, [], [], (0, 0, 0, false), [], (0, 0, 0, 0), [], [])
theorem zeroNode_ok : NB zeroNode where
  table := Nat.zero_le _
  cast := Nat.zero_le _
  doubts := Nat.zero_le _
  by_ := fun d hd => absurd hd List.not_mem_nil
  places := Nat.zero_le _
  trips := fun d hd => absurd hd List.not_mem_nil
  others := Nat.zero_le _
  facts := fun d hd => absurd hd List.not_mem_nil
def joinWord (n : Node) (to : Int) : Word := (1, 4, n.1, to, 0, n.1, Node.coord n, Node.table n)
def actB' (n : Node) : Bool := n.2.1 && !n.2.2.1
theorem join_word_s (K : Nat) (n : Node) (to : Int) (hn : NB n) : spec_l21Word.f K (n, 4, to, 0, n.1, Node.table n, ()) = some ((joinWord n to, ()), ()) := by
  have := hn.table
  simp only [spec_l21Word.f, spec_l21Word.pre]
  rw [szb _ _ _ (by omega) (by show (List.length ([] : List Fact)) + (Node.table n).length ≤ _; simp; omega)]
  rfl
theorem join_word_i (K : Nat) (n : Node) (to : Int) (hn : NB n) : impl_Node_whole.f K (n, 4, to, ()) = some ((joinWord n to, ()), ()) := by
  have := hn.table
  simp only [impl_Node_whole.f, impl_Node_whole.pre, impl_Node_word.f, impl_Node_word.pre, Option.bind_some, m_slices_Clone_impl_Fact_impl_Fact.f]
  rw [clone_ok (by show (Node.table n).length * _ ≤ _; omega)]
  rfl
theorem does_join (K : Nat) (n : Node) (to : Int) (ws : List Word) (hn : NB n) (hok : impl_NodeOk.f K (n, ()) = rb true) (hj : impl_Node_join.f K (n, to, ()) = some ((ws, ()), ())) (hK : 1048577 < K) : impl_NodeJoin.f K (n, to, ()) = some ((n, ws, ()), ()) := by
  simp only [impl_NodeJoin.f, impl_NodeJoin.pre, impl_does.f, impl_does.pre]
  rw [hok]
  simp only [Option.bind_some, Bool.not_true, cond_false]
  rw [copied_i K n hn hK]
  simp only [Option.bind_some, impl_NodeJoin_1.f, impl_NodeJoin_1.pre]
  rw [hj]
  simp only [Option.bind_some, slices_Clip_impl_Word_impl_Word.f, slices_Clip_impl_Word_impl_Word.pre]
  simp
theorem nodeJoin_same (K : Nat) (n : Node) (to : Int) (hn : NB n) (hK : 1048577 < K) : ∃ y : Node, ∃ ws : List Word, NB y ∧ ws.length ≤ 1048576 ∧ (∀ w ∈ ws, (Word.table w).length ≤ 1048576) ∧ spec_NodeJoin.f K (n, to, ()) = some ((y, ws, ()), ()) ∧ impl_NodeJoin.f K (n, to, ()) = some ((y, ws, ()), ()) := by
  obtain ⟨b, h1, h2, h3⟩ := nodeOk_both K n hn hK
  cases b with
  | false =>
    refine ⟨zeroNode, [], zeroNode_ok, by simp, by simp, ?_, ?_⟩
    · simp only [spec_NodeJoin.f, spec_NodeJoin.pre]; rw [h1]; rfl
    · simp only [impl_NodeJoin.f, impl_NodeJoin.pre, impl_does.f, impl_does.pre]; rw [h2]; rfl
  | true =>
    have none_ : ∀ (hj : impl_Node_join.f K (n, to, ()) = some (([], ()), ())) (hs : spec_NodeJoin.f K (n, to, ()) = some ((n, [], ()), ())), ∃ y : Node, ∃ ws : List Word, NB y ∧ ws.length ≤ 1048576 ∧ (∀ w ∈ ws, (Word.table w).length ≤ 1048576) ∧ spec_NodeJoin.f K (n, to, ()) = some ((y, ws, ()), ()) ∧ impl_NodeJoin.f K (n, to, ()) = some ((y, ws, ()), ()) :=
      fun hj hs => ⟨n, [], hn, by simp, by simp, hs, does_join K n to [] hn h2 hj hK⟩
    have hcopy := copy_s K n hn hK
    have hjoin : impl_Node_join.f K (n, to, ()) = bif actB' n then (impl_Node_other.f K (n, to, ())).bind fun y2 => bif !y2.1.1 then some (([], ()), ()) else ((impl_Node_whole.f K (n, 4, to, ())).bind fun y3 => some (([y3.1.1], ()), ())) else some (([], ()), ()) := by
      simp only [impl_Node_join.f, impl_Node_join.pre, impl_Node_active.f, impl_Node_active.pre, actB']
      cases n.2.1 with
      | false => rfl
      | true => cases n.2.2.1 <;> rfl
    obtain ⟨bo, ho, hop⟩ := other_i K n to
    rw [ho, join_word_i K n to hn] at hjoin
    simp only [Option.bind_some] at hjoin
    cases hu : n.2.1 with
    | false =>
      refine none_ (by rw [hjoin]; simp [actB', hu]) ?_
      simp only [spec_NodeJoin.f, spec_NodeJoin.pre]; rw [h1]; simp only [Option.bind_some, hu]; rw [hcopy]; rfl
    | true =>
      cases hg : n.2.2.1 with
      | true =>
        refine none_ (by rw [hjoin]; simp [actB', hu, hg]) ?_
        simp only [spec_NodeJoin.f, spec_NodeJoin.pre]; rw [h1]; simp only [Option.bind_some, hu, hg]; rw [hcopy]; rfl
      | false =>
        have ha : actB' n = true := by simp [actB', hu, hg]
        rw [ha] at hjoin
        simp only [cond_true] at hjoin
        obtain ⟨b1, e1, e2⟩ := in_s K to 0 7
        cases b1 with
        | false =>
          have hb : bo = false := by
            cases bo with
            | false => rfl
            | true => exact absurd (e2.2 (hop.1 rfl).1.1) (by decide)
          refine none_ (by rw [hjoin, hb]; rfl) ?_
          simp only [spec_NodeJoin.f, spec_NodeJoin.pre]; rw [h1]; simp only [Option.bind_some, hu, hg, Bool.not_true, cond_false]; rw [e1, hcopy]; rfl
        | true =>
          have hin := e2.1 rfl
          by_cases hme : to = n.1
          · have hb : bo = false := by
              cases bo with
              | false => rfl
              | true => exact absurd hme (hop.1 rfl).2
            refine none_ (by rw [hjoin, hb]; rfl) ?_
            simp only [spec_NodeJoin.f, spec_NodeJoin.pre]; rw [h1]; simp only [Option.bind_some, hu, hg, Bool.not_true, cond_false]; rw [e1, hcopy, show (to == n.1) = true by simpa using hme]; rfl
          · by_cases hst : siteI to = siteI n.1
            · have hb : bo = true := hop.2 ⟨⟨hin, hst⟩, hme⟩
              refine ⟨n, [joinWord n to], hn, by simp, fun w hw => ?_, ?_, does_join K n to _ hn h2 (by rw [hjoin, hb]; rfl) hK⟩
              · rw [List.mem_singleton] at hw
                subst hw
                exact hn.table
              · simp only [spec_NodeJoin.f, spec_NodeJoin.pre]; rw [h1]; simp only [Option.bind_some, hu, hg, Bool.not_true, cond_false]
                rw [e1, hcopy, show (to == n.1) = false by simpa using hme, site_s K to, site_s K n.1]
                simp only [Option.bind_some, Bool.not_true, cond_false]
                rw [show (siteI to != siteI n.1) = false by simpa using hst]
                simp only [cond_false]
                rw [show spec_l21Word.f K (n, 4, to, 0, n.1, n.2.2.2.2.2.2.2.2.1, ()) = _ from join_word_s K n to hn]
                rfl
            · have hb : bo = false := by
                cases bo with
                | false => rfl
                | true => exact absurd (hop.1 rfl).1.2 hst
              refine none_ (by rw [hjoin, hb]; rfl) ?_
              simp only [spec_NodeJoin.f, spec_NodeJoin.pre]; rw [h1]; simp only [Option.bind_some, hu, hg, Bool.not_true, cond_false]
              rw [e1, hcopy, show (to == n.1) = false by simpa using hme, site_s K to, site_s K n.1]
              simp only [Option.bind_some, Bool.not_true, cond_false]
              rw [show (siteI to != siteI n.1) = true by simpa using hst]
              rfl
theorem law_NodeJoin (K : Nat) (n : Node) (v : Int) (hn : NM n) (hK : 1048577 < K) : laws_FnExactNodeJoin.f K (n, v, ()) = some ((true, ()), ()) := by
  simp only [laws_FnExactNodeJoin.f, laws_FnExactNodeJoin.pre]
  obtain ⟨r, h1, h2⟩ := szNode_ok K n hn 1048576 (by omega) (by omega) hK
  rw [h1, Option.bind_some]
  rcases h2 with h2 | ⟨h2, _, hb⟩
  · rw [decide_eq_true h2]; rfl
  · rw [nneg h2]
    obtain ⟨y, ws, hy, hws, htb, h3, h4⟩ := nodeJoin_same K n v hb hK
    obtain ⟨m, hm, h5⟩ := mark_copy K n hb hK
    obtain ⟨m1, m2, ws', k1, k2, k3, k4, k5, k6, k7, k8⟩ := said_node K y ws hy hws htb hK
    simp only [cond_false, toNode_ok K n hb hK, Option.bind_some, h3, h4, h5, k3, k4, k5, k6, k7, k8, eqNode_refl K n hb hK, nneg hm, nneg k1, nneg k2, bne_self_eq_false, Bool.not_true]
end Go.Proofs.YthgnfidnmnkeaaaGreatEv
