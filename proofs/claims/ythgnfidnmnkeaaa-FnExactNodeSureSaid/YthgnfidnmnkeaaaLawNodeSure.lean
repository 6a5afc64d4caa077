/- FnExactNodeSure: the plain law. -/
import Derived.Test.YthgnfidnmnkeaaaPu7
namespace Go.Proofs.YthgnfidnmnkeaaaEv
open Go

/-- For how long a doubt must last. -/
def longI (d : Doubt) : Int := if 7 - (d.2.2.2.length : Int) < 3 then 3 else 7 - (d.2.2.2.length : Int)

theorem long_wr (d : Doubt) (hb : d.2.2.2.length ≤ 1048576) : wr .i64 (wr .i64 (6 - (List.length d.2.2.2 : Int)) + 1) = 7 - (d.2.2.2.length : Int) := by
  have e1 : wr .i64 (6 - (List.length d.2.2.2 : Int)) = 6 - (d.2.2.2.length : Int) := wr64 (by omega) (by omega)
  rw [e1, wr64 (by omega) (by omega)]
  omega

theorem long_i (K : Nat) (d : Doubt) (hb : d.2.2.2.length ≤ 1048576) : impl_Doubt_long.f K (d, ()) = some ((longI d, ()), ()) := by
  simp only [impl_Doubt_long.f, impl_Doubt_long.pre, longI]
  rw [long_wr d hb]
  by_cases h : 7 - (d.2.2.2.length : Int) < 3
  · rw [decide_eq_true h, if_pos h]; rfl
  · rw [decide_eq_false h, if_neg h]; rfl

theorem due_s (K : Nat) (m : Int) (d : Doubt) (hb : d.2.2.2.length ≤ 1048576) (hm : InP m 0 2000000) (hs : InP d.2.2.1 0 2000000) : spec_l21Due.f K (m, d, ()) = rb (decide (m - d.2.2.1 ≥ longI d)) := by
  simp only [spec_l21Due.f, spec_l21Due.pre]
  have e : wr .i64 (m - d.2.2.1) = m - d.2.2.1 := wr64 (by omega) (by omega)
  rw [long_wr d hb, e]
  by_cases h : 7 - (d.2.2.2.length : Int) < 3
  · have e2 : longI d = 3 := if_pos h
    rw [decide_eq_true h, e2]; rfl
  · have e2 : longI d = 7 - (d.2.2.2.length : Int) := if_neg h
    rw [decide_eq_false h, e2]; rfl

/-- How many ticks more it lasts. -/
def moreI (now : Int) (d : Doubt) : Int := if longI d - (now - d.2.2.1) < 0 then 0 else longI d - (now - d.2.2.1)

theorem more_s (K : Nat) (n : Node) (v : Int) (d : Doubt) (hb : d.2.2.2.length ≤ 1048576) (hne : d.2.2.2 ≠ []) (hnow : InP n.2.2.2.2.2.1 0 999999) (hs : InP d.2.2.1 0 n.2.2.2.2.2.1) (hK : 1048577 < K) (rec0 : Int → Option spec_NodeSure.Res) :
    spec_NodeSure.l1 K (n, v, ()) rec0 (0, d.1, d.2.1, d.2.2.1, d.2.2.2) = some ((moreI n.2.2.2.2.2.1 d, true, ()), ()) := by
  have h1 : 1 ≤ d.2.2.2.length := List.length_pos_iff.2 hne
  have hL : 3 ≤ longI d ∧ longI d ≤ 6 := by unfold longI; split <;> omega
  have hr : 0 ≤ moreI n.2.2.2.2.2.1 d ∧ moreI n.2.2.2.2.2.1 d ≤ 6 := by unfold moreI; split <;> omega
  obtain ⟨r, hr2⟩ : ∃ r : Nat, moreI n.2.2.2.2.2.1 d = (r : Int) := ⟨(moreI n.2.2.2.2.2.1 d).toNat, by omega⟩
  have key : ∀ (e k i : Nat), i + e = r → e < k → iterate (fun rec a => spec_NodeSure.l1.step K (n, v, ()) rec0 rec a) k ((i : Int), d.1, d.2.1, d.2.2.1, d.2.2.2) = some (((r : Int), true, ()), ()) := by
    intro e
    induction e with
    | zero =>
      intro k i hi hk
      obtain ⟨k, rfl⟩ : ∃ k', k = k' + 1 := ⟨k - 1, by omega⟩
      have : i = r := by omega
      subst this
      show spec_NodeSure.l1.step K (n, v, ()) rec0 _ _ = _
      simp only [spec_NodeSure.l1.step]
      by_cases h6 : (i : Int) < 6
      · rw [decide_eq_true h6]
        have e1 : wr .i64 (n.2.2.2.2.2.1 + (i : Int)) = n.2.2.2.2.2.1 + i := wr64 (by omega) (by omega)
        rw [e1]
        have hd := due_s K (n.2.2.2.2.2.1 + (i : Int)) d hb (by constructor <;> omega) (by constructor <;> omega)
        have hdd : decide (n.2.2.2.2.2.1 + (i : Int) - d.2.2.1 ≥ longI d) = true := decide_eq_true (by rw [← hr2]; unfold moreI; split <;> omega)
        rw [hdd] at hd
        simp only [cond_true]
        exact (congrArg (fun o => Option.bind o _) hd).trans rfl
      · rw [decide_eq_false h6]; rfl
    | succ e ih =>
      intro k i hi hk
      obtain ⟨k, rfl⟩ : ∃ k', k = k' + 1 := ⟨k - 1, by omega⟩
      have ih := ih k (i + 1) (by omega) (by omega)
      show spec_NodeSure.l1.step K (n, v, ()) rec0 _ _ = _
      simp only [spec_NodeSure.l1.step]
      rw [decide_eq_true (show (i : Int) < 6 by omega), wr_succ i (by omega)]
      have e1 : wr .i64 (n.2.2.2.2.2.1 + (i : Int)) = n.2.2.2.2.2.1 + i := wr64 (by omega) (by omega)
      rw [e1]
      have hd := due_s K (n.2.2.2.2.2.1 + (i : Int)) d hb (by constructor <;> omega) (by constructor <;> omega)
      have hdd : decide (n.2.2.2.2.2.1 + (i : Int) - d.2.2.1 ≥ longI d) = false := decide_eq_false (by
        have hlt : (i : Int) < moreI n.2.2.2.2.2.1 d := by omega
        unfold moreI at hlt
        split at hlt <;> omega)
      rw [hdd] at hd
      simp only [cond_true]
      exact ((congrArg (fun o => Option.bind o _) hd).trans rfl).trans ih
  rw [hr2]
  exact key r K 0 (by omega) (by omega)

theorem down_len (n : Node) (hn : NB n) (h : DownP n) : Node.doubts n = [] := by
  obtain ⟨_, _, _, _, _, h, _⟩ := h
  have h1 := hn.table; have h2 := hn.cast; have h3 := hn.doubts; have h4 := hn.places; have h5 := hn.others
  have e1 : wr .i64 ((List.length (Node.table n) : Int) + (List.length (Node.cast n) : Int)) = (List.length (Node.table n) : Int) + (List.length (Node.cast n) : Int) := wr64 (by omega) (by omega)
  rw [e1] at h
  have e2 : wr .i64 ((List.length (Node.table n) : Int) + (List.length (Node.cast n) : Int) + (List.length (Node.doubts n) : Int)) = (List.length (Node.table n) : Int) + (List.length (Node.cast n) : Int) + (List.length (Node.doubts n) : Int) := wr64 (by omega) (by omega)
  rw [e2] at h
  have e3 : wr .i64 ((List.length (Node.table n) : Int) + (List.length (Node.cast n) : Int) + (List.length (Node.doubts n) : Int) + (List.length (Node.places n) : Int)) = (List.length (Node.table n) : Int) + (List.length (Node.cast n) : Int) + (List.length (Node.doubts n) : Int) + (List.length (Node.places n) : Int) := wr64 (by omega) (by omega)
  rw [e3, wr64 (by omega) (by omega)] at h
  exact List.eq_nil_of_length_eq_zero (by omega)

/-- The first doubt of a node. -/
theorem nodeSure_same (K : Nat) (n : Node) (v : Int) (hn : NB n) (hK : 1048577 < K) : ∃ r : Int × Bool × Unit, spec_NodeSure.f K (n, v, ()) = some (r, ()) ∧ impl_NodeSure.f K (n, v, ()) = some (r, ()) := by
  have hl := hn.doubts
  obtain ⟨b, h1, h2⟩ := nodeOk_s K n hn hK
  have h3 : impl_NodeOk.f K (n, ()) = rb b := by
    obtain ⟨b', h4, h5⟩ := nodeOk_i K n hn hK
    have : b = b' := by rw [Bool.eq_iff_iff, h2, h5]
    rw [this]; exact h4
  simp only [spec_NodeSure.f, spec_NodeSure.pre, impl_NodeSure.f, impl_NodeSure.pre]
  rw [h1]
  -- what is found by the program
  have hi := iter_first (step := fun rec a => slices_IndexFunc_impl_Doubt_impl_Doubt.l0.step K (Node.doubts n, (fun y1 => (impl_NodeSure_1.f K (y1.1, v, ())).map fun y => y.1.1), ()) rec a) (Node.doubts n).length (fun i => (i : Int)) (fun j => ∃ h : j < (Node.doubts n).length, (Node.doubts n)[j].1 = v) (some ((-1, ()), ())) (fun j => some ((((j : Nat) : Int), ()), ())) ?_ ?_ (Node.doubts n).length K 0 (by omega) (by omega)
  · have hup : b = true → ∀ j (h : j < (Node.doubts n).length), InP n.2.2.2.2.2.1 0 999999 ∧ InP (Node.doubts n)[j].2.2.1 0 n.2.2.2.2.2.1 ∧ (Node.doubts n)[j].2.2.2 ≠ [] ∧ (Node.doubts n)[j].2.2.2.length ≤ 1048576 := by
      intro hb1 j j1
      have hP := h2.1 hb1
      have hup : n.2.1 = true := by
        cases hu : n.2.1 with
        | true => rfl
        | false =>
          have h4 := hP.2.2.2.2.2
          rw [hu] at h4
          simp only [Bool.false_eq_true, if_false] at h4
          have := down_len n hn h4
          rw [this] at j1
          simp at j1
      have h4 := hP.2.2.2.2.2
      rw [if_pos hup] at h4
      obtain ⟨_, d2, d3, _⟩ := h4.2.2.2.2.2.1.1 _ (List.getElem_mem j1)
      exact ⟨hP.2.1, d2, d3, hn.by_ _ (List.getElem_mem j1)⟩
    have hs := fun hb1 : b = true => iter_first (step := fun rec a => spec_NodeSure.l0.step K (n, v, ()) (spec_NodeSure.l1 K (n, v, ()) rec) rec a) (Node.doubts n).length (fun i => (i : Int)) (fun j => ∃ h : j < (Node.doubts n).length, (Node.doubts n)[j].1 = v) (some ((0, false, ()), ()))
      (fun j => (idx (Node.doubts n) (j : Int)).bind fun y2 => some ((moreI n.2.2.2.2.2.1 y2, true, ()), ())) (by
        intro rec i hi
        show _ ∨ _
        simp only [spec_NodeSure.l0.step]
        rw [decide_eq_true (show (i : Int) < (List.length (Node.doubts n) : Int) by omega), idx_get hi, wr_succ i (by omega)]
        simp only [cond_true, Option.bind_some]
        by_cases h : (Node.doubts n)[i].1 = v
        · have e : ((Node.doubts n)[i].1 != v) = false := by simpa using h
          rw [e]
          obtain ⟨q1, q2, q3, q4⟩ := hup hb1 i hi
          exact .inr ⟨⟨hi, h⟩, more_s K n v _ q4 q3 q1 q2 hK rec⟩
        · have e : ((Node.doubts n)[i].1 != v) = true := by simpa using h
          rw [e]
          exact .inl ⟨fun ⟨_, h2⟩ => h h2, rfl⟩) (by
        intro rec
        simp only [spec_NodeSure.l0.step, decNl]
        rfl) (Node.doubts n).length K 0 (by omega) (by omega)
    rcases hi with ⟨i1, i2⟩ | ⟨j, _, j1, j2, j3, j4⟩
    · have e : slices_IndexFunc_impl_Doubt_impl_Doubt.f K (Node.doubts n, (fun y1 => (impl_NodeSure_1.f K (y1.1, v, ())).map fun y => y.1.1), ()) = some ((-1, ()), ()) := i2
      rw [e]
      refine ⟨(0, false, ()), ?_, rfl⟩
      simp only [Option.bind_some]
      cases b with
      | false => rfl
      | true =>
        rcases hs rfl with ⟨_, s2⟩ | ⟨j', _, s1, s2, _⟩
        · exact s2
        · exact absurd s2 (i1 j' (Nat.zero_le _) s1)
    · have e : slices_IndexFunc_impl_Doubt_impl_Doubt.f K (Node.doubts n, (fun y1 => (impl_NodeSure_1.f K (y1.1, v, ())).map fun y => y.1.1), ()) = some ((((j : Nat) : Int), ()), ()) := j4
      rw [e]
      simp only [Option.bind_some]
      rw [show decide (((j : Nat) : Int) < 0) = false from decide_eq_false (by omega), h3]
      simp only [cond_false, Option.bind_some]
      cases b with
      | false => exact ⟨(0, false, ()), rfl, rfl⟩
      | true =>
        obtain ⟨hnow, d2, d3, hb⟩ := hup rfl j j1
        simp only [Bool.not_true, cond_false]
        rw [idx_get j1]
        simp only [Option.bind_some]
        rcases hs rfl with ⟨s1, _⟩ | ⟨j', _, s1, s2, s3, s4⟩
        · exact absurd j2 (s1 j (Nat.zero_le _) j1)
        · have hj : j = j' := by
            rcases Nat.lt_trichotomy j j' with h | h | h
            · exact absurd j2 (s3 j (Nat.zero_le _) h)
            · exact h
            · exact absurd s2 (j3 j' (Nat.zero_le _) h)
          subst hj
          rw [idx_get j1] at s4
          simp only [Option.bind_some] at s4
          refine ⟨_, s4, ?_⟩
          rw [long_i K _ hb]
          have h1 : 1 ≤ (Node.doubts n)[j].2.2.2.length := List.length_pos_iff.2 d3
          simp only [Option.bind_some, moreI]
          have hL : 3 ≤ longI (Node.doubts n)[j] ∧ longI (Node.doubts n)[j] ≤ 7 := by unfold longI; split <;> omega
          generalize (Node.doubts n)[j] = d at *
          have e1 : wr .i64 (n.2.2.2.2.2.1 - d.2.2.1) = n.2.2.2.2.2.1 - d.2.2.1 := wr64 (by omega) (by omega)
          rw [e1]
          have e2 : wr .i64 (longI d - (n.2.2.2.2.2.1 - d.2.2.1)) = longI d - (n.2.2.2.2.2.1 - d.2.2.1) := wr64 (by omega) (by omega)
          rw [e2]
          by_cases h : longI d - (n.2.2.2.2.2.1 - d.2.2.1) < 0
          · rw [decide_eq_true h, if_pos h]; rfl
          · rw [decide_eq_false h, if_neg h]; rfl
  · intro rec i hi
    simp only [slices_IndexFunc_impl_Doubt_impl_Doubt.l0.step]
    rw [decide_eq_true (show (i : Int) < (List.length (Node.doubts n) : Int) by omega), idx_get hi, wr_succ i (by omega)]
    simp only [cond_true, Option.bind_some, impl_NodeSure_1.f, impl_NodeSure_1.pre, Option.map_some]
    by_cases h : (Node.doubts n)[i].1 = v
    · have e : ((Node.doubts n)[i].1 == v) = true := by simpa using h
      rw [e]
      exact .inr ⟨⟨hi, h⟩, rfl⟩
    · have e : ((Node.doubts n)[i].1 == v) = false := by simpa using h
      rw [e]
      exact .inl ⟨fun ⟨_, h2⟩ => h h2, rfl⟩
  · intro rec
    simp only [slices_IndexFunc_impl_Doubt_impl_Doubt.l0.step, decNl]
    rfl

theorem law_NodeSure (K : Nat) (n : Node) (v : Int) (hn : NM n) (hK : 1048577 < K) : laws_FnExactNodeSure.f K (n, v, ()) = some ((true, ()), ()) := by
  simp only [laws_FnExactNodeSure.f, laws_FnExactNodeSure.pre]
  obtain ⟨r, h1, h2⟩ := szNode_ok K n hn 1048576 (by omega) (by omega) hK
  rw [h1, Option.bind_some]
  rcases h2 with h2 | ⟨h2, _, hb⟩
  · rw [decide_eq_true h2]; rfl
  · rw [show decide (r < 0) = false from decide_eq_false (by omega)]
    obtain ⟨y, h3, h4⟩ := nodeSure_same K n v hb hK
    simp only [cond_false, toNode_ok K n hb hK, Option.bind_some]
    rw [h3]
    simp only [Option.bind_some]
    rw [h4]
    simp only [Option.bind_some, bne_self_eq_false, cond_false]
    rw [eqNode_refl K n hb hK]
    rfl

end Go.Proofs.YthgnfidnmnkeaaaEv
