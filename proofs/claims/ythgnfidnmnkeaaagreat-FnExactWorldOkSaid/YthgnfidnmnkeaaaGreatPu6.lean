/- What is ok of a node: doubts; the whole: the program says what the specification says. -/
import Derived.Test.YthgnfidnmnkeaaaGreatPu5
namespace Go.Proofs.YthgnfidnmnkeaaaGreatEv
open Go

def ByP (me : Int) (l : List Int) : Prop := (∀ b ∈ l, InP b 0 7 ∧ siteI b = siteI me) ∧ Asc (fun b : Int => b) l
def DoubtP (n : Node) (d : Doubt) : Prop := (∃ f ∈ Node.table n, f.1 = d.1 ∧ f.2.2.1 = 2 ∧ f.2.1 = d.2.1) ∧ InP d.2.2.1 0 n.2.2.2.2.2.1 ∧ d.2.2.2 ≠ [] ∧ ByP n.1 d.2.2.2
def suspects (t : List Fact) : List Fact := t.filter fun f => f.2.2.1 == 2
def DoubtsP (n : Node) : Prop := (∀ d ∈ Node.doubts n, DoubtP n d) ∧ Asc (fun d : Doubt => d.1) (Node.doubts n) ∧ (suspects (Node.table n)).length = (Node.doubts n).length

theorem by_get {me : Int} {l : List Int} : ByP me l ↔ ∀ k (hk : k < l.length), (InP l[k] 0 7 ∧ siteI l[k] = siteI me) ∧ (0 < k → ¬ l[k - 1]'(by omega) ≥ l[k]) := by
  rw [ByP, all_get, asc_adj]
  constructor
  · rintro ⟨h1, h2⟩ k hk
    exact ⟨h1 k hk, fun h0 => by have := h2 k hk h0; omega⟩
  · intro h
    exact ⟨fun k hk => (h k hk).1, fun k hk h0 => by have := (h k hk).2 h0; omega⟩

theorem count_s (K : Nat) (n : Node) (hn : NB n) (hK : 1048577 < K) : spec_l21DoubtsOk.l2 K (n, ()) (0, 0) = rb (decide ((suspects (Node.table n)).length = (Node.doubts n).length)) := by
  have hl := hn.table
  have key : ∀ (d k i c : Nat), i + d = (Node.table n).length → d < k → c ≤ i →
      iterate (fun rec a => spec_l21DoubtsOk.l2.step K (n, ()) rec a) k ((c : Int), (i : Int)) = rb (decide (c + (suspects ((Node.table n).drop i)).length = (Node.doubts n).length)) := by
    intro d
    induction d with
    | zero =>
      intro k i c hi hk hc
      obtain ⟨k, rfl⟩ : ∃ k', k = k' + 1 := ⟨k - 1, by omega⟩
      show spec_l21DoubtsOk.l2.step K (n, ()) _ _ = _
      simp only [spec_l21DoubtsOk.l2.step]
      rw [decide_eq_false (show ¬ ((i : Int) < (List.length (Node.table n) : Int)) by omega), List.drop_of_length_le (by omega)]
      simp only [cond_false, suspects, List.filter_nil, List.length_nil, Nat.add_zero]
      have e : ((c : Int) == (List.length (Node.doubts n) : Int)) = decide (c = (Node.doubts n).length) := by
        by_cases h : c = (Node.doubts n).length
        · rw [decide_eq_true h, h]; simp
        · rw [decide_eq_false h, beq_eq_false_iff_ne]; omega
      exact congrArg rb e
    | succ d ih =>
      intro k i c hi hk hc
      obtain ⟨k, rfl⟩ : ∃ k', k = k' + 1 := ⟨k - 1, by omega⟩
      have hi' : i < (Node.table n).length := by omega
      show spec_l21DoubtsOk.l2.step K (n, ()) _ _ = _
      simp only [spec_l21DoubtsOk.l2.step]
      rw [decide_eq_true (show ((i : Int) < (List.length (Node.table n) : Int)) by omega), idx_get hi', wr_succ i (by omega), wr_succ c (by omega), List.drop_eq_getElem_cons hi']
      simp only [cond_true, Option.bind_some]
      cases hb : ((Node.table n)[i].2.2.1 == 2) with
      | true =>
        have := ih k (i + 1) (c + 1) (by omega) (by omega) (by omega)
        simp only [cond_true]
        have e : c + 1 + (suspects ((Node.table n).drop (i + 1))).length = c + (suspects ((Node.table n)[i] :: (Node.table n).drop (i + 1))).length := by
          simp only [suspects, List.filter_cons, hb, if_true, List.length_cons]
          omega
        rw [← e]
        exact this
      | false =>
        have := ih k (i + 1) c (by omega) (by omega) (by omega)
        simp only [cond_false]
        have e : suspects ((Node.table n)[i] :: (Node.table n).drop (i + 1)) = suspects ((Node.table n).drop (i + 1)) := by
          simp only [suspects, List.filter_cons, hb, Bool.false_eq_true, if_false]
        rw [e]
        exact this
  have := key (Node.table n).length K 0 0 (by omega) (by omega) (Nat.le_refl _)
  rw [List.drop_zero, Nat.zero_add] at this
  exact this

theorem doubts_s (K : Nat) (n : Node) (hn : NB n) (hT : TableP (Node.table n)) (hK : 1048577 < K) : Ret (spec_l21DoubtsOk.f K (n, ())) (DoubtsP n) := by
  refine (ret_loop (Node.doubts n) (step := fun rec a => spec_l21DoubtsOk.l0.step K (n, ()) (spec_l21DoubtsOk.l1 K (n, ()) rec) (spec_l21DoubtsOk.l2 K (n, ())) rec a)
    (fun i hi => (0 < i → ¬ ((Node.doubts n)[i - 1]'(by omega)).1 ≥ (Node.doubts n)[i].1) ∧ DoubtP n (Node.doubts n)[i]) (Q := (suspects (Node.table n)).length = (Node.doubts n).length) (rt := spec_l21DoubtsOk.l2 K (n, ()) (0, 0)) hn.doubts ?_ ?_ hK (fun _ => by rw [count_s K n hn hK]; exact Ret.dec)).iff ?_
  · intro rec i hi
    have hb := hn.by_ _ (List.getElem_mem hi)
    have hl := hn.doubts
    have inner : Rnd (spec_l21DoubtsOk.l1 K (n, ()) rec ((i : Int), 0, (Node.doubts n)[i].1, (Node.doubts n)[i].2.1, (Node.doubts n)[i].2.2.1, (Node.doubts n)[i].2.2.2)) (ByP n.1 (Node.doubts n)[i].2.2.2) (rec (wr .i64 ((i : Int) + 1))) := by
      generalize (Node.doubts n)[i] = d at hb
      refine (rnd_loop d.2.2.2 (step := fun rec1 a => spec_l21DoubtsOk.l1.step K (n, ()) rec rec1 a) (fun k => ((i : Int), (k : Int), d.1, d.2.1, d.2.2.1, d.2.2.2))
        (fun k hk => InP d.2.2.2[k] 0 7 ∧ ¬ siteI d.2.2.2[k] ≠ siteI n.1 ∧ (0 < k → ¬ d.2.2.2[k - 1]'(by omega) ≥ d.2.2.2[k]) ∧ True) hb ?_ ?_ hK).iff ?_
      · intro rec1 k hk
        simp only [spec_l21DoubtsOk.l1.step]
        rw [decide_eq_true (by omega : (k : Int) < (List.length d.2.2.2 : Int)), wr_succ k (by omega)]
        simp only [cond_true]
        refine Rnd.ix (idx_get hk) (Rnd.nx (in_s K _ _ _) fun _ => Rnd.ix (idx_get hk) (Rnd.vl (site_s K _) (Rnd.vl (site_s K _) (Rnd.cndN (by simp) fun _ => Rnd.two (fun h0 => ?_) Rnd.end_))))
        rw [wr_pred k h0 (by omega)]
        exact Rnd.ix (idx_get (show k - 1 < d.2.2.2.length by omega)) (Rnd.ix (idx_get hk) (Rnd.cndN (by simp) fun _ => Rnd.end_))
      · intro rec1
        simp only [spec_l21DoubtsOk.l1.step, decNl]
        rfl
      · rw [by_get]
        constructor
        · intro h k hk
          exact ⟨⟨(h k hk).1, Classical.not_not.1 (h k hk).2.1⟩, (h k hk).2.2.1⟩
        · intro h k hk
          exact ⟨(h k hk).1.1, Classical.not_not.2 (h k hk).1.2, (h k hk).2, trivial⟩
    obtain ⟨o, ho, hf⟩ := find_s K (Node.table n) (Node.doubts n)[i].1 hn.table hK
    simp only [spec_l21DoubtsOk.l0.step]
    rw [decide_eq_true (show ((i : Int) < (List.length (Node.doubts n) : Int)) by omega)]
    simp only [cond_true]
    refine Rnd.ix (idx_get hi) (Rnd.vl hf ?_)
    cases ho with
    | no h =>
      have hno : ¬ DoubtP n (Node.doubts n)[i] := fun ⟨⟨f, hf, e, _⟩, _⟩ => h f hf e
      refine Rnd.two (fun h0 => ?_) ?_
      · rw [wr_pred i h0 (by omega)]
        refine Rnd.ix (idx_get (show i - 1 < (Node.doubts n).length by omega)) (Rnd.cndN (by simp) fun _ => ?_)
        exact .inr ⟨hno, rfl⟩
      · exact .inr ⟨hno, rfl⟩
    | at_ j hj e =>
      have hdec : decide ((j : Int) < 0) = false := decide_eq_false (by omega)
      have hiff : DoubtP n (Node.doubts n)[i] ↔ (¬ (Node.table n)[j].2.2.1 ≠ 2 ∧ ¬ (Node.table n)[j].2.1 ≠ (Node.doubts n)[i].2.1 ∧ InP (Node.doubts n)[i].2.2.1 0 n.2.2.2.2.2.1 ∧ ¬ (Node.doubts n)[i].2.2.2 = [] ∧ ByP n.1 (Node.doubts n)[i].2.2.2) := by
        constructor
        · rintro ⟨⟨f, hf, e1, e2, e3⟩, h2, h3, h4⟩
          have := uniq hT.2 hf (List.getElem_mem hj) (e1.trans e.symm)
          subst this
          exact ⟨Classical.not_not.2 e2, Classical.not_not.2 e3, h2, h3, h4⟩
        · rintro ⟨e2, e3, h2, h3, h4⟩
          exact ⟨⟨_, List.getElem_mem hj, e, Classical.not_not.1 e2, Classical.not_not.1 e3⟩, h2, h3, h4⟩
      refine Rnd.two (fun h0 => ?_) ?_
      · rw [wr_pred i h0 (by omega)]
        refine Rnd.ix (idx_get (show i - 1 < (Node.doubts n).length by omega)) (Rnd.cndN (by simp) fun _ => ?_)
        simp only [hdec, cond_false]
        refine Rnd.iff ?_ hiff.symm
        exact Rnd.ix (idx_get hj) (Rnd.cndN (by simp) fun _ => Rnd.ix (idx_get hj) (Rnd.cndN (by simp) fun _ => Rnd.nx (in_s K _ _ _) fun _ => Rnd.cndN (len0 _) fun _ => inner))
      · simp only [hdec, cond_false]
        refine Rnd.iff ?_ hiff.symm
        exact Rnd.ix (idx_get hj) (Rnd.cndN (by simp) fun _ => Rnd.ix (idx_get hj) (Rnd.cndN (by simp) fun _ => Rnd.nx (in_s K _ _ _) fun _ => Rnd.cndN (len0 _) fun _ => inner))
  · intro rec
    simp only [spec_l21DoubtsOk.l0.step, decNl]
    rfl
  · rw [DoubtsP, all_get, asc_adj]
    constructor
    · rintro ⟨h1, h2⟩
      exact ⟨fun i hi => (h1 i hi).2, fun i hi h0 => by have := (h1 i hi).1 h0; omega, h2⟩
    · rintro ⟨h1, h2, h3⟩
      exact ⟨fun i hi => ⟨fun h0 => by have := h2 i hi h0; omega, h1 i hi⟩, h3⟩

/-- The program's round over doubts and suspects, side by side. -/
theorem pairs_i (K : Nat) (n : Node) (hn : NB n) (S : List Fact) (hS : S.length = (Node.doubts n).length) (hK : 1048577 < K) : Ret (impl_Node_doubtsOk.l1 K (n, ()) (S, 0))
    (∀ i (hi : i < (Node.doubts n).length), (Node.doubts n)[i].1 = (S[i]'(by omega)).1 ∧ (Node.doubts n)[i].2.1 = (S[i]'(by omega)).2.1 ∧ InP (Node.doubts n)[i].2.2.1 0 n.2.2.2.2.2.1 ∧ (Node.doubts n)[i].2.2.2 ≠ [] ∧ ByP n.1 (Node.doubts n)[i].2.2.2) := by
  have hl := hn.doubts
  have main := iter_all (step := fun rec a => impl_Node_doubtsOk.l1.step K (n, ()) (impl_Node_doubtsOk.l2 K (n, ()) rec) rec a) (Node.doubts n).length (fun i => (S, (i : Int)))
    (fun i => ∀ hi : i < (Node.doubts n).length, ¬ (Node.doubts n)[i].1 ≠ (S[i]'(by omega)).1 ∧ ¬ (Node.doubts n)[i].2.1 ≠ (S[i]'(by omega)).2.1 ∧ InP (Node.doubts n)[i].2.2.1 0 n.2.2.2.2.2.1 ∧ ¬ (Node.doubts n)[i].2.2.2 = [] ∧ ByP n.1 (Node.doubts n)[i].2.2.2)
    (rb true) (rb false) ?_ ?_ (Node.doubts n).length K 0 (by omega) (by omega)
  · rcases main with ⟨h1, h2⟩ | ⟨h1, h2⟩
    · refine ⟨true, h2, iff_of_true rfl fun i hi => ?_⟩
      obtain ⟨h3, h4, h5⟩ := h1 i (Nat.zero_le _) hi hi
      exact ⟨Classical.not_not.1 h3, Classical.not_not.1 h4, h5⟩
    · refine ⟨false, h2, iff_of_false (by simp) fun h => h1 fun i _ hi _ => ?_⟩
      obtain ⟨h3, h4, h5⟩ := h i hi
      exact ⟨Classical.not_not.2 h3, Classical.not_not.2 h4, h5⟩
  · intro rec i hi
    have hb := hn.by_ _ (List.getElem_mem hi)
    have inner : Rnd (impl_Node_doubtsOk.l2 K (n, ()) rec (S, (i : Int), (Node.doubts n)[i].2.2.2, (List.length (Node.doubts n)[i].2.2.2 : Int), 0, (Node.doubts n)[i].1, (Node.doubts n)[i].2.1, (Node.doubts n)[i].2.2.1, (Node.doubts n)[i].2.2.2)) (ByP n.1 (Node.doubts n)[i].2.2.2) (rec (S, wr .i64 ((i : Int) + 1))) := by
      generalize (Node.doubts n)[i] = d at hb
      refine (rnd_loop d.2.2.2 (step := fun rec1 a => impl_Node_doubtsOk.l2.step K (n, ()) rec rec1 a) (fun k => (S, (i : Int), d.2.2.2, (List.length d.2.2.2 : Int), (k : Int), d.1, d.2.1, d.2.2.1, d.2.2.2))
        (fun k hk => (InP d.2.2.2[k] 0 7 ∧ siteI d.2.2.2[k] = siteI n.1) ∧ (0 < k → ¬ d.2.2.2[k] ≤ d.2.2.2[k - 1]'(by omega)) ∧ True) hb ?_ ?_ hK).iff ?_
      · intro rec1 k hk
        simp only [impl_Node_doubtsOk.l2.step]
        rw [decide_eq_true (by omega : (k : Int) < (List.length d.2.2.2 : Int)), wr_succ k (by omega)]
        simp only [cond_true]
        refine Rnd.ix (idx_get hk) (Rnd.nx (near_i K n _) fun _ => Rnd.two (fun h0 => ?_) Rnd.end_)
        rw [wr_pred k h0 (by omega)]
        exact Rnd.ix (idx_get (show k - 1 < d.2.2.2.length by omega)) (Rnd.cndN (by simp) fun _ => Rnd.end_)
      · intro rec1
        simp only [impl_Node_doubtsOk.l2.step, decNl]
        rfl
      · rw [by_get]
        constructor
        · intro h k hk
          exact ⟨(h k hk).1, (h k hk).2.1⟩
        · intro h k hk
          exact ⟨(h k hk).1, (h k hk).2, trivial⟩
    have hSi : i < S.length := by omega
    have hr : Rnd (impl_Node_doubtsOk.l1.step K (n, ()) (impl_Node_doubtsOk.l2 K (n, ()) rec) rec (S, (i : Int)))
        (¬ (Node.doubts n)[i].1 ≠ S[i].1 ∧ ¬ (Node.doubts n)[i].2.1 ≠ S[i].2.1 ∧ InP (Node.doubts n)[i].2.2.1 0 n.2.2.2.2.2.1 ∧ ¬ (Node.doubts n)[i].2.2.2 = [] ∧ ByP n.1 (Node.doubts n)[i].2.2.2) (rec (S, ((i + 1 : Nat) : Int))) := by
      rw [← wr_succ i (by omega)]
      simp only [impl_Node_doubtsOk.l1.step]
      rw [decide_eq_true (show ((i : Int) < (List.length (Node.doubts n) : Int)) by omega), Int.toNat_natCast]
      simp only [cond_true]
      exact Rnd.ix (idx_get hi) (Rnd.ix (idx_get hSi) (Rnd.ix (idx_get hSi) (Rnd.cndN (by simp) fun _ => Rnd.ix (idx_get hSi) (Rnd.ix (idx_get hSi) (Rnd.cndN (by simp) fun _ => Rnd.nx (in_i K _ _ _) fun _ => Rnd.cndN (len0 _) fun _ => inner)))))
    exact hr.imp (fun h => ⟨fun _ => h.1, h.2⟩) (fun h => ⟨fun h2 => h.1 (h2 hi), h.2⟩)
  · intro rec
    simp only [impl_Node_doubtsOk.l1.step, decNl]
    rfl

theorem doubts_i (K : Nat) (n : Node) (hn : NB n) (hT : TableP (Node.table n)) (hK : 1048577 < K) : Ret (impl_Node_doubtsOk.f K (n, ())) (DoubtsP n) := by
  have hl := hn.table
  have hld := hn.doubts
  have key : ∀ (d k i : Nat), i + d = (Node.table n).length → d < k → iterate (fun rec a => impl_Node_doubtsOk.l0.step K (n, ()) (impl_Node_doubtsOk.l1 K (n, ())) rec a) k (suspects ((Node.table n).take i), (i : Int)) =
      (bif (List.length (Node.doubts n) : Int) != (List.length (suspects (Node.table n)) : Int) then rb false else impl_Node_doubtsOk.l1 K (n, ()) (suspects (Node.table n), 0)) := by
    intro d
    induction d with
    | zero =>
      intro k i hi hk
      obtain ⟨k, rfl⟩ : ∃ k', k = k' + 1 := ⟨k - 1, by omega⟩
      show impl_Node_doubtsOk.l0.step K (n, ()) _ _ _ = _
      simp only [impl_Node_doubtsOk.l0.step]
      rw [decide_eq_false (show ¬ ((i : Int) < (List.length (Node.table n) : Int)) by omega), List.take_of_length_le (by omega)]
      rfl
    | succ d ih =>
      intro k i hi hk
      obtain ⟨k, rfl⟩ : ∃ k', k = k' + 1 := ⟨k - 1, by omega⟩
      have ih := ih k (i + 1) (by omega) (by omega)
      have hi' : i < (Node.table n).length := by omega
      show impl_Node_doubtsOk.l0.step K (n, ()) _ _ _ = _
      simp only [impl_Node_doubtsOk.l0.step]
      rw [decide_eq_true (show ((i : Int) < (List.length (Node.table n) : Int)) by omega), idx_get hi', wr_succ i (by omega)]
      simp only [cond_true, Option.bind_some]
      have e : suspects ((Node.table n).take (i + 1)) = suspects ((Node.table n).take i) ++ (if (Node.table n)[i].2.2.1 == 2 then [(Node.table n)[i]] else []) := by
        rw [suspects, List.take_add_one, List.getElem?_eq_getElem hi', List.filter_append]
        simp [suspects, List.filter_cons]
      cases hb : ((Node.table n)[i].2.2.1 == 2) with
      | true =>
        rw [hb] at e
        simp only [if_true] at e
        simp only [cond_true]
        have hle : (suspects ((Node.table n).take i)).length ≤ i := Nat.le_trans (List.length_filter_le _ _) (by simp; omega)
        have hs : decide ((List.length (suspects ((Node.table n).take i)) + List.length [(Node.table n)[i]]) * 32 ≤ sizeK) = true := decide_eq_true (by simp only [sizeK, List.length_singleton]; omega)
        rw [hs]
        rw [e] at ih
        exact ih
      | false =>
        rw [hb] at e
        simp only [Bool.false_eq_true, if_false, List.append_nil] at e
        rw [e] at ih
        exact ih
  have h0 : impl_Node_doubtsOk.f K (n, ()) = _ := key (Node.table n).length K 0 (by omega) (by omega)
  rw [h0]
  have hsub : ∀ f ∈ suspects (Node.table n), f ∈ Node.table n ∧ f.2.2.1 = 2 := fun f hf => by
    rw [suspects, List.mem_filter] at hf
    exact ⟨hf.1, by simpa using hf.2⟩
  have hasc : Asc (fun f : Fact => f.1) (suspects (Node.table n)) := List.Pairwise.filter _ hT.2
  by_cases hlen : (suspects (Node.table n)).length = (Node.doubts n).length
  · have : ((List.length (Node.doubts n) : Int) != (List.length (suspects (Node.table n)) : Int)) = false := by simp [hlen]
    rw [this]
    refine (pairs_i K n hn _ hlen hK).iff ⟨fun h => ⟨?_, ?_, hlen⟩, fun ⟨h1, h2, _⟩ i hi => ?_⟩
    · rw [all_get]
      intro i hi
      obtain ⟨h3, h4, h5, h6, h7⟩ := h i hi
      obtain ⟨h8, h9⟩ := hsub _ (List.getElem_mem (show i < (suspects (Node.table n)).length by omega))
      exact ⟨⟨_, h8, h3.symm, h9, h4.symm⟩, h5, h6, h7⟩
    · rw [asc_get] at hasc ⊢
      intro i j hi hj hij
      have := hasc i j (by omega) (by omega) hij
      rw [(h i hi).1, (h j hj).1]
      exact this
    · have hAB := asc_sub ((Node.doubts n).map (·.1)) ((suspects (Node.table n)).map (·.1)) (by rw [List.pairwise_map]; exact h2) (by rw [List.pairwise_map]; exact hasc) (by
        intro x hx
        obtain ⟨d, hd, rfl⟩ := List.mem_map.1 hx
        obtain ⟨⟨f, hf, e1, e2, _⟩, _⟩ := h1 d hd
        exact List.mem_map.2 ⟨f, by rw [suspects, List.mem_filter]; exact ⟨hf, by simpa using e2⟩, e1⟩)
      have hAB := hAB.2 (by simp [hlen])
      have hSi : i < (suspects (Node.table n)).length := by omega
      have e : (Node.doubts n)[i].1 = (suspects (Node.table n))[i].1 := by
        have h3 : ((Node.doubts n).map (·.1))[i]? = ((suspects (Node.table n)).map (·.1))[i]? := by rw [hAB]
        rw [List.getElem?_map, List.getElem?_map, List.getElem?_eq_getElem hi, List.getElem?_eq_getElem hSi] at h3
        simpa using h3
      obtain ⟨⟨f, hf, e1, e2, e3⟩, h4, h5, h6⟩ := h1 _ (List.getElem_mem hi)
      have := uniq hT.2 hf (hsub _ (List.getElem_mem hSi)).1 (e1.trans e)
      subst this
      exact ⟨e, e3.symm, h4, h5, h6⟩
  · have : ((List.length (Node.doubts n) : Int) != (List.length (suspects (Node.table n)) : Int)) = true := by simp; omega
    rw [this]
    exact Ret.no (fun h => hlen h.2.2)

/-! ### The whole -/
def DownP (n : Node) : Prop := n.2.2.1 = false ∧ n.2.2.2.2.1 = 0 ∧ n.2.2.2.2.2.1 = 0 ∧ n.2.2.2.2.2.2.1 = 0 ∧ n.2.2.2.2.2.2.2.1 = 0 ∧
  wr .i64 (wr .i64 (wr .i64 (wr .i64 ((List.length (Node.table n) : Int) + (List.length (Node.cast n) : Int)) + (List.length (Node.doubts n) : Int)) + (List.length (Node.places n) : Int)) + (List.length (Node.others n) : Int)) = 0 ∧
  Node.probe n = (0, 0, 0, false) ∧ Node.coord n = (0, 0, 0, 0)
def UpP (n : Node) : Prop := TableP (Node.table n) ∧ SiteP (Node.table n) (siteI n.1) ∧ SelfP n ∧ (CastP (Node.cast n) ∧ CastVs (Node.table n) (Node.cast n)) ∧ ProbeP n ∧ DoubtsP n ∧ CoordP (Node.coord n) ∧ PlacesP n.1 (Node.places n) ∧ OthersP n.1 (Node.others n)
def NodeP (n : Node) : Prop := InP n.1 0 7 ∧ InP n.2.2.2.2.2.1 0 999999 ∧ InP n.2.2.2.2.2.2.1 0 999999 ∧ InP n.2.2.2.2.2.2.2.1 0 8 ∧ InP n.2.2.2.2.1 0 999 ∧ (if n.2.1 = true then UpP n else DownP n)

theorem nodeOk_s (K : Nat) (n : Node) (hn : NB n) (hK : 1048577 < K) : Ret (spec_NodeOk.f K (n, ())) (NodeP n) := by
  refine Ret.nx (in_s K _ _ _) fun _ => Ret.nx (in_s K _ _ _) fun _ => Ret.nx (in_s K _ _ _) fun _ => Ret.nx (in_s K _ _ _) fun _ => Ret.nx (in_s K _ _ _) fun _ => ?_
  dsimp only
  cases hu : n.2.1 with
  | false =>
    simp only [Bool.not_false, cond_true, Bool.false_eq_true, if_false, DownP]
    refine Ret.cnd (by simp) fun _ => Ret.cnd (by simp) fun _ => Ret.cnd (by simp) fun _ => Ret.cnd (by simp) fun _ => Ret.cnd (by simp) fun _ => Ret.cnd (by simp) fun _ => ?_
    refine Ret.iff (Ret.cnd (P := (Node.probe n).1 = 0) (by simp) fun _ => Ret.cnd (P := (Node.probe n).2.1 = 0) (by simp) fun _ => Ret.cnd (P := (Node.probe n).2.2.1 = 0) (by simp) fun _ => Ret.cnd (P := (Node.probe n).2.2.2 = false) (by simp) fun _ =>
      Ret.cnd (P := (Node.coord n).1 = 0) (by simp) fun _ => Ret.cnd (P := (Node.coord n).2.1 = 0) (by simp) fun _ => Ret.cnd (P := (Node.coord n).2.2.1 = 0) (by simp) fun _ => Ret.of (P := (Node.coord n).2.2.2 = 0) (by simp)) ?_
    generalize Node.probe n = p
    generalize Node.coord n = c
    obtain ⟨p1, p2, p3, p4⟩ := p
    obtain ⟨c1, c2, c3, c4⟩ := c
    simp only [Prod.mk.injEq]
    constructor
    · rintro ⟨h1, h2, h3, h4, h5, h6, h7, h8⟩; exact ⟨⟨h1, h2, h3, h4⟩, h5, h6, h7, h8⟩
    · rintro ⟨⟨h1, h2, h3, h4⟩, h5, h6, h7, h8⟩; exact ⟨h1, h2, h3, h4, h5, h6, h7, h8⟩
  | true =>
    simp only [Bool.not_true, cond_false, if_true, UpP]
    exact Ret.px (tableOk_s K _ hn.table hK) fun hT => Ret.vl (site_s K _) (Ret.px (l4Site_s K _ _ hn.table hK) fun _ => Ret.px (self_s K n hn hT hK) fun _ => Ret.px (l21CastOk_s K n hn hT hK) fun _ => Ret.px (probe_s K n hn hK) fun _ =>
      Ret.px (doubts_s K n hn hT hK) fun _ => Ret.px (coord_s K _) fun _ => Ret.px (places_s K n hn hK) fun _ => (others_s K n hn hK).id)

theorem down_i (K : Nat) (n : Node) : Ret (impl_Node_isDown.f K (n, ())) (DownP n) := by
  simp only [impl_Node_isDown.f, impl_Node_isDown.pre, eqv_t2, eqv_t9, DownP]
  exact Ret.cnd (by simp) fun _ => Ret.cnd (by simp) fun _ => Ret.cnd (by simp) fun _ => Ret.cnd (by simp) fun _ => Ret.cnd (by simp) fun _ => Ret.cnd (by simp) fun _ => Ret.cnd (by simp) fun _ => Ret.dec

theorem nodeOk_i (K : Nat) (n : Node) (hn : NB n) (hK : 1048577 < K) : Ret (impl_NodeOk.f K (n, ())) (NodeP n) := by
  refine Ret.nx (isNode_i K _) fun _ => Ret.nx (in_i K _ _ _) fun _ => Ret.nx (in_i K _ _ _) fun _ => Ret.nx (in_i K _ _ _) fun _ => Ret.nx (in_i K _ _ _) fun _ => ?_
  dsimp only
  cases hu : n.2.1 with
  | false =>
    simp only [Bool.not_false, cond_true, Bool.false_eq_true, if_false]
    exact (down_i K n).id
  | true =>
    simp only [Bool.not_true, cond_false, if_true, UpP]
    refine Ret.iff (Ret.px (tableOk_node_i K n hn hK) fun hT => Ret.px (probe_i K n hn hT.1 hK) fun _ => Ret.px (doubts_i K n hn hT.1 hK) fun _ => Ret.px (coord_i K _) fun _ => Ret.px (places_i K n hn hK) fun _ => (others_i K n hn hK).id) ?_
    constructor
    · rintro ⟨⟨h1, h2, h3, h4, h5⟩, h6, h7, h8, h9, h10⟩; exact ⟨h1, h2, h3, ⟨h4, h5⟩, h6, h7, h8, h9, h10⟩
    · rintro ⟨h1, h2, h3, ⟨h4, h5⟩, h6, h7, h8, h9, h10⟩; exact ⟨⟨h1, h2, h3, h4, h5⟩, h6, h7, h8, h9, h10⟩

end Go.Proofs.YthgnfidnmnkeaaaGreatEv
