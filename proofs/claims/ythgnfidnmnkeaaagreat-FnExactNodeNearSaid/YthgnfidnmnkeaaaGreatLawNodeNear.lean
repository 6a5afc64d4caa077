/- FnExactNodeNear: the plain law. -/
import Derived.Test.YthgnfidnmnkeaaaGreatP2
namespace Go.Proofs.YthgnfidnmnkeaaaGreatEv
open Go
theorem szd (a b : Nat) (h : a + b ≤ 1000) : decide ((a + b) * 8 ≤ sizeK) = true := decide_eq_true (by unfold sizeK; omega)
theorem near_l1 (K : Nat) (n : Node) (c : Int) (rec0 : spec_NodeNear.A_l0 → Option spec_NodeNear.Res) (i : Nat) (hi : i < (Node.places n).length) (hib : i ≤ 1048576) (d : Int) (N1 N2 D1 D2 : List Int) (h1 : N1.length = D1.length) (h2 : N2.length = D2.length) (hs : N1.length + N2.length ≤ 500)
    (hle : ∀ y ∈ D1, y ≤ d) (hgt : ∀ y ∈ D2, d < y) : ∀ (e m k : Nat), m + e = D1.length → e < k →
      iterate (fun rec a => spec_NodeNear.l1.step K (n, c, ()) rec0 rec a) k (N1 ++ N2, D1 ++ D2, (i : Int), d, (m : Int)) = rec0 (N1 ++ (Node.places n)[i].1 :: N2, D1 ++ d :: D2, ((i + 1 : Nat) : Int)) := by
  intro e
  induction e with
  | succ e ih =>
    intro m k hm hk
    obtain ⟨k, rfl⟩ : ∃ k', k = k' + 1 := ⟨k - 1, by omega⟩
    have hlt : m < (D1 ++ D2).length := by simp; omega
    show spec_NodeNear.l1.step K (n, c, ()) _ _ _ = _
    simp only [spec_NodeNear.l1.step]
    rw [decLt (by omega : (m : Int) < (List.length (D1 ++ D2) : Int)), idx_get hlt, wr_succ m (by omega)]
    simp only [cond_true, Option.bind_some]
    have hm1 : m < D1.length := by omega
    have e1 : (D1 ++ D2)[m] = D1[m] := List.getElem_append_left hm1
    rw [e1, decide_eq_true (hle _ (List.getElem_mem hm1))]
    exact ih (m + 1) k (by omega) (by omega)
  | zero =>
    intro m k hm hk
    obtain ⟨k, rfl⟩ : ∃ k', k = k' + 1 := ⟨k - 1, by omega⟩
    have hm' : m = D1.length := by omega
    subst hm'
    show spec_NodeNear.l1.step K (n, c, ()) _ _ _ = _
    simp only [spec_NodeNear.l1.step]
    have t1 : (D1 ++ D2).take D1.length = D1 := by simp
    have t2 : (D1 ++ D2).drop D1.length = D2 := by simp
    have t3 : (N1 ++ N2).take D1.length = N1 := by rw [← h1]; simp
    have t4 : (N1 ++ N2).drop D1.length = N2 := by rw [← h1]; simp
    have d1 : decide ((0 : Int) ≤ 0) = true := rfl
    have d2 : decide ((0 : Int) ≤ (D1.length : Int)) = true := decide_eq_true (by omega)
    have d3 : decide ((D1.length : Int) ≤ (List.length (D1 ++ D2) : Int)) = true := decide_eq_true (by simp; omega)
    have d4 : decide ((D1.length : Int) ≤ (List.length (N1 ++ N2) : Int)) = true := decide_eq_true (by simp; omega)
    have d5 : decide ((List.length (D1 ++ D2) : Int) ≤ (List.length (D1 ++ D2) : Int)) = true := decide_eq_true (by omega)
    have d6 : decide ((List.length (N1 ++ N2) : Int) ≤ (List.length (N1 ++ N2) : Int)) = true := decide_eq_true (by omega)
    have r1 : (D1 ++ D2).take (D1 ++ D2).length = D1 ++ D2 := List.take_length
    have r2 : (N1 ++ N2).take (N1 ++ N2).length = N1 ++ N2 := List.take_length
    have w1 := wr_succ i (by omega)
    have hp := idx_get hi
    by_cases hc : (D1.length : Int) < (List.length (D1 ++ D2) : Int)
    · rw [decide_eq_true hc]
      have hlt : D1.length < (D1 ++ D2).length := by omega
      have h0 : 0 < D2.length := by simp at hlt; omega
      rw [idx_get hlt]
      have e1 : (D1 ++ D2)[D1.length] = D2[0] := by simp
      simp only [cond_true, Option.bind_some, e1]
      rw [decide_eq_false (by have := hgt _ (List.getElem_mem h0); omega : ¬ D2[0] ≤ d)]
      simp only [cond_false, Int.toNat_natCast, Int.toNat_zero, List.drop_zero, t1, t2, t3, t4, d1, d2, d3, d4, d5, d6, r1, r2, Bool.and_self, cond_true, List.nil_append]
      rw [szd _ _ (by simp; omega), szd _ _ (by simp; omega), szd _ _ (by simp; omega), szd _ _ (by simp; omega)]
      simp only [cond_true]
      rw [show idx n.2.2.2.2.2.2.2.2.2.2.2.2.2.1 (i : Int) = _ from hp]
      simp only [Option.bind_some]
      rw [szd _ _ (by simp; omega), szd _ _ (by simp; omega), w1]
      simp only [cond_true, List.append_assoc, List.cons_append, List.nil_append]
      rfl
    · rw [decide_eq_false hc]
      simp only [cond_false, Int.toNat_natCast, Int.toNat_zero, List.drop_zero, t1, t2, t3, t4, d1, d2, d3, d4, d5, d6, r1, r2, Bool.and_self, cond_true, List.nil_append]
      rw [szd _ _ (by simp; omega), szd _ _ (by simp; omega), szd _ _ (by simp; omega), szd _ _ (by simp; omega)]
      simp only [cond_true]
      rw [show idx n.2.2.2.2.2.2.2.2.2.2.2.2.2.1 (i : Int) = _ from hp]
      simp only [Option.bind_some]
      rw [szd _ _ (by simp; omega), szd _ _ (by simp; omega), w1]
      simp only [cond_true, List.append_assoc, List.cons_append, List.nil_append]
      rfl
noncomputable def distOf (K : Nat) (c d : Coord) : Int := ((spec_CoordDist.f K (c, d, ())).map fun y => y.1.1).getD 0
theorem distOf_ok (K : Nat) (c d : Coord) (hK : 1048577 < K) : spec_CoordDist.f K (c, d, ()) = some ((distOf K c d, ()), ()) ∧ impl_CoordDist.f K (c, d, ()) = some ((distOf K c d, ()), ()) := by
  obtain ⟨r, h1, h2⟩ := dist_same K c d hK
  have : distOf K c d = r := by unfold distOf; rw [h1]; rfl
  rw [this]
  exact ⟨h1, h2⟩
theorem filter_sorted {α : Type} (lt : α → α → Bool) (ht : ∀ a b c, lt a b = false → lt b c = false → lt a c = false) (x : α) : ∀ (A : List α), NoLt lt A → (A.filter fun y => !lt x y) ++ (A.filter fun y => lt x y) = A
  | [], _ => rfl
  | a :: A, h => by
    unfold NoLt at h
    rw [List.pairwise_cons] at h
    cases hl : lt x a with
    | false =>
      rw [List.filter_cons_of_pos (by simp [hl]), List.filter_cons_of_neg (by simp [hl]), List.cons_append, filter_sorted lt ht x A h.2]
    | true =>
      have hall : ∀ b ∈ A, lt x b = true := fun b hb => by
        cases hb2 : lt x b with
        | true => rfl
        | false => have := ht x b a hb2 (h.1 b hb); rw [hl] at this; cases this
      rw [List.filter_cons_of_neg (by simp [hl]), List.filter_cons_of_pos (by simp [hl]), List.filter_eq_nil_iff.2 (fun b hb => by simp [hall b hb]), List.filter_eq_self.2 hall]
      rfl
def foldS {α : Type} (lt : α → α → Bool) (p : α → Bool) : List α → List α → List α
  | L, [] => L
  | L, x :: xs => foldS lt p (bif p x then (L.filter fun y => !lt x y) ++ x :: (L.filter fun y => lt x y) else L) xs
theorem foldS_len {α : Type} (lt : α → α → Bool) (p : α → Bool) : ∀ (xs L : List α), (foldS lt p L xs).length ≤ L.length + xs.length
  | [], L => Nat.le_refl _
  | x :: xs, L => by
    simp only [foldS]
    refine Nat.le_trans (foldS_len lt p xs _) ?_
    cases p x with
    | false => simp
    | true =>
      have : ((L.filter fun y => !lt x y).length + (L.filter fun y => lt x y).length) = L.length := by
        induction L with
        | nil => rfl
        | cons a L ih => simp only [List.filter_cons]; cases lt x a <;> simp <;> omega
      simp; omega
theorem sort_fold {α : Type} (lt : α → α → Bool) (ht : ∀ a b c, lt a b = false → lt b c = false → lt a c = false) (has : ∀ a b, lt a b = true → lt b a = false) (p : α → Bool) : ∀ (xs done : List α), NoLt lt done → (sortR lt done xs).filter p = foldS lt p (done.filter p) xs
  | [], done, _ => rfl
  | x :: xs, done, h => by
    simp only [sortR, foldS]
    rw [sort_fold lt ht has p xs _ (ins_sorted lt ht has x done h)]
    congr 1
    rw [insR_filter lt ht x done.reverse [] (by rwa [List.reverse_reverse]), List.reverse_reverse, List.append_nil, List.filter_append, List.filter_filter, List.filter_cons, List.filter_filter]
    have e1 : (done.filter p).filter (fun y => !lt x y) = done.filter fun a => p a && !lt x a := by rw [List.filter_filter]; congr 1; funext a; exact Bool.and_comm ..
    have e2 : (done.filter p).filter (fun y => lt x y) = done.filter fun a => p a && lt x a := by rw [List.filter_filter]; congr 1; funext a; exact Bool.and_comm ..
    cases hp : p x with
    | true =>
      simp only [if_true, cond_true]
      rw [e1, e2]
    | false =>
      simp only [cond_false]
      rw [if_neg (by simp)]
      rw [← e1, ← e2, filter_sorted lt ht x _ (List.Pairwise.filter p h)]
theorem foldS_sorted {α : Type} (lt : α → α → Bool) (ht : ∀ a b c, lt a b = false → lt b c = false → lt a c = false) (has : ∀ a b, lt a b = true → lt b a = false) (p : α → Bool) (x : α) (L : List α) (h : NoLt lt L) : NoLt lt (bif p x then (L.filter fun y => !lt x y) ++ x :: (L.filter fun y => lt x y) else L) := by
  cases p x with
  | false => exact h
  | true =>
    have := ins_sorted lt ht has x L h
    rw [insR_filter lt ht x L.reverse [] (by rwa [List.reverse_reverse]), List.reverse_reverse, List.append_nil] at this
    exact this
noncomputable def ltP (K : Nat) (n : Node) (x y : Place) : Bool := decide (distOf K (Node.coord n) x.2.1 < distOf K (Node.coord n) y.2.1)
theorem ltP_trans (K : Nat) (n : Node) (a b c : Place) (h1 : ltP K n a b = false) (h2 : ltP K n b c = false) : ltP K n a c = false := by
  unfold ltP at *
  simp only [decide_eq_false_iff_not] at *
  omega
theorem ltP_asymm (K : Nat) (n : Node) (a b : Place) (h1 : ltP K n a b = true) : ltP K n b a = false := by
  unfold ltP at *
  simp only [decide_eq_false_iff_not, decide_eq_true_eq] at *
  omega
def liveB (t : List Fact) (i : Int) : Bool := t.any fun f => f.1 == i && f.2.2.1 == 1
theorem liveB_at {t : List Fact} (hT : TableP t) {j : Nat} (hj : j < t.length) : liveB t t[j].1 = (t[j].2.2.1 == 1) := by
  rw [Bool.eq_iff_iff]
  unfold liveB
  rw [List.any_eq_true]
  constructor
  · rintro ⟨f, hf, h⟩
    simp only [Bool.and_eq_true, beq_iff_eq] at h
    rw [← uniq hT.2 hf (List.getElem_mem hj) h.1]
    simpa using h.2
  · intro h
    exact ⟨t[j], List.getElem_mem hj, by simpa using h⟩
theorem liveB_no {t : List Fact} {i : Int} (h : ∀ f ∈ t, f.1 ≠ i) : liveB t i = false := by
  unfold liveB
  rw [List.any_eq_false]
  intro f hf
  simp [h f hf]
theorem places_short {n : Node} (hP : NodeP n) (hu : n.2.1 = true) : (Node.places n).length ≤ 4 := by
  obtain ⟨hT, hS, _, _, _, _, _, hp, hO⟩ := hP.up hu
  cases h : (Node.places n).length with
  | zero => omega
  | succ m =>
    have hlt : m < (Node.places n).length := by omega
    have h0 : 0 < (Node.places n).length := by omega
    have h1 := asc_far hp.2 m hlt
    have a1 := hp.1 _ (List.getElem_mem hlt)
    have a2 := hp.1 _ (List.getElem_mem h0)
    have b1 := a1.2.1; have b2 := a2.2.1
    rw [siteI_of a1.1] at b1
    rw [siteI_of a2.1] at b2
    omega
theorem near_s (K : Nat) (n : Node) (c : Int) (hn : NB n) (hP : NodeP n) (hu : n.2.1 = true) (hK : 1048577 < K) : spec_NodeNear.l0 K (n, c, ()) ([], [], 0) = some ((((foldS (ltP K n) (fun p => liveB (Node.table n) p.1) [] (Node.places n)).map (·.1)).take c.toNat, ()), ()) := by
  have hl := places_short hP hu
  have hT := (hP.up hu).1
  have main : ∀ (d i k : Nat) (L : List Place), i + d = (Node.places n).length → d < k → NoLt (ltP K n) L → L.length ≤ i →
      iterate (fun rec a => spec_NodeNear.l0.step K (n, c, ()) (spec_NodeNear.l1 K (n, c, ()) rec) rec a) k (L.map (·.1), L.map (fun p => distOf K (Node.coord n) p.2.1), (i : Int)) =
        some ((((foldS (ltP K n) (fun p => liveB (Node.table n) p.1) L ((Node.places n).drop i)).map (·.1)).take c.toNat, ()), ()) := by
    intro d
    induction d with
    | zero =>
      intro i k L hi hk hs hL
      obtain ⟨k, rfl⟩ : ∃ k', k = k' + 1 := ⟨k - 1, by omega⟩
      have : i = (Node.places n).length := by omega
      subst this
      show spec_NodeNear.l0.step K (n, c, ()) _ _ _ = _
      simp only [spec_NodeNear.l0.step, decNl, cond_false, List.drop_length, foldS]
      by_cases h0 : c < 0
      · rw [decide_eq_true h0, show c.toNat = 0 by omega]; rfl
      · rw [decide_eq_false h0]
        simp only [cond_false]
        by_cases h1 : (List.length (L.map (fun p : Place => p.1)) : Int) > c
        · rw [decide_eq_true h1]
          simp only [cond_true]
          rw [decide_eq_true (show (0 : Int) ≤ c by omega), decide_eq_true (show c ≤ (List.length (L.map (fun p : Place => p.1)) : Int) by omega)]
          simp
        · rw [decide_eq_false h1]
          simp only [cond_false]
          rw [List.take_of_length_le (by omega)]
    | succ d ih =>
      intro i k L hi hk hs hL
      obtain ⟨k, rfl⟩ : ∃ k', k = k' + 1 := ⟨k - 1, by omega⟩
      have hlt : i < (Node.places n).length := by omega
      show spec_NodeNear.l0.step K (n, c, ()) _ _ _ = _
      simp only [spec_NodeNear.l0.step]
      rw [decLt (by omega : (i : Int) < (List.length (Node.places n) : Int)), idx_get hlt, wr_succ i (by omega), List.drop_eq_getElem_cons hlt]
      simp only [cond_true, Option.bind_some, foldS]
      obtain ⟨o, ho, h1⟩ := find_s K (Node.table n) (Node.places n)[i].1 hn.table hK
      rw [show spec_l3Find.f K (n.2.2.2.2.2.2.2.2.1, (Node.places n)[i].1, ()) = _ from h1]
      simp only [Option.bind_some]
      cases ho with
      | no h2 =>
        rw [liveB_no h2]
        rw [show decide ((-1 : Int) < 0) = true from rfl]
        simp only [cond_true, cond_false]
        exact ih (i + 1) k L (by omega) (by omega) hs (by omega)
      | at_ j hj e =>
        have hlv : liveB (Node.table n) (Node.places n)[i].1 = ((Node.table n)[j].2.2.1 == 1) := by rw [← e]; exact liveB_at hT hj
        rw [hlv, nneg (by omega : (0 : Int) ≤ (j : Int))]
        simp only [cond_false]
        rw [show idx n.2.2.2.2.2.2.2.2.1 (j : Int) = _ from idx_get hj]
        simp only [Option.bind_some]
        cases hc : (Node.table n)[j].2.2.1 == 1 with
        | false =>
          rw [show ((Node.table n)[j].2.2.1 != 1) = true by rw [bne, hc]; rfl]
          simp only [cond_true, cond_false]
          exact ih (i + 1) k L (by omega) (by omega) hs (by omega)
        | true =>
          rw [show ((Node.table n)[j].2.2.1 != 1) = false by rw [bne, hc]; rfl]
          simp only [cond_true, cond_false]
          rw [(distOf_ok K n.2.2.2.2.2.2.2.2.2.2.2.2.1 (Node.places n)[i].2.1 hK).1]
          simp only [Option.bind_some]
          have hsplit := filter_sorted (ltP K n) (ltP_trans K n) (Node.places n)[i] L hs
          have hnew := foldS_sorted (ltP K n) (ltP_trans K n) (ltP_asymm K n) (fun _ => true) (Node.places n)[i] L hs
          simp only [cond_true] at hnew
          have hlens : (L.filter fun y => !ltP K n (Node.places n)[i] y).length + (L.filter fun y => ltP K n (Node.places n)[i] y).length = L.length := by rw [← List.length_append, hsplit]
          have hA : ∀ y ∈ (L.filter fun y => !ltP K n (Node.places n)[i] y), distOf K (Node.coord n) y.2.1 ≤ distOf K (Node.coord n) (Node.places n)[i].2.1 := fun y hy => by
            have := (List.mem_filter.1 hy).2
            simp only [ltP, Bool.not_eq_true', decide_eq_false_iff_not] at this
            omega
          have hB : ∀ y ∈ (L.filter fun y => ltP K n (Node.places n)[i] y), distOf K (Node.coord n) (Node.places n)[i].2.1 < distOf K (Node.coord n) y.2.1 := fun y hy => by
            have := (List.mem_filter.1 hy).2
            simpa only [ltP, decide_eq_true_eq] using this
          have ih' := ih (i + 1) k _ (by omega) (by omega) hnew (by simp; omega)
          generalize hL1 : (L.filter fun y => !ltP K n (Node.places n)[i] y) = L1 at hsplit hlens hA ih'
          generalize hL2 : (L.filter fun y => ltP K n (Node.places n)[i] y) = L2 at hsplit hlens hB ih'
          subst hsplit
          have hr := near_l1 K n c (iterate (fun rec a => spec_NodeNear.l0.step K (n, c, ()) (spec_NodeNear.l1 K (n, c, ()) rec) rec a) k) i hlt (by omega) (distOf K (Node.coord n) (Node.places n)[i].2.1) (L1.map (·.1)) (L2.map (·.1)) (L1.map fun p => distOf K (Node.coord n) p.2.1) (L2.map fun p => distOf K (Node.coord n) p.2.1) (by simp) (by simp) (by simp; omega)
            (fun y hy => by obtain ⟨q, hq, e2⟩ := List.mem_map.1 hy; rw [← e2]; exact hA q hq) (fun y hy => by obtain ⟨q, hq, e2⟩ := List.mem_map.1 hy; rw [← e2]; exact hB q hq) L1.length 0 K (by simp) (by omega)
          rw [List.map_append, List.map_append]
          refine Eq.trans hr ?_
          simp only [List.map_append, List.map_cons] at ih'
          exact ih'
  have := main (Node.places n).length 0 K [] (by omega) (by omega) List.Pairwise.nil (by simp)
  exact this
theorem is_i (K : Nat) (n : Node) (i : Int) (hn : NB n) (hT : TableP (Node.table n)) (hK : 1048577 < K) : ∃ s, impl_Node_is.f K (n, i, ()) = some ((s, ()), ()) ∧ (s == 1) = liveB (Node.table n) i := by
  simp only [impl_Node_is.f, impl_Node_is.pre]
  rcases tableOf_i K (Node.table n) i hn.table hK with ⟨h1, _⟩ | ⟨_, ⟨f, hf, e, h1⟩ | ⟨h2, h1⟩⟩
  · exact absurd hT h1
  · rw [show impl_TableOf.f K (n.2.2.2.2.2.2.2.2.1, i, ()) = _ from h1]
    refine ⟨_, rfl, ?_⟩
    obtain ⟨j, hj, e2⟩ := List.getElem_of_mem hf
    rw [← e, ← e2]
    exact (liveB_at hT hj).symm
  · rw [show impl_TableOf.f K (n.2.2.2.2.2.2.2.2.1, i, ()) = _ from h1]
    refine ⟨_, rfl, ?_⟩
    rw [liveB_no h2]
    rfl
theorem near_cmp (K : Nat) (n : Node) (hK : 1048577 < K) (y z : Place) : ∃ c, (impl_NodeNear_1.f K (y, z, n, ())).map (fun r => r.1.1) = some c ∧ decide (c < 0) = ltP K n y z := by
  simp only [impl_NodeNear_1.f, impl_NodeNear_1.pre]
  rw [(distOf_ok K n.2.2.2.2.2.2.2.2.2.2.2.2.1 y.2.1 hK).2]
  simp only [Option.bind_some]
  rw [(distOf_ok K n.2.2.2.2.2.2.2.2.2.2.2.2.1 z.2.1 hK).2]
  simp only [Option.bind_some]
  rw [cmp_int]
  refine ⟨_, rfl, ?_⟩
  rw [Bool.eq_iff_iff]
  simp only [decide_eq_true_eq, ltP]
  exact cmp_sign _ _
theorem nearest_i (K : Nat) (n : Node) (c : Int) (hn : NB n) (hP : NodeP n) (hu : n.2.1 = true) (hK : 1048577 < K) : ((m_slices_Clone_impl_Place_impl_Place.f K (n.2.2.2.2.2.2.2.2.2.2.2.2.2.1, ())).bind fun y2 => (slices_SortStableFunc_impl_Place_impl_Place.f K (y2.1.1, fun y3 => (impl_NodeNear_1.f K (y3.1, y3.2.1, n, ())).map fun y => y.1.1, ())).bind fun y4 => impl_NodeNear.l0 K (n, c, ()) (y4.2.1, [], (List.length y4.2.1 : Int), 0)) =
    some ((((foldS (ltP K n) (fun p => liveB (Node.table n) p.1) [] (Node.places n)).map (·.1)).take c.toNat, ()), ()) := by
  have hl := places_short hP hu
  have hT := (hP.up hu).1
  simp only [m_slices_Clone_impl_Place_impl_Place.f]
  rw [clone_ok (by show (Node.places n).length * _ ≤ _; omega)]
  simp only [Option.bind_some]
  rw [show slices_SortStableFunc_impl_Place_impl_Place.f K (n.2.2.2.2.2.2.2.2.2.2.2.2.2.1, (fun y3 => (impl_NodeNear_1.f K (y3.1, y3.2.1, n, ())).map fun y => y.1.1), ()) = _ from sortPlace K (Node.places n) _ (ltP K n) (fun y z => near_cmp K n hK y z) (by omega) hK]
  simp only [Option.bind_some]
  have hf := sort_fold (ltP K n) (ltP_trans K n) (ltP_asymm K n) (fun p => liveB (Node.table n) p.1) (Node.places n) [] List.Pairwise.nil
  rw [List.filter_nil] at hf
  rw [← hf]
  have hp : (sortR (ltP K n) [] (Node.places n)).length ≤ 4 := by
    have := (sortR_perm (ltP K n) (Node.places n) []).length_eq
    rw [this]; simpa using hl
  generalize sortR (ltP K n) [] (Node.places n) = S at hp
  have hg := gather_all (step := fun (rec : List Int × Int → Option impl_NodeNear.Res) a => impl_NodeNear.l0.step K (n, c, ()) (fun z => rec (z.2.1, z.2.2.2)) (S, a.1, (List.length S : Int), a.2)) S (fun p => liveB (Node.table n) p.1) (fun p => p.1) (fun xs => (impl_first.f K (xs, c, ())).bind fun y8 => some ((y8.1.1, ()), ())) ?_ ?_ (k := K) (by omega)
  · have hconv : ∀ (k : Nat) (a : List Int × Int), iterate (fun (rec : List Int × Int → Option impl_NodeNear.Res) a => impl_NodeNear.l0.step K (n, c, ()) (fun z => rec (z.2.1, z.2.2.2)) (S, a.1, (List.length S : Int), a.2)) k a = iterate (fun rec a => impl_NodeNear.l0.step K (n, c, ()) rec a) k (S, a.1, (List.length S : Int), a.2) := by
      intro k
      induction k with
      | zero => intro a; rfl
      | succ k ih =>
        intro a
        have key : ∀ (X : List Int × Int → Option impl_NodeNear.Res) (Y : impl_NodeNear.A_l0 → Option impl_NodeNear.Res), (∀ a : List Int × Int, X a = Y (S, a.1, (List.length S : Int), a.2)) →
            impl_NodeNear.l0.step K (n, c, ()) (fun z => X (z.2.1, z.2.2.2)) (S, a.1, (List.length S : Int), a.2) = impl_NodeNear.l0.step K (n, c, ()) Y (S, a.1, (List.length S : Int), a.2) := by
          intro X Y h
          simp only [impl_NodeNear.l0.step, h]
        exact key _ _ ih
    have := hconv K ([], 0)
    refine (show impl_NodeNear.l0 K (n, c, ()) (S, [], (List.length S : Int), 0) = _ from this.symm.trans hg).trans ?_
    rw [first_i K _ c (by have := List.length_filter_le (fun p : Place => liveB (Node.table n) p.1) S; simp; omega)]
    rfl
  · intro rec acc i hi ha
    simp only [impl_NodeNear.l0.step]
    rw [decLt (by omega : (i : Int) < (List.length S : Int)), idx_get hi, wr_succ i (by omega)]
    simp only [cond_true, Option.bind_some, Int.toNat_natCast]
    rw [idx_get hi]
    simp only [Option.bind_some]
    obtain ⟨s, h1, h2⟩ := is_i K n S[i].1 hn hT hK
    rw [h1]
    simp only [Option.bind_some, h2]
    cases liveB (Node.table n) S[i].1 with
    | true => simp only [cond_true]; rw [app_ok (by simp; omega)]
    | false => rfl
  · intro rec acc _
    simp only [impl_NodeNear.l0.step]
    rw [decide_eq_false (by omega : ¬ (List.length S : Int) < (List.length S : Int))]
    rfl
theorem nodeNear_same (K : Nat) (n : Node) (c : Int) (hn : NB n) (hK : 1048577 < K) : ∃ r : List Int, r.length ≤ 1048576 ∧ spec_NodeNear.f K (n, c, ()) = some ((r, ()), ()) ∧ impl_NodeNear.f K (n, c, ()) = some ((r, ()), ()) := by
  obtain ⟨b, h1, h2, h3⟩ := nodeOk_both K n hn hK
  simp only [spec_NodeNear.f, spec_NodeNear.pre, impl_NodeNear.f, impl_NodeNear.pre]
  rw [h1, h2]
  cases b with
  | false => exact ⟨[], by simp, rfl, rfl⟩
  | true =>
    have hP := h3.1 rfl
    simp only [Option.bind_some, Bool.not_true, cond_false]
    cases hu : n.2.1 with
    | false => exact ⟨[], by simp, rfl, rfl⟩
    | true =>
      simp only [Bool.not_true, cond_false]
      rw [near_s K n c hn hP hu hK, nearest_i K n c hn hP hu hK]
      refine ⟨_, ?_, rfl, rfl⟩
      have h4 := foldS_len (ltP K n) (fun p => liveB (Node.table n) p.1) (Node.places n) []
      have h5 := places_short hP hu
      simp at h4
      simp; omega
theorem law_NodeNear (K : Nat) (n : Node) (v : Int) (hn : NM n) (hK : 1048577 < K) : laws_FnExactNodeNear.f K (n, v, ()) = some ((true, ()), ()) := by
  simp only [laws_FnExactNodeNear.f, laws_FnExactNodeNear.pre]
  obtain ⟨r, h1, h2⟩ := szNode_ok K n hn 1048576 (by omega) (by omega) hK
  rw [h1, Option.bind_some]
  rcases h2 with h2 | ⟨h2, _, hb⟩
  · rw [decide_eq_true h2]; rfl
  · rw [nneg h2]
    obtain ⟨y, hy, h3, h4⟩ := nodeNear_same K n v hb hK
    obtain ⟨m, hm, h5⟩ := mark_copy K n hb hK
    obtain ⟨m', hm', h6, h7, h8⟩ := ints_said K y hy hK
    simp only [cond_false, toNode_ok K n hb hK, Option.bind_some, h3, h4, h5, h6, h7, h8, eqNode_refl K n hb hK, nneg hm, nneg hm', bne_self_eq_false, Bool.not_true]
end Go.Proofs.YthgnfidnmnkeaaaGreatEv
