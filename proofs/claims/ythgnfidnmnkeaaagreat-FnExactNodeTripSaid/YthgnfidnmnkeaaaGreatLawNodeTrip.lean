/- FnExactNodeTrip: the plain law. -/
import Derived.Test.YthgnfidnmnkeaaaGreatPu7
namespace Go.Proofs.YthgnfidnmnkeaaaGreatEv
open Go

/-- The whole root. -/
def Rt (v r : Nat) : Prop := r * r ≤ v ∧ v < (r + 1) * (r + 1)
theorem Rt.eq {v r s : Nat} (h1 : Rt v r) (h2 : Rt v s) : r = s := by
  obtain ⟨a1, a2⟩ := h1
  obtain ⟨b1, b2⟩ := h2
  rcases Nat.lt_trichotomy r s with h | h | h
  · have := Nat.mul_le_mul (show r + 1 ≤ s by omega) (show r + 1 ≤ s by omega)
    omega
  · exact h
  · have := Nat.mul_le_mul (show s + 1 ≤ r by omega) (show s + 1 ≤ r by omega)
    omega

theorem root_s (K : Nat) (v : Nat) (hv : v < 1500000001 * 1500000001) (hK : 1048577 < K) : ∃ r, Rt v r ∧ spec_l1Root.f K ((v : Int), ()) = some (((r : Int), ()), ()) := by
  have key : ∀ (e k l h : Nat), h - l < 2 ^ e → e < k → l ≤ h → h ≤ 1500000000 → l * l ≤ v → v < (h + 1) * (h + 1) → ∃ r, Rt v r ∧ iterate (fun rec a => spec_l1Root.l0.step K ((v : Int), ()) rec a) k ((l : Int), (h : Int)) = some (((r : Int), ()), ()) := by
    intro e
    induction e with
    | zero =>
      intro k l h h1 hk hlh hh h2 h3
      obtain ⟨k, rfl⟩ : ∃ k', k = k' + 1 := ⟨k - 1, by omega⟩
      have : l = h := by omega
      subst this
      refine ⟨l, ⟨h2, h3⟩, ?_⟩
      show spec_l1Root.l0.step K _ _ _ = _
      simp only [spec_l1Root.l0.step]
      rw [decide_eq_false (by omega)]
      rfl
    | succ e ih =>
      intro k l h h1 hk hlh hh h2 h3
      obtain ⟨k, rfl⟩ : ∃ k', k = k' + 1 := ⟨k - 1, by omega⟩
      show ∃ r, Rt v r ∧ spec_l1Root.l0.step K _ _ _ = _
      simp only [spec_l1Root.l0.step]
      by_cases hl : l < h
      · rw [decide_eq_true (show (l : Int) < (h : Int) by omega)]
        have e1 : wr .i64 ((l : Int) + (h : Int)) = (l : Int) + h := wr64 (by omega) (by omega)
        have e2 : wr .i64 ((l : Int) + (h : Int) + 1) = ((l + h + 1 : Nat) : Int) := (wr64 (by omega) (by omega)).trans (by omega)
        have e3 : Int.tdiv ((l + h + 1 : Nat) : Int) 2 = (((l + h + 1) / 2 : Nat) : Int) := by
          rw [Int.tdiv_eq_ediv_of_nonneg (by omega)]; omega
        rw [e1, e2, e3]
        have hm : l < (l + h + 1) / 2 ∧ (l + h + 1) / 2 ≤ h := by omega
        have hw : h - (l + h + 1) / 2 < 2 ^ e ∧ (l + h + 1) / 2 - 1 - l < 2 ^ e := by
          rw [Nat.pow_succ] at h1; omega
        generalize (l + h + 1) / 2 = m at *
        have e4 : wr .i64 (m : Int) = m := wr64 (by omega) (by omega)
        have e5 : Int.tdiv (v : Int) (m : Int) = ((v / m : Nat) : Int) := by
          rw [Int.tdiv_eq_ediv_of_nonneg (by omega)]; rfl
        have hvm : v / m ≤ v := Nat.div_le_self _ _
        have hq : m ≤ v / m ↔ m * m ≤ v := Nat.le_div_iff_mul_le (by omega)
        generalize v / m = q at *
        have e6 : wr .i64 (q : Int) = (q : Int) := wr64 (by omega) (by omega)
        rw [e4, e5, e6, decide_eq_false (show ¬ (m : Int) = 0 by omega)]
        simp only [cond_true, cond_false]
        by_cases hc : m ≤ q
        · rw [decide_eq_true (by omega)]
          exact ih k m h hw.1 (by omega) (by omega) hh (hq.1 hc) h3
        · rw [decide_eq_false (by omega)]
          have hc2 : ¬ m * m ≤ v := fun h4 => hc (hq.2 h4)
          have e7 : wr .i64 ((m : Int) - 1) = ((m - 1 : Nat) : Int) := wr_pred m (by omega) (by omega)
          rw [e7]
          exact ih k l (m - 1) hw.2 (by omega) (by omega) (by omega) h2 (by rw [show m - 1 + 1 = m by omega]; omega)
      · have : l = h := by omega
        subst this
        refine ⟨l, ⟨h2, h3⟩, ?_⟩
        rw [decide_eq_false (by omega)]
        rfl
  exact key 31 K 0 1500000000 (by decide) (by omega) (by omega) (by omega) (by omega) hv

theorem root_i (K : Nat) (v : Nat) (hv : v < 1500000001 * 1500000001) (hK : 1048577 < K) : ∃ r, Rt v r ∧ impl_root.f K ((v : Int), ()) = some (((r : Int), ()), ()) := by
  have key : ∀ (e k l h : Nat), h - l ≤ 2 ^ e → e < k → l < h → h ≤ 2147483648 → l * l ≤ v → v < h * h → ∃ r, Rt v r ∧ iterate (fun rec a => impl_root.l0.step K ((v : Int), ()) rec a) k ((l : Int), (h : Int)) = some (((r : Int), ()), ()) := by
    intro e
    induction e with
    | zero =>
      intro k l h h1 hk hlh hh h2 h3
      obtain ⟨k, rfl⟩ : ∃ k', k = k' + 1 := ⟨k - 1, by omega⟩
      have : h = l + 1 := by omega
      subst this
      refine ⟨l, ⟨h2, h3⟩, ?_⟩
      show impl_root.l0.step K _ _ _ = _
      simp only [impl_root.l0.step]
      have e0 : wr .i64 (((l + 1 : Nat) : Int) - (l : Int)) = ((l + 1 : Nat) : Int) - (l : Int) := wr64 (by omega) (by omega)
      rw [e0, decide_eq_false (by omega)]
      rfl
    | succ e ih =>
      intro k l h h1 hk hlh hh h2 h3
      obtain ⟨k, rfl⟩ : ∃ k', k = k' + 1 := ⟨k - 1, by omega⟩
      show ∃ r, Rt v r ∧ impl_root.l0.step K _ _ _ = _
      simp only [impl_root.l0.step]
      have e0 : wr .i64 ((h : Int) - (l : Int)) = (h : Int) - (l : Int) := wr64 (by omega) (by omega)
      rw [e0]
      by_cases hl : l + 1 < h
      · rw [decide_eq_true (show (h : Int) - (l : Int) > 1 by omega)]
        have e1 : wr .i64 ((l : Int) + (h : Int)) = ((l + h : Nat) : Int) := (wr64 (by omega) (by omega)).trans (by omega)
        have e3 : Int.tdiv ((l + h : Nat) : Int) 2 = (((l + h) / 2 : Nat) : Int) := by
          rw [Int.tdiv_eq_ediv_of_nonneg (by omega)]; omega
        rw [e1, e3]
        have hm : l < (l + h) / 2 ∧ (l + h) / 2 < h := by omega
        have hw : h - (l + h) / 2 ≤ 2 ^ e ∧ (l + h) / 2 - l ≤ 2 ^ e := by
          rw [Nat.pow_succ] at h1; omega
        generalize (l + h) / 2 = m at *
        have e4 : wr .i64 (m : Int) = m := wr64 (by omega) (by omega)
        have hmm : m * m ≤ 2147483648 * 2147483648 := Nat.mul_le_mul (by omega) (by omega)
        have e5 : (m : Int) * (m : Int) = ((m * m : Nat) : Int) := (Int.natCast_mul m m).symm
        have e6 : wr .i64 ((m * m : Nat) : Int) = ((m * m : Nat) : Int) := wr64 (by omega) (by omega)
        rw [e4, e5, e6]
        simp only [cond_true]
        by_cases hc : m * m ≤ v
        · rw [decide_eq_true (by omega)]
          exact ih k m h hw.1 (by omega) (by omega) hh hc h3
        · rw [decide_eq_false (by omega)]
          exact ih k l m hw.2 (by omega) (by omega) (by omega) h2 (by omega)
      · have : h = l + 1 := by omega
        subst this
        refine ⟨l, ⟨h2, h3⟩, ?_⟩
        rw [decide_eq_false (by omega)]
        rfl
  exact key 31 K 0 2147483648 (by decide) (by omega) (by omega) (by omega) (by omega) (by omega)

/-- The nearest in the box. -/
def clampI (x : Int) : Int := if x < -1000000000 then -1000000000 else if x > 1000000000 then 1000000000 else x
theorem clamp_s (K : Nat) (x : Int) : spec_FixClamp.f K (x, ()) = some ((clampI x, ()), ()) := by
  simp only [spec_FixClamp.f, spec_FixClamp.pre, spec_l1Box.f, spec_l1Box.pre, clampI]
  by_cases h : x < -1000000000
  · rw [decide_eq_true h, if_pos h]; rfl
  · rw [decide_eq_false h, if_neg h]
    by_cases h2 : x > 1000000000
    · rw [decide_eq_true h2, if_pos h2]; rfl
    · rw [decide_eq_false h2, if_neg h2]; rfl
theorem clamp_i (K : Nat) (x : Int) : impl_FixClamp.f K (x, ()) = some ((clampI x, ()), ()) := by
  simp only [impl_FixClamp.f, impl_FixClamp.pre, impl_clamp.f, impl_clamp.pre, clampI, Option.bind_some]
  by_cases h2 : x > 1000000000
  · rw [decide_eq_true (show (1000000000 : Int) < x by omega), if_neg (by omega : ¬ x < -1000000000), if_pos h2]; rfl
  · rw [decide_eq_false (show ¬ (1000000000 : Int) < x by omega)]
    simp only [cond_false]
    by_cases h : x < -1000000000
    · rw [decide_eq_false (show ¬ -1000000000 < x by omega), if_pos h]; rfl
    · rw [if_neg h, if_neg h2]
      by_cases h3 : -1000000000 < x
      · rw [decide_eq_true h3]; rfl
      · rw [decide_eq_false h3]
        have : x = -1000000000 := by omega
        rw [this]; rfl

theorem clamp_in (x : Int) : -1000000000 ≤ clampI x ∧ clampI x ≤ 1000000000 := by
  unfold clampI; split
  · omega
  · split <;> omega

theorem sq_in {a : Int} (h : -1000000000 ≤ a ∧ a ≤ 1000000000) : 0 ≤ a * a ∧ a * a ≤ 1000000000000000000 := by
  have e : ∃ b : Nat, b ≤ 1000000000 ∧ a * a = ((b * b : Nat) : Int) := by
    refine ⟨a.natAbs, by omega, ?_⟩
    exact (Int.natAbs_mul_self).symm
  obtain ⟨b, h1, h2⟩ := e
  have := Nat.mul_le_mul h1 h1
  omega

theorem norm_same (K : Nat) (x y : Int) (hK : 1048577 < K) : ∃ r, spec_FixNorm.f K (x, y, ()) = some ((r, ()), ()) ∧ impl_FixNorm.f K (x, y, ()) = some ((r, ()), ()) := by
  simp only [spec_FixNorm.f, spec_FixNorm.pre, impl_FixNorm.f, impl_FixNorm.pre]
  rw [clamp_s K x, clamp_s K y, clamp_i K x, clamp_i K y]
  simp only [Option.bind_some]
  have h1 := sq_in (clamp_in x); have h2 := sq_in (clamp_in y)
  generalize clampI x * clampI x = a at *
  generalize clampI y * clampI y = b at *
  have e1 : wr .i64 a = a := wr64 (by omega) (by omega)
  have e2 : wr .i64 b = b := wr64 (by omega) (by omega)
  have e3 : wr .i64 (a + b) = (((a + b).toNat : Nat) : Int) := (wr64 (by omega) (by omega)).trans (by omega)
  rw [e1, e2, e3]
  obtain ⟨r, r1, r2⟩ := root_s K (a + b).toNat (by omega) hK
  obtain ⟨s, s1, s2⟩ := root_i K (a + b).toNat (by omega) hK
  have : r = s := r1.eq s1
  subst this
  rw [r2, s2]
  simp only [Option.bind_some]
  rw [clamp_s K r, clamp_i K r]
  exact ⟨_, rfl, rfl⟩

theorem dist_same (K : Nat) (c d : Coord) (hK : 1048577 < K) : ∃ r, spec_CoordDist.f K (c, d, ()) = some ((r, ()), ()) ∧ impl_CoordDist.f K (c, d, ()) = some ((r, ()), ()) := by
  simp only [spec_CoordDist.f, spec_CoordDist.pre, impl_CoordDist.f, impl_CoordDist.pre]
  obtain ⟨b, h1, h2⟩ := coord_s K c
  obtain ⟨b', h3, h4⟩ := coord_i K c
  have : b = b' := by rw [Bool.eq_iff_iff, h2, h4]
  subst this
  rw [h1, h3]
  cases b with
  | false => exact ⟨_, rfl, rfl⟩
  | true =>
    simp only [Option.bind_some, Bool.not_true, cond_false]
    obtain ⟨b, h1, h2⟩ := coord_s K d
    obtain ⟨b', h3, h4⟩ := coord_i K d
    have : b = b' := by rw [Bool.eq_iff_iff, h2, h4]
    subst this
    rw [h1, h3]
    cases b with
    | false => exact ⟨_, rfl, rfl⟩
    | true =>
      simp only [Option.bind_some, Bool.not_true, cond_false]
      obtain ⟨r, h5, h6⟩ := norm_same K (wr .i64 (c.1 - d.1)) (wr .i64 (c.2.1 - d.2.1)) hK
      rw [h5, h6]
      exact ⟨_, rfl, rfl⟩

theorem nodeTrip_same (K : Nat) (n : Node) (v : Int) (hn : NB n) (hK : 1048577 < K) : ∃ r : Int × Bool × Unit, spec_NodeTrip.f K (n, v, ()) = some (r, ()) ∧ impl_NodeTrip.f K (n, v, ()) = some (r, ()) := by
  have hl := hn.places
  obtain ⟨b, h1, h2⟩ := nodeOk_s K n hn hK
  have h3 : impl_NodeOk.f K (n, ()) = rb b := by
    obtain ⟨b', h4, h5⟩ := nodeOk_i K n hn hK
    have : b = b' := by rw [Bool.eq_iff_iff, h2, h5]
    rw [this]; exact h4
  simp only [spec_NodeTrip.f, spec_NodeTrip.pre, impl_NodeTrip.f, impl_NodeTrip.pre]
  rw [h1]
  have hi := iter_first (step := fun rec a => slices_IndexFunc_impl_Place_impl_Place.l0.step K (Node.places n, (fun y1 => (impl_NodeTrip_1.f K (y1.1, v, ())).map fun y => y.1.1), ()) rec a) (Node.places n).length (fun i => (i : Int)) (fun j => ∃ h : j < (Node.places n).length, (Node.places n)[j].1 = v) (some ((-1, ()), ())) (fun j => some ((((j : Nat) : Int), ()), ())) ?_ ?_ (Node.places n).length K 0 (by omega) (by omega)
  · have hs := iter_first (step := fun rec a => spec_NodeTrip.l0.step K (n, v, ()) rec a) (Node.places n).length (fun i => (i : Int)) (fun j => ∃ h : j < (Node.places n).length, (Node.places n)[j].1 = v) (some ((0, false, ()), ()))
      (fun j => (idx (Node.places n) (j : Int)).bind fun y3 => (spec_CoordDist.f K (Node.coord n, y3.2.1, ())).bind fun y4 => some ((y4.1.1, true, ()), ())) (by
        intro rec i hi
        show _ ∨ _
        simp only [spec_NodeTrip.l0.step]
        rw [decide_eq_true (show (i : Int) < (List.length (Node.places n) : Int) by omega), idx_get hi, wr_succ i (by omega)]
        simp only [cond_true, Option.bind_some]
        by_cases h : (Node.places n)[i].1 = v
        · have e : ((Node.places n)[i].1 == v) = true := by simpa using h
          rw [e]
          exact .inr ⟨⟨hi, h⟩, rfl⟩
        · have e : ((Node.places n)[i].1 == v) = false := by simpa using h
          rw [e]
          exact .inl ⟨fun ⟨_, h2⟩ => h h2, rfl⟩) (by
        intro rec
        simp only [spec_NodeTrip.l0.step, decNl]
        rfl) (Node.places n).length K 0 (by omega) (by omega)
    rcases hi with ⟨i1, i2⟩ | ⟨j, _, j1, j2, j3, j4⟩
    · have e : slices_IndexFunc_impl_Place_impl_Place.f K (Node.places n, (fun y1 => (impl_NodeTrip_1.f K (y1.1, v, ())).map fun y => y.1.1), ()) = some ((-1, ()), ()) := i2
      rw [e]
      refine ⟨(0, false, ()), ?_, rfl⟩
      simp only [Option.bind_some]
      cases b with
      | false => rfl
      | true =>
        rcases hs with ⟨_, s2⟩ | ⟨j', _, s1, s2, _⟩
        · exact s2
        · exact absurd s2 (i1 j' (Nat.zero_le _) s1)
    · have e : slices_IndexFunc_impl_Place_impl_Place.f K (Node.places n, (fun y1 => (impl_NodeTrip_1.f K (y1.1, v, ())).map fun y => y.1.1), ()) = some ((((j : Nat) : Int), ()), ()) := j4
      rw [e]
      simp only [Option.bind_some]
      rw [show decide (((j : Nat) : Int) < 0) = false from decide_eq_false (by omega), h3]
      simp only [cond_false, Option.bind_some]
      cases b with
      | false => exact ⟨(0, false, ()), rfl, rfl⟩
      | true =>
        simp only [Bool.not_true, cond_false]
        rw [idx_get j1]
        simp only [Option.bind_some]
        rcases hs with ⟨s1, _⟩ | ⟨j', _, s1, s2, s3, s4⟩
        · exact absurd j2 (s1 j (Nat.zero_le _) j1)
        · have hj : j = j' := by
            rcases Nat.lt_trichotomy j j' with h | h | h
            · exact absurd j2 (s3 j (Nat.zero_le _) h)
            · exact h
            · exact absurd s2 (j3 j' (Nat.zero_le _) h)
          subst hj
          rw [idx_get j1] at s4
          simp only [Option.bind_some] at s4
          obtain ⟨r, r1, r2⟩ := dist_same K (Node.coord n) (Node.places n)[j].2.1 hK
          rw [r1] at s4
          refine ⟨_, s4, ?_⟩
          rw [show impl_CoordDist.f K (n.2.2.2.2.2.2.2.2.2.2.2.2.1, (Node.places n)[j].2.1, ()) = _ from r2]
          rfl
  · intro rec i hi
    simp only [slices_IndexFunc_impl_Place_impl_Place.l0.step]
    rw [decide_eq_true (show (i : Int) < (List.length (Node.places n) : Int) by omega), idx_get hi, wr_succ i (by omega)]
    simp only [cond_true, Option.bind_some, impl_NodeTrip_1.f, impl_NodeTrip_1.pre, Option.map_some]
    by_cases h : (Node.places n)[i].1 = v
    · have e : ((Node.places n)[i].1 == v) = true := by simpa using h
      rw [e]
      exact .inr ⟨⟨hi, h⟩, rfl⟩
    · have e : ((Node.places n)[i].1 == v) = false := by simpa using h
      rw [e]
      exact .inl ⟨fun ⟨_, h2⟩ => h h2, rfl⟩
  · intro rec
    simp only [slices_IndexFunc_impl_Place_impl_Place.l0.step, decNl]
    rfl

theorem law_NodeTrip (K : Nat) (n : Node) (v : Int) (hn : NM n) (hK : 1048577 < K) : laws_FnExactNodeTrip.f K (n, v, ()) = some ((true, ()), ()) := by
  simp only [laws_FnExactNodeTrip.f, laws_FnExactNodeTrip.pre]
  obtain ⟨r, h1, h2⟩ := szNode_ok K n hn 1048576 (by omega) (by omega) hK
  rw [h1, Option.bind_some]
  rcases h2 with h2 | ⟨h2, _, hb⟩
  · rw [decide_eq_true h2]; rfl
  · rw [show decide (r < 0) = false from decide_eq_false (by omega)]
    obtain ⟨y, h3, h4⟩ := nodeTrip_same K n v hb hK
    simp only [cond_false, toNode_ok K n hb hK, Option.bind_some]
    rw [h3]
    simp only [Option.bind_some]
    rw [h4]
    simp only [Option.bind_some, bne_self_eq_false, cond_false]
    rw [eqNode_refl K n hb hK]
    rfl

end Go.Proofs.YthgnfidnmnkeaaaGreatEv
