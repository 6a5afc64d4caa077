/- FnExactViewCount: the plain law. -/
import Derived.Test.YtdjmnbdicpgmiaaFns
import Derived.Laws.MakeOwn
namespace Go.Proofs.YtdjmnbdicpgmiaaEv
open Go Go.Proofs

theorem wr64 {n : Int} (h0 : -9223372036854775808 ≤ n) (h1 : n ≤ 9223372036854775807) : wr .i64 n = n := by
  show IntKind.i64.wrap n = n
  rw [IntKind.wrap_i64]
  omega

theorem idx_nat {α : Type} (xs : List α) (i : Nat) : idx xs (i : Int) = xs[i]? := by
  unfold idx
  rw [if_neg (by omega)]
  simp

theorem idx_get {α : Type} {xs : List α} {i : Nat} (h : i < xs.length) : idx xs (i : Int) = some xs[i] := by
  rw [idx_nat, List.getElem?_eq_getElem h]

theorem factOk_same (K : Nat) (y : Ty.den t2) : impl_FactOk.f K (y, ()) = spec_FactOk.f K (y, ()) := by
  simp only [impl_FactOk.f, impl_FactOk.pre, spec_FactOk.f, spec_FactOk.pre, impl_isNode.f, impl_isNode.pre, impl_in.f, impl_in.pre, spec_l1In.f, spec_l1In.pre]
  cases decide (y.1 ≥ 0) <;> rfl

theorem factOk_some (K : Nat) (y : Ty.den t2) : ∃ b, spec_FactOk.f K (y, ()) = some ((b, ()), ()) := by
  simp only [spec_FactOk.f, spec_FactOk.pre, spec_l1In.f, spec_l1In.pre]
  cases decide (y.1 ≥ 0) <;> cases decide (y.1 ≤ 7) <;> cases decide (y.2.1 ≥ 0) <;> cases decide (y.2.1 ≤ 999) <;> cases decide (y.2.2.1 ≥ 1) <;> cases decide (y.2.2.1 ≤ 4) <;> exact ⟨_, rfl⟩

theorem tableOk_same (K : Nat) (xs : List (Ty.den t2)) : impl_TableOk.f K (xs, ()) = spec_TableOk.f K (xs, ()) := by
  have key : ∀ (k : Nat) (i : Int), iterate (fun rec_l0 a => impl_TableOk.l0.step K rec_l0 a) k (xs, false, xs, (List.length xs : Int), i) = iterate (fun rec_l0 a => spec_TableOk.l0.step K rec_l0 a) k (xs, false, i) := by
    intro k
    induction k with
    | zero => intro i; rfl
    | succ k ih =>
      intro i
      show impl_TableOk.l0.step K (iterate (fun rec_l0 a => impl_TableOk.l0.step K rec_l0 a) k) (xs, false, xs, (List.length xs : Int), i) = spec_TableOk.l0.step K (iterate (fun rec_l0 a => spec_TableOk.l0.step K rec_l0 a) k) (xs, false, i)
      generalize iterate (fun rec_l0 a => impl_TableOk.l0.step K rec_l0 a) k = r1 at ih ⊢
      generalize iterate (fun rec_l0 a => spec_TableOk.l0.step K rec_l0 a) k = r2 at ih ⊢
      simp only [impl_TableOk.l0.step, spec_TableOk.l0.step]
      cases decide (i < (List.length xs : Int)) with
      | false => rfl
      | true =>
        simp only [cond_true]
        cases hy : idx xs i with
        | none => rfl
        | some y =>
          simp only [Option.bind_some]
          obtain ⟨b, hb⟩ := factOk_some K y
          have hb' : impl_FactOk.f K (y, ()) = some ((b, ()), ()) := (factOk_same K y).trans hb
          rw [hb, hb']
          simp only [Option.bind_some]
          cases b with
          | false => rfl
          | true =>
            simp only [Bool.not_true, cond_false, ih]
  exact key K 0

theorem tableOk_some (K : Nat) (xs : List (Ty.den t2)) (hx : xs.length ≤ 1048576) (hK : xs.length < K) : ∃ b, spec_TableOk.f K (xs, ()) = some ((b, ()), ()) := by
  have key : ∀ (n k i : Nat), i + n = xs.length → n < k → ∃ b, iterate (fun rec_l0 a => spec_TableOk.l0.step K rec_l0 a) k (xs, false, (i : Int)) = some ((b, ()), ()) := by
    intro n
    induction n with
    | zero =>
      intro k i hi hk
      obtain ⟨k, rfl⟩ : ∃ k', k = k' + 1 := ⟨k - 1, by omega⟩
      refine ⟨true, ?_⟩
      show spec_TableOk.l0.step K (iterate (fun rec_l0 a => spec_TableOk.l0.step K rec_l0 a) k) (xs, false, (i : Int)) = _
      simp only [spec_TableOk.l0.step]
      rw [decide_eq_false (by omega)]
      rfl
    | succ n ih =>
      intro k i hi hk
      obtain ⟨k, rfl⟩ : ∃ k', k = k' + 1 := ⟨k - 1, by omega⟩
      have ih := ih k (i + 1) (by omega) (by omega)
      show ∃ b, spec_TableOk.l0.step K (iterate (fun rec_l0 a => spec_TableOk.l0.step K rec_l0 a) k) (xs, false, (i : Int)) = some ((b, ()), ())
      generalize iterate (fun rec_l0 a => spec_TableOk.l0.step K rec_l0 a) k = r1 at ih ⊢
      simp only [spec_TableOk.l0.step]
      rw [decide_eq_true (by omega : (i : Int) < (List.length xs : Int)), idx_get (by omega : i < xs.length)]
      simp only [cond_true, Option.bind_some]
      obtain ⟨b, hb⟩ := factOk_some K xs[i]
      rw [hb]
      simp only [Option.bind_some]
      have hw : wr .i64 ((i : Int) + 1) = ((i + 1 : Nat) : Int) := by rw [wr64 (by omega) (by omega)]; omega
      rw [hw]
      cases b with
      | false => exact ⟨_, rfl⟩
      | true =>
        simp only [Bool.not_true, cond_false]
        by_cases h0 : (i : Int) > 0
        · rw [decide_eq_true h0]
          have hw2 : wr .i64 ((i : Int) - 1) = ((i - 1 : Nat) : Int) := by rw [wr64 (by omega) (by omega)]; omega
          rw [hw2, idx_get (by omega : i - 1 < xs.length)]
          simp only [cond_true, Option.bind_some]
          cases decide ((xs[i - 1]'(by omega)).1 ≥ xs[i].1) with
          | true => exact ⟨_, rfl⟩
          | false => exact ih
        · rw [decide_eq_false h0]
          exact ih
  exact key xs.length K 0 (by omega) hK

theorem toFactS_ok (K : Nat) (xs : List (Ty.den t2)) (hx : xs.length ≤ 1048576) (hK : xs.length < K) : laws_toFactS.f K (xs, ()) = some ((xs, ()), ()) := by
  have key : ∀ (n k i : Nat), i + n = xs.length → n < k →
      iterate (fun rec_l0 a => laws_toFactS.l0.step K rec_l0 a) k (xs, xs.take i ++ List.replicate n (0, (0, (0, false))), (i : Int)) = some ((xs, ()), ()) := by
    intro n
    induction n with
    | zero =>
      intro k i hi hk
      obtain ⟨k, rfl⟩ : ∃ k', k = k' + 1 := ⟨k - 1, by omega⟩
      show laws_toFactS.l0.step K (iterate (fun rec_l0 a => laws_toFactS.l0.step K rec_l0 a) k) _ = _
      simp only [laws_toFactS.l0.step]
      rw [decide_eq_false (by omega)]
      simp only [cond_false, List.replicate_zero, List.append_nil]
      rw [List.take_of_length_le (by omega)]
    | succ n ih =>
      intro k i hi hk
      obtain ⟨k, rfl⟩ : ∃ k', k = k' + 1 := ⟨k - 1, by omega⟩
      have ih := ih k (i + 1) (by omega) (by omega)
      show laws_toFactS.l0.step K (iterate (fun rec_l0 a => laws_toFactS.l0.step K rec_l0 a) k) _ = _
      generalize iterate (fun rec_l0 a => laws_toFactS.l0.step K rec_l0 a) k = r1 at ih ⊢
      simp only [laws_toFactS.l0.step]
      have hw : wr .i64 ((i : Int) + 1) = ((i + 1 : Nat) : Int) := by rw [wr64 (by omega) (by omega)]; omega
      have hlen : i < (xs.take i ++ List.replicate (n + 1) ((0, (0, (0, false))) : Ty.den t2)).length := by simp; omega
      rw [decide_eq_true (by omega : (i : Int) < (List.length xs : Int)), idx_get (by omega : i < xs.length), hw]
      simp only [cond_true, Option.bind_some, laws_toFact.f, laws_toFact.pre, Int.toNat_natCast]
      rw [idx_get hlen]
      simp only [Option.bind_some]
      have e : (xs.take i ++ List.replicate (n + 1) ((0, (0, (0, false))) : Ty.den t2)).set i xs[i] = xs.take (i + 1) ++ List.replicate n (0, (0, (0, false))) := by
        rw [List.set_append_right _ _ (by simp; omega)]
        have : i - (xs.take i).length = 0 := by simp; omega
        rw [this, List.replicate_succ, List.set_cons_zero]
        have e0 : xs.take (i + 1) = xs.take i ++ [xs[i]] := by
          rw [List.take_add_one, List.getElem?_eq_getElem (by omega : i < xs.length)]
          rfl
        rw [e0, List.append_assoc]
        rfl
      rw [← e] at ih
      exact ih
  simp only [laws_toFactS.f, laws_toFactS.pre]
  rw [decide_eq_true (by omega : (0 : Int) ≤ (List.length xs : Int))]
  have hs : decide ((List.length xs : Int) * (32 : Nat) ≤ sizeK) = true := decide_eq_true (by simp only [sizeK]; omega)
  rw [hs]
  simp only [decide_true, Bool.and_self, cond_true, Int.toNat_natCast]
  exact key xs.length K 0 (by omega) hK

theorem count_ok (K : Nat) (xs : List (Ty.den t2)) (v : Int) (hx : xs.length ≤ 1048576) : ∀ (n k i : Nat) (out : List Int), i + n = xs.length → n < k → out.length ≤ i →
    ∃ ys : List Int, iterate (fun rec_l0 a => impl_nodes.l0.step K rec_l0 a) k (fun y2 => (impl_ViewCount_1.f K (y2.1, v, ())).map fun y => y.1.1, out, xs, (List.length xs : Int), (i : Int)) = some ((ys, ()), ()) ∧
      iterate (fun rec_l0 a => spec_ViewCount.l0.step K rec_l0 a) k (xs, v, 0, (out.length : Int), (i : Int)) = some (((ys.length : Int), ()), ()) := by
  intro n
  induction n with
  | zero =>
    intro k i out hi hk ho
    obtain ⟨k, rfl⟩ : ∃ k', k = k' + 1 := ⟨k - 1, by omega⟩
    refine ⟨out, ?_, ?_⟩
    · show impl_nodes.l0.step K (iterate (fun rec_l0 a => impl_nodes.l0.step K rec_l0 a) k) _ = _
      simp only [impl_nodes.l0.step]
      rw [decide_eq_false (by omega)]
      rfl
    · show spec_ViewCount.l0.step K (iterate (fun rec_l0 a => spec_ViewCount.l0.step K rec_l0 a) k) _ = _
      simp only [spec_ViewCount.l0.step]
      rw [decide_eq_false (by omega)]
      rfl
  | succ n ih =>
    intro k i out hi hk ho
    obtain ⟨k, rfl⟩ : ∃ k', k = k' + 1 := ⟨k - 1, by omega⟩
    have ih := fun out ho => ih k (i + 1) out (by omega) (by omega) ho
    show ∃ ys : List Int, impl_nodes.l0.step K (iterate (fun rec_l0 a => impl_nodes.l0.step K rec_l0 a) k) _ = _ ∧ spec_ViewCount.l0.step K (iterate (fun rec_l0 a => spec_ViewCount.l0.step K rec_l0 a) k) _ = _
    generalize iterate (fun rec_l0 a => impl_nodes.l0.step K rec_l0 a) k = r1 at ih ⊢
    generalize iterate (fun rec_l0 a => spec_ViewCount.l0.step K rec_l0 a) k = r2 at ih ⊢
    simp only [impl_nodes.l0.step, spec_ViewCount.l0.step]
    have hw : wr .i64 ((i : Int) + 1) = ((i + 1 : Nat) : Int) := by rw [wr64 (by omega) (by omega)]; omega
    rw [decide_eq_true (by omega : (i : Int) < (List.length xs : Int)), idx_get (by omega : i < xs.length), hw]
    simp only [cond_true, Option.bind_some, impl_ViewCount_1.f, impl_ViewCount_1.pre, Option.map_some]
    cases hb : (xs[i].2.2.1 == v) with
    | false =>
      simp only [cond_false]
      exact ih out (by omega)
    | true =>
      simp only [cond_true]
      have hs : decide ((List.length out + List.length ([xs[i].1])) * 8 ≤ sizeK) = true := decide_eq_true (by simp only [sizeK, List.length_singleton]; omega)
      rw [hs]
      simp only [cond_true]
      have hw2 : wr .i64 ((out.length : Int) + 1) = (((out ++ [xs[i].1]).length : Nat) : Int) := by rw [wr64 (by omega) (by omega)]; simp
      rw [hw2]
      exact ih (out ++ [xs[i].1]) (by simp; omega)

theorem eqFactS_same (K : Nat) (xs : List (Ty.den t2)) (hx : xs.length ≤ 1048576) (hK : xs.length < K) : laws_eqFactS.f K (xs, xs, ()) = some ((true, ()), ()) := by
  have key : ∀ (n k i : Nat), i + n = xs.length → n < k → iterate (fun rec_l0 a => laws_eqFactS.l0.step K rec_l0 a) k (xs, xs, false, (i : Int)) = some ((true, ()), ()) := by
    intro n
    induction n with
    | zero =>
      intro k i hi hk
      obtain ⟨k, rfl⟩ : ∃ k', k = k' + 1 := ⟨k - 1, by omega⟩
      show laws_eqFactS.l0.step K (iterate (fun rec_l0 a => laws_eqFactS.l0.step K rec_l0 a) k) _ = _
      simp only [laws_eqFactS.l0.step]
      rw [decide_eq_false (by omega)]
      rfl
    | succ n ih =>
      intro k i hi hk
      obtain ⟨k, rfl⟩ : ∃ k', k = k' + 1 := ⟨k - 1, by omega⟩
      have ih := ih k (i + 1) (by omega) (by omega)
      show laws_eqFactS.l0.step K (iterate (fun rec_l0 a => laws_eqFactS.l0.step K rec_l0 a) k) _ = _
      generalize iterate (fun rec_l0 a => laws_eqFactS.l0.step K rec_l0 a) k = r1 at ih ⊢
      simp only [laws_eqFactS.l0.step]
      have hw : wr .i64 ((i : Int) + 1) = ((i + 1 : Nat) : Int) := by rw [wr64 (by omega) (by omega)]; omega
      rw [decide_eq_true (by omega : (i : Int) < (List.length xs : Int)), idx_get (by omega : i < xs.length), hw]
      simp only [cond_true, Option.bind_some, laws_eqFact.f, laws_eqFact.pre, bne_self_eq_false, cond_false, Bool.not_true]
      exact ih
  simp only [laws_eqFactS.f, laws_eqFactS.pre, bne_self_eq_false, cond_false]
  exact key xs.length K 0 (by omega) hK

/-- THE LAW. -/
theorem law_ViewCount (xs : List (Ty.den t2)) (v : Int) (hlen : xs.length ≤ 9223372036854775807) (K : Nat) (hK : xs.length < K) : laws_FnExactViewCount.f K (xs, v, ()) = some ((true, ()), ()) := by
  by_cases hx : xs.length ≤ 1048576
  · have hsz : ∃ n : Int, laws_szFactS.f K (xs, 1048576, ()) = some ((n, ()), ()) ∧ ¬ n < 0 := by
      simp only [laws_szFactS.f, laws_szFactS.pre]
      rw [wr64 (by omega) (by omega), decide_eq_false (by omega)]
      exact ⟨_, rfl, by omega⟩
    obtain ⟨n, hn, hn0⟩ := hsz
    obtain ⟨b, hb⟩ := tableOk_some K xs hx hK
    have hb' : impl_TableOk.f K (xs, ()) = some ((b, ()), ()) := (tableOk_same K xs).trans hb
    obtain ⟨ys, hy1, hy2⟩ := count_ok K xs v hx xs.length K 0 [] (by omega) hK (by simp)
    have hc : ∃ m : Int, spec_ViewCount.f K (xs, v, ()) = some ((m, ()), ()) ∧ impl_ViewCount.f K (xs, v, ()) = some ((m, ()), ()) := by
      simp only [spec_ViewCount.f, spec_ViewCount.pre, impl_ViewCount.f, impl_ViewCount.pre]
      rw [hb, hb']
      simp only [Option.bind_some]
      cases b with
      | false => exact ⟨0, rfl, rfl⟩
      | true =>
        simp only [Bool.not_true, cond_false]
        refine ⟨_, hy2, ?_⟩
        have : impl_nodes.f K (xs, fun y2 => (impl_ViewCount_1.f K (y2.1, v, ())).map fun y => y.1.1, ()) = some ((ys, ()), ()) := hy1
        rw [this]
        rfl
    obtain ⟨m, hm1, hm2⟩ := hc
    simp only [laws_FnExactViewCount.f, laws_FnExactViewCount.pre]
    rw [hn, toFactS_ok K xs hx hK]
    simp only [Option.bind_some]
    rw [decide_eq_false hn0]
    simp only [cond_false]
    rw [hm1, hm2, eqFactS_same K xs hx hK]
    simp
  · simp only [laws_FnExactViewCount.f, laws_FnExactViewCount.pre, laws_szFactS.f, laws_szFactS.pre]
    rw [wr64 (by omega) (by omega), decide_eq_true (by omega : (1048576 : Int) - (List.length xs : Int) < 0)]
    rfl

end Go.Proofs.YtdjmnbdicpgmiaaEv
