/- What is ok of facts, tables, casts: the program and the specification say the same. -/
import Derived.Test.YtdjmnbdicpgmiaaFns
import Derived.Test.YtdjmnbdicpgmiaaP0
namespace Go.Proofs.YtdjmnbdicpgmiaaEv
open Go
abbrev InP (n lo hi : Int) : Prop := lo ≤ n ∧ n ≤ hi
theorem in_i (K : Nat) (n lo hi : Int) : Ret (impl_in.f K (n, lo, hi, ())) (InP n lo hi) := by
  simp only [impl_in.f, impl_in.pre]
  exact Ret.cnd (by simp) fun _ => Ret.dec
theorem in_s (K : Nat) (n lo hi : Int) : Ret (spec_l1In.f K (n, lo, hi, ())) (InP n lo hi) := by
  simp only [spec_l1In.f, spec_l1In.pre]
  exact Ret.cnd (by simp) fun _ => Ret.dec
theorem Ret.id {o : Option RB} {P : Prop} (h : Ret o P) : Ret (o.bind fun y => some ((y.1.1, ()), ())) P := by
  obtain ⟨b, h1, h2⟩ := h
  exact ⟨b, by rw [h1]; rfl, h2⟩
theorem Ret.neg {o : Option RB} {P : Prop} (h : Ret o P) : Ret (o.bind fun y => some ((!y.1.1, ()), ())) (¬ P) := by
  obtain ⟨b, h1, h2⟩ := h
  exact ⟨!b, by rw [h1]; rfl, by cases b <;> simp_all⟩
def FactP (f : Fact) : Prop := InP f.1 0 7 ∧ InP f.2.1 0 999 ∧ InP f.2.2.1 1 4
theorem isNode_i (K : Nat) (n : Int) : Ret (impl_isNode.f K (n, ())) (InP n 0 7) := (in_i K n 0 7).id
theorem factOk_i (K : Nat) (f : Fact) : Ret (impl_FactOk.f K (f, ())) (FactP f) :=
  Ret.and (isNode_i K f.1) (fun _ => Ret.and (in_i K f.2.1 0 999) (fun _ => (in_i K f.2.2.1 1 4).id) rfl) rfl
theorem factOk_s (K : Nat) (f : Fact) : Ret (spec_FactOk.f K (f, ())) (FactP f) :=
  Ret.and (in_s K f.1 0 7) (fun _ => Ret.and (in_s K f.2.1 0 999) (fun _ => (in_s K f.2.2.1 1 4).id) rfl) rfl
def TableP (t : List Fact) : Prop := (∀ f ∈ t, FactP f) ∧ Asc (fun f : Fact => f.1) t
theorem table_at {t : List Fact} : TableP t ↔ ∀ j, j < t.length → ∃ h : j < t.length, FactP t[j] ∧ (0 < j → (t[j - 1]'(by omega)).1 < t[j].1) := by
  unfold TableP
  rw [all_get, asc_adj]
  constructor
  · rintro ⟨h1, h2⟩ j hj
    exact ⟨hj, h1 j hj, fun h0 => h2 j hj h0⟩
  · intro h
    exact ⟨fun i hi => (h i hi).2.1, fun i hi h0 => (h i hi).2.2 h0⟩
theorem true_and' {P : Prop} : (P ∧ True) ↔ P := by simp
theorem tableOk_s (K : Nat) (t : List Fact) (ht : t.length ≤ 1048576) (hK : 1048577 < K) : Ret (spec_TableOk.f K (t, ())) (TableP t) := by
  refine Ret.iff (ret_all (step := fun rec a => spec_TableOk.l0.step K (t, ()) rec a) t.length (fun i => (i : Int)) (fun j => ∃ h : j < t.length, FactP t[j] ∧ (0 < j → (t[j - 1]'(by omega)).1 < t[j].1)) (Q := True) (rt := rb true) ?_ ?_ (by omega) (fun _ => Ret.yes trivial)) (true_and'.trans table_at.symm)
  · intro rec i hi
    simp only [spec_TableOk.l0.step]
    rw [decide_eq_true (by omega : (i : Int) < (List.length t : Int)), idx_get hi, wr_succ i (by omega)]
    simp only [cond_true, Option.bind_some]
    obtain ⟨b, h1, h2⟩ := factOk_s K t[i]
    rw [h1]
    simp only [Option.bind_some]
    cases b with
    | false => exact .inr ⟨fun ⟨_, h3, _⟩ => by simpa using h2.2 h3, rfl⟩
    | true =>
      simp only [Bool.not_true, cond_false]
      by_cases h0 : (i : Int) > 0
      · rw [decide_eq_true h0, wr_pred i (by omega) (by omega), idx_get (by omega : i - 1 < t.length)]
        simp only [cond_true, Option.bind_some]
        by_cases h3 : (t[i - 1]'(by omega)).1 ≥ t[i].1
        · rw [decide_eq_true h3]
          exact .inr ⟨fun ⟨_, _, h4⟩ => by have := h4 (by omega); omega, rfl⟩
        · rw [decide_eq_false h3]
          exact .inl ⟨⟨hi, h2.1 rfl, fun _ => by omega⟩, rfl⟩
      · rw [decide_eq_false h0]
        exact .inl ⟨⟨hi, h2.1 rfl, fun _ => by omega⟩, rfl⟩
  · intro rec
    simp only [spec_TableOk.l0.step]
    rw [decide_eq_false (by omega : ¬ ((t.length : Int) < (List.length t : Int)))]
    rfl
theorem tableOk_i (K : Nat) (t : List Fact) (ht : t.length ≤ 1048576) (hK : 1048577 < K) : Ret (impl_TableOk.f K (t, ())) (TableP t) := by
  refine Ret.iff (ret_all (step := fun rec a => impl_TableOk.l0.step K (t, ()) rec a) t.length (fun i => (i : Int)) (fun j => ∃ h : j < t.length, FactP t[j] ∧ (0 < j → (t[j - 1]'(by omega)).1 < t[j].1)) (Q := True) (rt := rb true) ?_ ?_ (by omega) (fun _ => Ret.yes trivial)) (true_and'.trans table_at.symm)
  · intro rec i hi
    simp only [impl_TableOk.l0.step]
    rw [decide_eq_true (by omega : (i : Int) < (List.length t : Int)), idx_get hi, wr_succ i (by omega)]
    simp only [cond_true, Option.bind_some]
    obtain ⟨b, h1, h2⟩ := factOk_i K t[i]
    rw [h1]
    simp only [Option.bind_some]
    cases b with
    | false => exact .inr ⟨fun ⟨_, h3, _⟩ => by simpa using h2.2 h3, rfl⟩
    | true =>
      simp only [Bool.not_true, cond_false]
      by_cases h0 : (i : Int) > 0
      · rw [decide_eq_true h0, wr_pred i (by omega) (by omega), idx_get (by omega : i - 1 < t.length)]
        simp only [cond_true, Option.bind_some]
        by_cases h3 : t[i].1 ≤ (t[i - 1]'(by omega)).1
        · rw [decide_eq_true h3]
          exact .inr ⟨fun ⟨_, _, h4⟩ => by have := h4 (by omega); omega, rfl⟩
        · rw [decide_eq_false h3]
          exact .inl ⟨⟨hi, h2.1 rfl, fun _ => by omega⟩, rfl⟩
      · rw [decide_eq_false h0]
        exact .inl ⟨⟨hi, h2.1 rfl, fun _ => by omega⟩, rfl⟩
  · intro rec
    simp only [impl_TableOk.l0.step]
    rw [decide_eq_false (by omega : ¬ ((t.length : Int) < (List.length t : Int)))]
    rfl
inductive Found (t : List Fact) (node : Int) : Option Nat → Prop where
  | at_ (i : Nat) (h : i < t.length) (e : t[i].1 = node) : Found t node (some i)
  | no (h : ∀ f ∈ t, f.1 ≠ node) : Found t node none
theorem find_s (K : Nat) (t : List Fact) (node : Int) (ht : t.length ≤ 1048576) (hK : 1048577 < K) :
    ∃ o, Found t node o ∧ spec_l3Find.f K (t, node, ()) = some (((match o with | some i => ((i : Nat) : Int) | none => -1), ()), ()) := by
  have := iter_first (step := fun rec a => spec_l3Find.l0.step K (t, node, ()) rec a) t.length (fun i => (i : Int)) (fun j => ∃ h : j < t.length, t[j].1 = node) (some ((-1, ()), ())) (fun j => some ((((j : Nat) : Int), ()), ())) ?_ ?_ t.length K 0 (by omega) (by omega)
  · rcases this with ⟨h1, h2⟩ | ⟨j, _, h1, ⟨h3, h4⟩, _, h2⟩
    · refine ⟨none, .no ?_, h2⟩
      rw [all_get]
      exact fun i hi e => h1 i (Nat.zero_le _) hi ⟨hi, e⟩
    · exact ⟨some j, .at_ j h3 h4, h2⟩
  · intro rec i hi
    simp only [spec_l3Find.l0.step]
    rw [decide_eq_true (by omega : (i : Int) < (List.length t : Int)), idx_get hi, wr_succ i (by omega)]
    simp only [cond_true, Option.bind_some]
    by_cases h : t[i].1 = node
    · right
      refine ⟨⟨hi, h⟩, ?_⟩
      have : (t[i].1 == node) = true := by simpa using h
      rw [this]
      rfl
    · left
      refine ⟨fun ⟨_, h1⟩ => h h1, ?_⟩
      have : (t[i].1 == node) = false := by simpa using h
      rw [this]
      rfl
  · intro rec
    simp only [spec_l3Find.l0.step]
    rw [decide_eq_false (by omega : ¬ ((t.length : Int) < (List.length t : Int)))]
    rfl
def cmp3 (a b : Int) : Int := if a < b then -1 else if a > b then 1 else 0
theorem cmp_int (K : Nat) (a b : Int) : cmp_Compare_int.f K (a, b, ()) = some ((cmp3 a b, ()), ()) := by
  have hn : ∀ x : Int, cmp_isNaN_int.f K (x, ()) = rb false := fun x => by simp [cmp_isNaN_int.f, cmp_isNaN_int.pre]
  simp only [cmp_Compare_int.f, cmp_Compare_int.pre, hn, Option.bind_some, cond_false, cmp3]
  by_cases h1 : a < b
  · rw [decide_eq_true h1, if_pos h1]; rfl
  · rw [decide_eq_false h1, if_neg h1]
    by_cases h2 : a > b
    · rw [decide_eq_true h2, if_pos h2]; rfl
    · rw [decide_eq_false h2, if_neg h2]; rfl
theorem cmp_sign (a b : Int) : cmp3 a b < 0 ↔ a < b := by
  unfold cmp3
  by_cases h1 : a < b
  · simp [h1]
  · by_cases h2 : a > b <;> simp [h1, h2]
theorem cmp_pos (a b : Int) : cmp3 a b > 0 ↔ a > b := by
  unfold cmp3
  by_cases h1 : a < b
  · simp [h1]; omega
  · by_cases h2 : a > b <;> simp [h1, h2]
theorem cmp_zero (a b : Int) : cmp3 a b = 0 ↔ a = b := by
  unfold cmp3
  by_cases h1 : a < b
  · simp [h1]; omega
  · by_cases h2 : a > b <;> simp [h1, h2] <;> omega
structure Cut (t : List Fact) (node : Int) (m : Nat) : Prop where
  le : m ≤ t.length
  lo : ∀ i, (h : i < t.length) → i < m → t[i].1 < node
  hi : ∀ i, (h : i < t.length) → m ≤ i → node ≤ t[i].1
theorem find_i (K : Nat) (t : List Fact) (node : Int) (ht : t.length ≤ 1048576) (hasc : Asc (fun f : Fact => f.1) t) (hK : 1048577 < K) :
    ∃ m, Cut t node m ∧ impl_find.f K (t, node, ()) = some ((((m : Nat) : Int), decide (∃ h : m < t.length, t[m].1 = node), ()), ()) := by
  let ks : Nat → Int := fun i => if h : i < t.length then t[i].1 else 0
  have hks : ∀ i (h : i < t.length), ks i = t[i].1 := fun i h => by simp [ks, h]
  let fin : Nat → Option ((Int × Bool × Unit) × Unit) := fun m => some ((((m : Nat) : Int), decide (∃ h : m < t.length, t[m].1 = node), ()), ())
  have φ : ∀ f : Fact, ((impl_find_1.f K (f, node, ())).map fun y => y.1.1) = some (cmp3 f.1 node) := fun f => by
    simp only [impl_find_1.f, impl_find_1.pre]
    rw [cmp_int]
    rfl
  have := halves (step := fun rec a => slices_BinarySearchFunc_impl_Fact_impl_Fact_int.l0.step K (t, node, (fun y1 => (impl_find_1.f K (y1.1, y1.2.1, ())).map fun y => y.1.1), ()) rec a) (ks := ks) (n := t.length) (t := node) fin ht
    (fun i j hij hj => by
      rw [hks i (by omega), hks j hj]
      exact asc_get.1 hasc i j (by omega) hj hij) ?_ ?_ t.length K 0 t.length (by omega) (Nat.zero_le _) (Nat.le_refl _) (by omega) (fun i hi => by omega) (fun i hi hn => by omega)
  · obtain ⟨m, h1, h2, h3, h4⟩ := this
    refine ⟨m, ⟨h1, fun i h hi => by rw [← hks i h]; exact h2 i hi, fun i h hi => by rw [← hks i h]; exact h3 i hi h⟩, ?_⟩
    simp only [impl_find.f, impl_find.pre]
    have e : slices_BinarySearchFunc_impl_Fact_impl_Fact_int.f K (t, node, (fun y1 => (impl_find_1.f K (y1.1, y1.2.1, ())).map fun y => y.1.1), ()) = fin m := h4
    rw [e]
    rfl
  · intro rec a b hab hb
    have hm : (a + b) / 2 < t.length := by omega
    simp only [slices_BinarySearchFunc_impl_Fact_impl_Fact_int.l0.step]
    rw [decide_eq_true (by omega : (a : Int) < (b : Int)), half_ok (by omega)]
    simp only [cond_true]
    rw [idx_get hm]
    simp only [Option.bind_some, φ]
    rw [hks _ hm, wr_succ _ (by omega)]
    by_cases h : t[(a + b) / 2].1 < node
    · rw [if_pos h, decide_eq_true ((cmp_sign _ _).2 h)]; rfl
    · rw [if_neg h, decide_eq_false (fun h1 => h ((cmp_sign _ _).1 h1))]; rfl
  · intro rec a ha
    simp only [slices_BinarySearchFunc_impl_Fact_impl_Fact_int.l0.step]
    rw [decide_eq_false (by omega)]
    simp only [cond_false]
    by_cases h : a < t.length
    · rw [decide_eq_true (by omega : (a : Int) < (List.length t : Int)), idx_get h]
      simp only [cond_true, Option.bind_some, φ, fin]
      congr 3
      by_cases h1 : t[a].1 = node
      · have : (cmp3 t[a].1 node == 0) = true := by simpa using (cmp_zero t[a].1 node).2 h1
        rw [this, decide_eq_true ⟨h, h1⟩]
      · have : (cmp3 t[a].1 node == 0) = false := by
          rw [beq_eq_false_iff_ne]
          exact fun e => h1 ((cmp_zero _ _).1 e)
        rw [this, decide_eq_false (fun ⟨_, h2⟩ => h1 h2)]
    · rw [decide_eq_false (by omega)]
      simp only [cond_false, fin]
      rw [decide_eq_false (fun ⟨h1, _⟩ => h h1)]
end Go.Proofs.YtdjmnbdicpgmiaaEv
namespace Go.Proofs.YtdjmnbdicpgmiaaEv
open Go
@[reducible] def Node.cast (n : Node) : List Item := n.2.2.2.2.2.2.2.2.2.1
@[reducible] def Node.places (n : Node) : List Place := n.2.2.2.2.2.2.2.2.2.2.2.2.2.1
theorem Ret.fn {o : Option RB} {P : Prop} (h : Ret o P) : ∃ b, (o.map fun y => y.1.1) = some b ∧ (b = true ↔ P) := by
  obtain ⟨b, h1, h2⟩ := h
  exact ⟨b, by rw [h1]; rfl, h2⟩
theorem tableOf_i (K : Nat) (t : List Fact) (node : Int) (ht : t.length ≤ 1048576) (hK : 1048577 < K) :
    (¬ TableP t ∧ impl_TableOf.f K (t, node, ()) = some (((0, (0, (0, false))), false, ()), ())) ∨
    (TableP t ∧ ((∃ f ∈ t, f.1 = node ∧ impl_TableOf.f K (t, node, ()) = some ((f, true, ()), ())) ∨ ((∀ f ∈ t, f.1 ≠ node) ∧ impl_TableOf.f K (t, node, ()) = some (((0, (0, (0, false))), false, ()), ())))) := by
  simp only [impl_TableOf.f, impl_TableOf.pre]
  obtain ⟨b, h1, h2⟩ := tableOk_i K t ht hK
  rw [h1]
  simp only [Option.bind_some]
  cases b with
  | false => exact .inl ⟨fun h => by simpa using h2.2 h, rfl⟩
  | true =>
    have hT := h2.1 rfl
    obtain ⟨m, hm, h3⟩ := find_i K t node ht hT.2 hK
    refine .inr ⟨hT, ?_⟩
    simp only [Bool.not_true, cond_false, h3, Option.bind_some]
    by_cases h : ∃ h : m < t.length, t[m].1 = node
    · rw [decide_eq_true h]
      obtain ⟨h4, h5⟩ := h
      left
      refine ⟨t[m], List.getElem_mem h4, h5, ?_⟩
      simp only [Bool.not_true, cond_false]
      rw [idx_get h4]
      rfl
    · rw [decide_eq_false h]
      right
      refine ⟨?_, rfl⟩
      rw [all_get]
      intro i hi e
      rcases Nat.lt_trichotomy i m with h4 | h4 | h4
      · have := hm.lo i hi h4; omega
      · subst h4; exact h ⟨hi, e⟩
      · have h5 := hm.hi m (by omega) (Nat.le_refl _)
        have h6 := asc_get.1 hT.2 m i (by omega) hi h4
        omega
def Over (f g : Fact) : Prop := if f.2.1 ≠ g.2.1 then f.2.1 > g.2.1 else if f.2.2.1 ≠ g.2.2.1 then f.2.2.1 > g.2.2.1 else f.2.2.2 = true ∧ g.2.2.2 = false
theorem over_s (K : Nat) (f g : Fact) : Ret (spec_l3Over.f K (f, g, ())) (Over f g) := by
  simp only [spec_l3Over.f, spec_l3Over.pre, Over]
  by_cases h1 : f.2.1 = g.2.1
  · have e : (f.2.1 != g.2.1) = false := by simpa using h1
    rw [e, if_neg (by simpa using h1)]
    by_cases h2 : f.2.2.1 = g.2.2.1
    · have e : (f.2.2.1 != g.2.2.1) = false := by simpa using h2
      rw [e, if_neg (by simpa using h2)]
      exact (Ret.cnd (b := f.2.2.2) Iff.rfl (fun _ => Ret.of (b := !g.2.2.2) (by simp))).iff Iff.rfl
    · have e : (f.2.2.1 != g.2.2.1) = true := by simpa using h2
      rw [e, if_pos h2]
      exact Ret.dec
  · have e : (f.2.1 != g.2.1) = true := by simpa using h1
    rw [e, if_pos h1]
    exact Ret.dec
def orI : List Int → Int
  | [] => 0
  | x :: xs => if x ≠ 0 then x else orI xs
theorem or_int (K : Nat) (xs : List Int) (hx : xs.length ≤ 1048576) (hK : 1048577 < K) : cmp_Or_int.f K (xs, ()) = some ((orI xs, ()), ()) := by
  have key : ∀ (d k i : Nat), i + d = xs.length → d < k → iterate (fun rec a => cmp_Or_int.l0.step K (xs, ()) rec a) k (i : Int) = some ((orI (xs.drop i), ()), ()) := by
    intro d
    induction d with
    | zero =>
      intro k i hi hk
      obtain ⟨k, rfl⟩ : ∃ k', k = k' + 1 := ⟨k - 1, by omega⟩
      show cmp_Or_int.l0.step K (xs, ()) _ _ = _
      simp only [cmp_Or_int.l0.step]
      rw [decide_eq_false (by omega : ¬ ((i : Int) < (List.length xs : Int))), List.drop_of_length_le (by omega)]
      rfl
    | succ d ih =>
      intro k i hi hk
      obtain ⟨k, rfl⟩ : ∃ k', k = k' + 1 := ⟨k - 1, by omega⟩
      have ih := ih k (i + 1) (by omega) (by omega)
      show cmp_Or_int.l0.step K (xs, ()) _ _ = _
      simp only [cmp_Or_int.l0.step]
      have hi' : i < xs.length := by omega
      rw [decide_eq_true (by omega : (i : Int) < (List.length xs : Int)), idx_get hi', wr_succ i (by omega), List.drop_eq_getElem_cons hi']
      simp only [cond_true, Option.bind_some, orI]
      by_cases h : xs[i] = 0
      · have e : (xs[i] != 0) = false := by simpa using h
        rw [e, if_neg (by simpa using h)]
        exact ih
      · have e : (xs[i] != 0) = true := by simpa using h
        rw [e, if_pos h]
        rfl
  have := key xs.length K 0 (by omega) (by omega)
  rwa [List.drop_zero] at this
def cmpF (f g : Fact) : Int := orI [cmp3 f.1 g.1, cmp3 f.2.1 g.2.1, cmp3 f.2.2.1 g.2.2.1, if f.2.2.2 = true ∧ g.2.2.2 = false then 1 else if g.2.2.2 = true ∧ f.2.2.2 = false then -1 else 0]
theorem compare_i (K : Nat) (f g : Fact) (hK : 1048577 < K) : impl_Fact_compare.f K (f, g, ()) = some ((cmpF f g, ()), ()) := by
  obtain ⟨a, b, c, d⟩ := f
  obtain ⟨a', b', c', d'⟩ := g
  have h : ∀ z : Int, cmp_Or_int.f K ([cmp3 a a', cmp3 b b', cmp3 c c', z], ()) = some ((orI [cmp3 a a', cmp3 b b', cmp3 c c', z], ()), ()) := fun z => or_int K _ (by simp) hK
  simp only [impl_Fact_compare.f, impl_Fact_compare.pre, cmpF]
  cases d <;> cases d' <;> simp only [Bool.not_true, Bool.not_false, cond_true, cond_false] <;> rw [cmp_int, Option.bind_some, cmp_int, Option.bind_some, cmp_int, Option.bind_some, h] <;> rfl
theorem orI_zero {x : Int} (h : x = 0) (xs : List Int) : orI (x :: xs) = orI xs := by subst h; rfl
theorem orI_pos {x : Int} (h : x ≠ 0) (xs : List Int) : orI (x :: xs) = x := by simp [orI, h]
theorem cmpF_over {f g : Fact} (e : f.1 = g.1) : cmpF f g > 0 ↔ Over f g := by
  unfold cmpF Over
  rw [orI_zero ((cmp_zero f.1 g.1).2 e)]
  by_cases h1 : f.2.1 = g.2.1
  · rw [orI_zero ((cmp_zero f.2.1 g.2.1).2 h1), if_neg (show ¬ f.2.1 ≠ g.2.1 from fun h => h h1)]
    by_cases h2 : f.2.2.1 = g.2.2.1
    · rw [orI_zero ((cmp_zero f.2.2.1 g.2.2.1).2 h2), if_neg (show ¬ f.2.2.1 ≠ g.2.2.1 from fun h => h h2)]
      cases f.2.2.2 <;> cases g.2.2.2 <;> simp [orI]
    · rw [orI_pos (fun h => h2 ((cmp_zero f.2.2.1 g.2.2.1).1 h)), if_pos (show f.2.2.1 ≠ g.2.2.1 from h2)]
      exact cmp_pos _ _
  · rw [orI_pos (fun h => h1 ((cmp_zero f.2.1 g.2.1).1 h)), if_pos (show f.2.1 ≠ g.2.1 from h1)]
    exact cmp_pos _ _
end Go.Proofs.YtdjmnbdicpgmiaaEv
namespace Go.Proofs.YtdjmnbdicpgmiaaEv
open Go
theorem decLt {n : Nat} {m : Int} (h : (n : Int) < m) : decide ((n : Int) < m) = true := decide_eq_true h
theorem decNl (n : Nat) : decide ((n : Int) < (n : Int)) = false := decide_eq_false (by omega)
theorem uniq {t : List Fact} (h : Asc (fun f : Fact => f.1) t) {f g : Fact} (hf : f ∈ t) (hg : g ∈ t) (e : f.1 = g.1) : f = g := by
  obtain ⟨i, hi, rfl⟩ := List.getElem_of_mem hf
  obtain ⟨j, hj, rfl⟩ := List.getElem_of_mem hg
  have := asc_uniq h hi hj e
  subst this
  rfl
theorem eqv_t2 (f g : Fact) : Ty.eqv ty_impl_Fact_D f g = decide (f = g) := by
  obtain ⟨a, b, c, d⟩ := f
  obtain ⟨a', b', c', d'⟩ := g
  show (decide (a = a') && (decide (b = b') && (decide (c = c') && (d == d')))) = _
  cases d <;> cases d' <;> simp [Prod.mk.injEq]
end Go.Proofs.YtdjmnbdicpgmiaaEv
namespace Go.Proofs.YtdjmnbdicpgmiaaEv
open Go
end Go.Proofs.YtdjmnbdicpgmiaaEv
namespace Go.Proofs.YtdjmnbdicpgmiaaEv
open Go
end Go.Proofs.YtdjmnbdicpgmiaaEv
namespace Go.Proofs.YtdjmnbdicpgmiaaEv
open Go
theorem iter_go {A R : Type} {step : (A → Option R) → A → Option R} (n : Nat) (S : Nat → A) (rt : Option R) (h : ∀ (rec : A → Option R) (i : Nat), i < n → step rec (S i) = rec (S (i + 1))) (hend : ∀ rec : A → Option R, step rec (S n) = rt)
    {k : Nat} (hk : n < k) : iterate step k (S 0) = rt := by
  rcases iter_all (step := step) n S (fun _ => True) rt none (fun rec i hi => .inl ⟨trivial, h rec i hi⟩) hend n k 0 (by omega) hk with ⟨_, h1⟩ | ⟨h1, _⟩
  · exact h1
  · exact absurd (fun _ _ _ => trivial) h1
def Szd (o : Option ((Int × Unit) × Unit)) (left : Int) (Q : Prop) : Prop := ∃ r, o = some ((r, ()), ()) ∧ (r < 0 ∨ (0 ≤ r ∧ r ≤ left ∧ Q))
theorem Szd.sub (left : Int) (n : Nat) (h0 : 0 ≤ left) (h1 : left ≤ 1048576) (hn : n ≤ 9223372036854775807) {g : Option ((Int × Unit) × Unit)} {Q : Prop} (hg : wr .i64 (left - (n : Int)) = left - n → (n : Int) ≤ left → Szd g (left - n) Q) :
    Szd (bif decide (wr .i64 (left - (n : Int)) < 0) then some ((-1, ()), ()) else g) left (n ≤ 1048576 ∧ Q) := by
  have e : wr .i64 (left - (n : Int)) = left - n := wr64 (by omega) (by omega)
  by_cases h : left - (n : Int) < 0
  · rw [e, decide_eq_true h]
    exact ⟨-1, rfl, .inl (by decide)⟩
  · rw [decide_eq_false (by rw [e]; exact h)]
    obtain ⟨r, h2, h3⟩ := hg e (by omega)
    exact ⟨r, h2, h3.imp id fun h4 => ⟨h4.1, by omega, by omega, h4.2.2⟩⟩
theorem Szd.bind {o : Option ((Int × Unit) × Unit)} {left : Int} {P Q : Prop} {G : (Int × Unit) × Unit → Option ((Int × Unit) × Unit)} (h : Szd o left P) (h2 : ∀ r, 0 ≤ r → r ≤ left → P → Szd (G ((r, ()), ())) r Q) :
    Szd (o.bind fun y => bif decide (y.1.1 < 0) then some ((-1, ()), ()) else G y) left (P ∧ Q) := by
  obtain ⟨r, h3, h4⟩ := h
  rw [h3, Option.bind_some]
  rcases h4 with h4 | ⟨h4, h5, h6⟩
  · rw [decide_eq_true h4]
    exact ⟨-1, rfl, .inl (by decide)⟩
  · rw [show decide (r < 0) = false from decide_eq_false (by omega)]
    obtain ⟨r2, h7, h8⟩ := h2 r h4 h5 h6
    exact ⟨r2, h7, h8.imp id fun h9 => ⟨h9.1, by omega, h6, h9.2.2⟩⟩
theorem Szd.ret (r : Int) (h : 0 ≤ r) : Szd (some ((r, ()), ())) r True := ⟨r, rfl, .inr ⟨h, Int.le_refl _, trivial⟩⟩
theorem Szd.iff {o : Option ((Int × Unit) × Unit)} {left : Int} {P Q : Prop} (h : Szd o left P) (e : P → Q) : Szd o left Q := by
  obtain ⟨r, h1, h2⟩ := h
  exact ⟨r, h1, h2.imp id fun h3 => ⟨h3.1, h3.2.1, e h3.2.2⟩⟩
end Go.Proofs.YtdjmnbdicpgmiaaEv
