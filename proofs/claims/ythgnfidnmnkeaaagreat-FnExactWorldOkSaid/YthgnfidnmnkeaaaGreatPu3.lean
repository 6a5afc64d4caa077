/- What is ok of a node, part by part: the specification's answers and the program's. -/
import Derived.Test.YthgnfidnmnkeaaaGreatPu2
namespace Go.Proofs.YthgnfidnmnkeaaaGreatEv
open Go

def siteI (n : Int) : Int := wr .i64 (Int.tdiv n 4)
theorem site_s (K : Nat) (n : Int) : spec_l21Site.f K (n, ()) = some ((siteI n, ()), ()) := rfl
theorem site_i (K : Nat) (n : Int) : impl_siteOf.f K (n, ()) = some ((siteI n, ()), ()) := rfl
theorem nsite_i (K : Nat) (n : Node) : impl_Node_site.f K (n, ()) = some ((siteI n.1, ()), ()) := rfl

@[reducible] def Node.table (n : Node) : List Fact := n.2.2.2.2.2.2.2.2.1
@[reducible] def Node.cast (n : Node) : List Item := n.2.2.2.2.2.2.2.2.2.1
@[reducible] def Node.probe (n : Node) : Fact := n.2.2.2.2.2.2.2.2.2.2.1
@[reducible] def Node.doubts (n : Node) : List Doubt := n.2.2.2.2.2.2.2.2.2.2.2.1
@[reducible] def Node.coord (n : Node) : Coord := n.2.2.2.2.2.2.2.2.2.2.2.2.1
@[reducible] def Node.places (n : Node) : List Place := n.2.2.2.2.2.2.2.2.2.2.2.2.2.1
@[reducible] def Node.others (n : Node) : List Foreign := n.2.2.2.2.2.2.2.2.2.2.2.2.2.2

/-- How long a node's lists are at most. -/
structure NB (n : Node) : Prop where
  table : (Node.table n).length ≤ 1048576
  cast : (Node.cast n).length ≤ 1048576
  doubts : (Node.doubts n).length ≤ 1048576
  by_ : ∀ d ∈ Node.doubts n, d.2.2.2.length ≤ 1048576
  places : (Node.places n).length ≤ 1048576
  trips : ∀ p ∈ Node.places n, p.2.2.length ≤ 1048576
  others : (Node.others n).length ≤ 1048576
  facts : ∀ x ∈ Node.others n, x.2.length ≤ 1048576

/-! ### Of a site -/
def SiteP (t : List Fact) (s : Int) : Prop := ∀ f ∈ t, siteI f.1 = s
theorem l4Site_s (K : Nat) (t : List Fact) (s : Int) (ht : t.length ≤ 1048576) (hK : 1048577 < K) : Ret (spec_l4Site.f K (t, s, ())) (SiteP t s) := by
  refine (ret_loop t (step := fun rec a => spec_l4Site.l0.step K (t, s, ()) rec a) (fun i hi => ¬ siteI t[i].1 ≠ s) ht ?_ ?_ hK (fun _ => Ret.yes trivial)).iff (true_and'.trans ?_)
  · intro rec i hi
    simp only [spec_l4Site.l0.step]
    rw [decide_eq_true (by omega : (i : Int) < (List.length t : Int))]
    exact Rnd.ix (idx_get hi) ((Rnd.cndN (P := siteI t[i].1 ≠ s) (by simp [siteI]) (fun _ => Rnd.end_)).iff (by simp))
  · intro rec
    simp only [spec_l4Site.l0.step]
    rw [decide_eq_false (by omega : ¬ ((t.length : Int) < (List.length t : Int)))]
    rfl
  · rw [SiteP, all_get]
    exact ⟨fun h i hi => Classical.not_not.1 (h i hi), fun h i hi => Classical.not_not.2 (h i hi)⟩

/-- Among facts one fits. -/
theorem idxFact_i (K : Nat) (t : List Fact) (φ : Fact × Unit → Option Bool) (p : Fact → Prop) (ht : t.length ≤ 1048576) (hK : 1048577 < K) (hφ : ∀ f ∈ t, ∃ b, φ (f, ()) = some b ∧ (b = true ↔ p f)) :
    Ret (slices_ContainsFunc_impl_Fact_impl_Fact.f K (t, φ, ())) (∃ f ∈ t, p f) := by
  have := iter_first (step := fun rec a => slices_IndexFunc_impl_Fact_impl_Fact.l0.step K (t, φ, ()) rec a) t.length (fun i => (i : Int)) (fun j => ∃ h : j < t.length, p t[j]) (some ((-1, ()), ())) (fun j => some ((((j : Nat) : Int), ()), ())) ?_ ?_ t.length K 0 (by omega) (by omega)
  · simp only [slices_ContainsFunc_impl_Fact_impl_Fact.f, slices_ContainsFunc_impl_Fact_impl_Fact.pre]
    rcases this with ⟨h1, h2⟩ | ⟨j, _, h1, ⟨h3, h4⟩, _, h2⟩
    · have e : slices_IndexFunc_impl_Fact_impl_Fact.f K (t, φ, ()) = some ((-1, ()), ()) := h2
      rw [e]
      refine Ret.of ?_
      simp only [ge_iff_le, decide_eq_true_eq]
      refine ⟨fun h => absurd h (by decide), fun ⟨f, hf, hp⟩ => ?_⟩
      obtain ⟨i, hi, e1⟩ := List.getElem_of_mem hf
      exact absurd ⟨hi, e1 ▸ hp⟩ (h1 i (Nat.zero_le _) hi)
    · have e : slices_IndexFunc_impl_Fact_impl_Fact.f K (t, φ, ()) = some ((((j : Nat) : Int), ()), ()) := h2
      rw [e]
      refine Ret.of ?_
      simp only [ge_iff_le, decide_eq_true_eq]
      exact ⟨fun _ => ⟨t[j], List.getElem_mem h3, h4⟩, fun _ => Int.natCast_nonneg j⟩
  · intro rec i hi
    simp only [slices_IndexFunc_impl_Fact_impl_Fact.l0.step]
    rw [decide_eq_true (by omega : (i : Int) < (List.length t : Int)), idx_get hi, wr_succ i (by omega)]
    simp only [cond_true, Option.bind_some]
    obtain ⟨b, h1, h2⟩ := hφ t[i] (List.getElem_mem hi)
    rw [h1]
    simp only [Option.bind_some]
    cases b with
    | true => exact .inr ⟨⟨hi, h2.1 rfl⟩, rfl⟩
    | false => exact .inl ⟨fun ⟨_, h⟩ => by simpa using h2.2 h, rfl⟩
  · intro rec
    simp only [slices_IndexFunc_impl_Fact_impl_Fact.l0.step]
    rw [decide_eq_false (by omega : ¬ ((t.length : Int) < (List.length t : Int)))]
    rfl

theorem idxItem_i (K : Nat) (t : List Item) (φ : Item × Unit → Option Bool) (p : Item → Prop) (ht : t.length ≤ 1048576) (hK : 1048577 < K) (hφ : ∀ f ∈ t, ∃ b, φ (f, ()) = some b ∧ (b = true ↔ p f)) :
    Ret (slices_ContainsFunc_impl_Item_impl_Item.f K (t, φ, ())) (∃ f ∈ t, p f) := by
  have := iter_first (step := fun rec a => slices_IndexFunc_impl_Item_impl_Item.l0.step K (t, φ, ()) rec a) t.length (fun i => (i : Int)) (fun j => ∃ h : j < t.length, p t[j]) (some ((-1, ()), ())) (fun j => some ((((j : Nat) : Int), ()), ())) ?_ ?_ t.length K 0 (by omega) (by omega)
  · simp only [slices_ContainsFunc_impl_Item_impl_Item.f, slices_ContainsFunc_impl_Item_impl_Item.pre]
    rcases this with ⟨h1, h2⟩ | ⟨j, _, h1, ⟨h3, h4⟩, _, h2⟩
    · have e : slices_IndexFunc_impl_Item_impl_Item.f K (t, φ, ()) = some ((-1, ()), ()) := h2
      rw [e]
      refine Ret.of ?_
      simp only [ge_iff_le, decide_eq_true_eq]
      refine ⟨fun h => absurd h (by decide), fun ⟨f, hf, hp⟩ => ?_⟩
      obtain ⟨i, hi, e1⟩ := List.getElem_of_mem hf
      exact absurd ⟨hi, e1 ▸ hp⟩ (h1 i (Nat.zero_le _) hi)
    · have e : slices_IndexFunc_impl_Item_impl_Item.f K (t, φ, ()) = some ((((j : Nat) : Int), ()), ()) := h2
      rw [e]
      refine Ret.of ?_
      simp only [ge_iff_le, decide_eq_true_eq]
      exact ⟨fun _ => ⟨t[j], List.getElem_mem h3, h4⟩, fun _ => Int.natCast_nonneg j⟩
  · intro rec i hi
    simp only [slices_IndexFunc_impl_Item_impl_Item.l0.step]
    rw [decide_eq_true (by omega : (i : Int) < (List.length t : Int)), idx_get hi, wr_succ i (by omega)]
    simp only [cond_true, Option.bind_some]
    obtain ⟨b, h1, h2⟩ := hφ t[i] (List.getElem_mem hi)
    rw [h1]
    simp only [Option.bind_some]
    cases b with
    | true => exact .inr ⟨⟨hi, h2.1 rfl⟩, rfl⟩
    | false => exact .inl ⟨fun ⟨_, h⟩ => by simpa using h2.2 h, rfl⟩
  · intro rec
    simp only [slices_IndexFunc_impl_Item_impl_Item.l0.step]
    rw [decide_eq_false (by omega : ¬ ((t.length : Int) < (List.length t : Int)))]
    rfl

theorem idxInt_i (K : Nat) (t : List Int) (φ : Int × Unit → Option Bool) (p : Int → Prop) (ht : t.length ≤ 1048576) (hK : 1048577 < K) (hφ : ∀ f ∈ t, ∃ b, φ (f, ()) = some b ∧ (b = true ↔ p f)) :
    Ret (slices_ContainsFunc_int_int.f K (t, φ, ())) (∃ f ∈ t, p f) := by
  have := iter_first (step := fun rec a => slices_IndexFunc_int_int.l0.step K (t, φ, ()) rec a) t.length (fun i => (i : Int)) (fun j => ∃ h : j < t.length, p t[j]) (some ((-1, ()), ())) (fun j => some ((((j : Nat) : Int), ()), ())) ?_ ?_ t.length K 0 (by omega) (by omega)
  · simp only [slices_ContainsFunc_int_int.f, slices_ContainsFunc_int_int.pre]
    rcases this with ⟨h1, h2⟩ | ⟨j, _, h1, ⟨h3, h4⟩, _, h2⟩
    · have e : slices_IndexFunc_int_int.f K (t, φ, ()) = some ((-1, ()), ()) := h2
      rw [e]
      refine Ret.of ?_
      simp only [ge_iff_le, decide_eq_true_eq]
      refine ⟨fun h => absurd h (by decide), fun ⟨f, hf, hp⟩ => ?_⟩
      obtain ⟨i, hi, e1⟩ := List.getElem_of_mem hf
      exact absurd ⟨hi, e1 ▸ hp⟩ (h1 i (Nat.zero_le _) hi)
    · have e : slices_IndexFunc_int_int.f K (t, φ, ()) = some ((((j : Nat) : Int), ()), ()) := h2
      rw [e]
      refine Ret.of ?_
      simp only [ge_iff_le, decide_eq_true_eq]
      exact ⟨fun _ => ⟨t[j], List.getElem_mem h3, h4⟩, fun _ => Int.natCast_nonneg j⟩
  · intro rec i hi
    simp only [slices_IndexFunc_int_int.l0.step]
    rw [decide_eq_true (by omega : (i : Int) < (List.length t : Int)), idx_get hi, wr_succ i (by omega)]
    simp only [cond_true, Option.bind_some]
    obtain ⟨b, h1, h2⟩ := hφ t[i] (List.getElem_mem hi)
    rw [h1]
    simp only [Option.bind_some]
    cases b with
    | true => exact .inr ⟨⟨hi, h2.1 rfl⟩, rfl⟩
    | false => exact .inl ⟨fun ⟨_, h⟩ => by simpa using h2.2 h, rfl⟩
  · intro rec
    simp only [slices_IndexFunc_int_int.l0.step]
    rw [decide_eq_false (by omega : ¬ ((t.length : Int) < (List.length t : Int)))]
    rfl

/-- A function value's answer. -/
theorem Ret.fn {o : Option RB} {P : Prop} (h : Ret o P) : ∃ b, (o.map fun y => y.1.1) = some b ∧ (b = true ↔ P) := by
  obtain ⟨b, h1, h2⟩ := h
  exact ⟨b, by rw [h1]; rfl, h2⟩

theorem ofSite_i (K : Nat) (t : List Fact) (s : Int) (ht : t.length ≤ 1048576) (hK : 1048577 < K) : Ret (impl_ofSite.f K (t, s, ())) (SiteP t s) := by
  refine (Ret.neg (idxFact_i K t (fun y1 => (impl_ofSite_1.f K (y1.1, s, ())).map fun y => y.1.1) (fun f => siteI f.1 ≠ s) ht hK (fun f _ => ?_))).iff ?_
  · exact ⟨_, rfl, by simp [siteI]⟩
  · exact ⟨fun h f hf => Classical.not_not.1 fun h2 => h ⟨f, hf, h2⟩, fun h ⟨f, hf, h2⟩ => h2 (h f hf)⟩

/-! ### Tables -/
theorem tableOf_i (K : Nat) (t : List Fact) (node : Int) (ht : t.length ≤ 1048576) (hK : 1048577 < K) :
    (¬ TableP t ∧ impl_TableOf.f K (t, node, ()) = some (((0, (0, (0, false))), false, ()), ())) ∨
    (TableP t ∧ ((∃ f ∈ t, f.1 = node ∧ impl_TableOf.f K (t, node, ()) = some ((f, true, ()), ())) ∨ ((∀ f ∈ t, f.1 ≠ node) ∧ impl_TableOf.f K (t, node, ()) = some (((0, (0, (0, false))), false, ()), ())))) := by
  simp only [impl_TableOf.f, impl_TableOf.pre]
  obtain ⟨b, h1, h2⟩ := tableOk_i K t ht hK
  rw [h1]
  simp only [Option.bind_some]
  cases b with
  | false => exact .inl ⟨fun h => by simpa using h2.2 h, rfl⟩
  | true =>
    have hT := h2.1 rfl
    obtain ⟨m, hm, h3⟩ := find_i K t node ht hT.2 hK
    refine .inr ⟨hT, ?_⟩
    simp only [Bool.not_true, cond_false, h3, Option.bind_some]
    by_cases h : ∃ h : m < t.length, t[m].1 = node
    · rw [decide_eq_true h]
      obtain ⟨h4, h5⟩ := h
      left
      refine ⟨t[m], List.getElem_mem h4, h5, ?_⟩
      simp only [Bool.not_true, cond_false]
      rw [idx_get h4]
      rfl
    · rw [decide_eq_false h]
      right
      refine ⟨?_, rfl⟩
      rw [all_get]
      intro i hi e
      rcases Nat.lt_trichotomy i m with h4 | h4 | h4
      · have := hm.lo i hi h4; omega
      · subst h4; exact h ⟨hi, e⟩
      · have h5 := hm.hi m (by omega) (Nat.le_refl _)
        have h6 := asc_get.1 hT.2 m i (by omega) hi h4
        omega

/-- One fact overrides another one of its node. -/
def Over (f g : Fact) : Prop := if f.2.1 ≠ g.2.1 then f.2.1 > g.2.1 else if f.2.2.1 ≠ g.2.2.1 then f.2.2.1 > g.2.2.1 else f.2.2.2 = true ∧ g.2.2.2 = false

theorem over_s (K : Nat) (f g : Fact) : Ret (spec_l3Over.f K (f, g, ())) (Over f g) := by
  simp only [spec_l3Over.f, spec_l3Over.pre, Over]
  by_cases h1 : f.2.1 = g.2.1
  · have e : (f.2.1 != g.2.1) = false := by simpa using h1
    rw [e, if_neg (by simpa using h1)]
    by_cases h2 : f.2.2.1 = g.2.2.1
    · have e : (f.2.2.1 != g.2.2.1) = false := by simpa using h2
      rw [e, if_neg (by simpa using h2)]
      exact (Ret.cnd (b := f.2.2.2) Iff.rfl (fun _ => Ret.of (b := !g.2.2.2) (by simp))).iff Iff.rfl
    · have e : (f.2.2.1 != g.2.2.1) = true := by simpa using h2
      rw [e, if_pos h2]
      exact Ret.dec
  · have e : (f.2.1 != g.2.1) = true := by simpa using h1
    rw [e, if_pos h1]
    exact Ret.dec

/-- The first of some numbers that is not 0. -/
def orI : List Int → Int
  | [] => 0
  | x :: xs => if x ≠ 0 then x else orI xs

theorem or_int (K : Nat) (xs : List Int) (hx : xs.length ≤ 1048576) (hK : 1048577 < K) : cmp_Or_int.f K (xs, ()) = some ((orI xs, ()), ()) := by
  have key : ∀ (d k i : Nat), i + d = xs.length → d < k → iterate (fun rec a => cmp_Or_int.l0.step K (xs, ()) rec a) k (i : Int) = some ((orI (xs.drop i), ()), ()) := by
    intro d
    induction d with
    | zero =>
      intro k i hi hk
      obtain ⟨k, rfl⟩ : ∃ k', k = k' + 1 := ⟨k - 1, by omega⟩
      show cmp_Or_int.l0.step K (xs, ()) _ _ = _
      simp only [cmp_Or_int.l0.step]
      rw [decide_eq_false (by omega : ¬ ((i : Int) < (List.length xs : Int))), List.drop_of_length_le (by omega)]
      rfl
    | succ d ih =>
      intro k i hi hk
      obtain ⟨k, rfl⟩ : ∃ k', k = k' + 1 := ⟨k - 1, by omega⟩
      have ih := ih k (i + 1) (by omega) (by omega)
      show cmp_Or_int.l0.step K (xs, ()) _ _ = _
      simp only [cmp_Or_int.l0.step]
      have hi' : i < xs.length := by omega
      rw [decide_eq_true (by omega : (i : Int) < (List.length xs : Int)), idx_get hi', wr_succ i (by omega), List.drop_eq_getElem_cons hi']
      simp only [cond_true, Option.bind_some, orI]
      by_cases h : xs[i] = 0
      · have e : (xs[i] != 0) = false := by simpa using h
        rw [e, if_neg (by simpa using h)]
        exact ih
      · have e : (xs[i] != 0) = true := by simpa using h
        rw [e, if_pos h]
        rfl
  have := key xs.length K 0 (by omega) (by omega)
  rwa [List.drop_zero] at this

/-- Facts in order: by node, then by which overrides which. -/
def cmpF (f g : Fact) : Int := orI [cmp3 f.1 g.1, cmp3 f.2.1 g.2.1, cmp3 f.2.2.1 g.2.2.1, if f.2.2.2 = true ∧ g.2.2.2 = false then 1 else if g.2.2.2 = true ∧ f.2.2.2 = false then -1 else 0]

theorem compare_i (K : Nat) (f g : Fact) (hK : 1048577 < K) : impl_Fact_compare.f K (f, g, ()) = some ((cmpF f g, ()), ()) := by
  obtain ⟨a, b, c, d⟩ := f
  obtain ⟨a', b', c', d'⟩ := g
  have h : ∀ z : Int, cmp_Or_int.f K ([cmp3 a a', cmp3 b b', cmp3 c c', z], ()) = some ((orI [cmp3 a a', cmp3 b b', cmp3 c c', z], ()), ()) := fun z => or_int K _ (by simp) hK
  simp only [impl_Fact_compare.f, impl_Fact_compare.pre, cmpF]
  cases d <;> cases d' <;> simp only [Bool.not_true, Bool.not_false, cond_true, cond_false] <;> rw [cmp_int, Option.bind_some, cmp_int, Option.bind_some, cmp_int, Option.bind_some, h] <;> rfl

theorem orI_zero {x : Int} (h : x = 0) (xs : List Int) : orI (x :: xs) = orI xs := by subst h; rfl
theorem orI_pos {x : Int} (h : x ≠ 0) (xs : List Int) : orI (x :: xs) = x := by simp [orI, h]

theorem cmpF_over {f g : Fact} (e : f.1 = g.1) : cmpF f g > 0 ↔ Over f g := by
  unfold cmpF Over
  rw [orI_zero ((cmp_zero f.1 g.1).2 e)]
  by_cases h1 : f.2.1 = g.2.1
  · rw [orI_zero ((cmp_zero f.2.1 g.2.1).2 h1), if_neg (show ¬ f.2.1 ≠ g.2.1 from fun h => h h1)]
    by_cases h2 : f.2.2.1 = g.2.2.1
    · rw [orI_zero ((cmp_zero f.2.2.1 g.2.2.1).2 h2), if_neg (show ¬ f.2.2.1 ≠ g.2.2.1 from fun h => h h2)]
      cases f.2.2.2 <;> cases g.2.2.2 <;> simp [orI]
    · rw [orI_pos (fun h => h2 ((cmp_zero f.2.2.1 g.2.2.1).1 h)), if_pos (show f.2.2.1 ≠ g.2.2.1 from h2)]
      exact cmp_pos _ _
  · rw [orI_pos (fun h => h1 ((cmp_zero f.2.1 g.2.1).1 h)), if_pos (show f.2.1 ≠ g.2.1 from h1)]
    exact cmp_pos _ _

theorem factOver_i (K : Nat) (f g : Fact) (hK : 1048577 < K) : Ret (impl_FactOver.f K (f, g, ())) (FactP f ∧ FactP g ∧ f.1 = g.1 ∧ Over f g) := by
  refine Ret.and (factOk_i K f) (fun _ => Ret.and (factOk_i K g) (fun _ => ?_) rfl) rfl
  refine (Ret.cnd (b := f.1 == g.1) (P := f.1 = g.1) (by simp) (fun e => ?_)).iff Iff.rfl
  show Ret ((impl_Fact_compare.f K (f, g, ())).bind _) _
  rw [compare_i K f g hK]
  refine Ret.of ?_
  simp only [gt_iff_lt, decide_eq_true_eq]
  exact cmpF_over e

end Go.Proofs.YthgnfidnmnkeaaaGreatEv
