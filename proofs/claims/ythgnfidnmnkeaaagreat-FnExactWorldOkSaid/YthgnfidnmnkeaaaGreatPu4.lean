/- What is ok of a node, part by part, second half. -/
import Derived.Test.YthgnfidnmnkeaaaGreatPu3
namespace Go.Proofs.YthgnfidnmnkeaaaGreatEv
open Go

theorem decLt {n : Nat} {m : Int} (h : (n : Int) < m) : decide ((n : Int) < m) = true := decide_eq_true h
theorem decNl (n : Nat) : decide ((n : Int) < (n : Int)) = false := decide_eq_false (by omega)

/-! ### What is cast -/
def CastP (l : List Item) : Prop := (∀ x ∈ l, FactP x.1 ∧ InP x.2 1 4) ∧ Asc (fun x : Item => x.1.1) l

theorem castOk_s (K : Nat) (l : List Item) (hl : l.length ≤ 1048576) (hK : 1048577 < K) : Ret (spec_CastOk.f K (l, ())) (CastP l) := by
  refine (ret_loop l (step := fun rec a => spec_CastOk.l0.step K (l, ()) rec a) (fun i hi => FactP l[i].1 ∧ InP l[i].2 1 4 ∧ (0 < i → ¬ (l[i - 1]'(by omega)).1.1 ≥ l[i].1.1) ∧ True) hl ?_ ?_ hK (fun _ => Ret.yes trivial)).iff (true_and'.trans ?_)
  · intro rec i hi
    simp only [spec_CastOk.l0.step]
    rw [decide_eq_true (by omega : (i : Int) < (List.length l : Int))]
    simp only [cond_true]
    refine Rnd.ix (idx_get hi) (Rnd.nx (factOk_s K _) fun _ => Rnd.ix (idx_get hi) (Rnd.nx (in_s K _ 1 4) fun _ => Rnd.two (fun h0 => ?_) Rnd.end_))
    rw [wr_pred i h0 (by omega)]
    exact Rnd.ix (idx_get (by omega)) (Rnd.ix (idx_get hi) (Rnd.cndN (by simp) fun _ => Rnd.end_))
  · intro rec
    simp only [spec_CastOk.l0.step, decNl]
    rfl
  · rw [CastP, all_get, asc_adj]
    constructor
    · intro h
      exact ⟨fun i hi => ⟨(h i hi).1, (h i hi).2.1⟩, fun i hi h0 => by have := (h i hi).2.2.1 h0; omega⟩
    · rintro ⟨h1, h2⟩ i hi
      exact ⟨(h1 i hi).1, (h1 i hi).2, fun h0 => by have := h2 i hi h0; omega, trivial⟩

theorem facts_i (K : Nat) (l : List Item) (hl : l.length ≤ 1048576) (hK : 1048577 < K) : impl_facts.f K (l, ()) = some ((l.map (·.1), ()), ()) := by
  have key : ∀ (d k i : Nat), i + d = l.length → d < k → iterate (fun rec a => impl_facts.l0.step K (l, ()) rec a) k ((l.take i).map (·.1), (i : Int)) = some ((l.map (·.1), ()), ()) := by
    intro d
    induction d with
    | zero =>
      intro k i hi hk
      obtain ⟨k, rfl⟩ : ∃ k', k = k' + 1 := ⟨k - 1, by omega⟩
      show impl_facts.l0.step K (l, ()) _ _ = _
      simp only [impl_facts.l0.step]
      rw [decide_eq_false (by omega : ¬ ((i : Int) < (List.length l : Int))), List.take_of_length_le (by omega)]
      rfl
    | succ d ih =>
      intro k i hi hk
      obtain ⟨k, rfl⟩ : ∃ k', k = k' + 1 := ⟨k - 1, by omega⟩
      have ih := ih k (i + 1) (by omega) (by omega)
      show impl_facts.l0.step K (l, ()) _ _ = _
      have hi' : i < l.length := by omega
      simp only [impl_facts.l0.step]
      rw [decide_eq_true (by omega : (i : Int) < (List.length l : Int)), idx_get hi', wr_succ i (by omega)]
      simp only [cond_true, Option.bind_some]
      have hs : decide ((List.length (List.map (fun x : Item => x.1) (List.take i l)) + List.length [l[i].1]) * 32 ≤ sizeK) = true := decide_eq_true (by simp only [sizeK, List.length_map, List.length_take, List.length_singleton]; omega)
      rw [hs]
      have e : (List.take i l).map (fun x : Item => x.1) ++ [l[i].1] = (l.take (i + 1)).map (·.1) := by
        rw [List.take_add_one, List.getElem?_eq_getElem hi', List.map_append]
        rfl
      rw [e]
      exact ih
  have := key l.length K 0 (by omega) (by omega)
  exact this

theorem tableP_map {l : List Item} : TableP (l.map (·.1)) ↔ (∀ x ∈ l, FactP x.1) ∧ Asc (fun x : Item => x.1.1) l := by
  unfold TableP Asc
  rw [List.pairwise_map]
  simp

theorem castBad_i (K : Nat) (x : Item) : Ret (impl_CastOk_1.f K (x, ())) (¬ InP x.2 1 4) := by
  simp only [impl_CastOk_1.f, impl_CastOk_1.pre]
  exact (in_i K x.2 1 4).neg

theorem castIn_i (K : Nat) (l : List Item) (hl : l.length ≤ 1048576) (hK : 1048577 < K) : Ret (slices_ContainsFunc_impl_Item_impl_Item.f K (l, (fun y3 => (impl_CastOk_1.f K (y3.1, ())).map fun y => y.1.1), ())) (∃ x ∈ l, ¬ InP x.2 1 4) :=
  idxItem_i K l _ (fun x => ¬ InP x.2 1 4) hl hK (fun x _ => Ret.fn (castBad_i K x))

theorem castOk_i (K : Nat) (l : List Item) (hl : l.length ≤ 1048576) (hK : 1048577 < K) : Ret (impl_CastOk.f K (l, ())) (CastP l) := by
  simp only [impl_CastOk.f, impl_CastOk.pre]
  obtain ⟨b1, h1, h2⟩ := castIn_i K l hl hK
  obtain ⟨b2, h3, h4⟩ := tableOk_i K (l.map (·.1)) (by simpa using hl) hK
  rw [facts_i K l hl hK, Option.bind_some, h3, Option.bind_some, h1, Option.bind_some]
  have e : CastP l ↔ (b2 = true ∧ b1 = false) := by
    rw [h4, tableP_map, CastP, ← Bool.not_eq_true, h2]
    constructor
    · rintro ⟨h5, h6⟩
      exact ⟨⟨fun x hx => (h5 x hx).1, h6⟩, fun ⟨x, hx, h⟩ => h (h5 x hx).2⟩
    · rintro ⟨⟨h5, h6⟩, h7⟩
      exact ⟨fun x hx => ⟨h5 x hx, Classical.not_not.1 fun h => h7 ⟨x, hx, h⟩⟩, h6⟩
  refine Ret.iff ?_ e.symm
  cases b2 <;> cases b1 <;> exact ⟨_, rfl, by simp⟩

/-- Nothing that is told on is newer than the table. -/
def CastVs (t : List Fact) (l : List Item) : Prop := ∀ x ∈ l, ∃ f ∈ t, f.1 = x.1.1 ∧ ¬ Over x.1 f

theorem uniq {t : List Fact} (h : Asc (fun f : Fact => f.1) t) {f g : Fact} (hf : f ∈ t) (hg : g ∈ t) (e : f.1 = g.1) : f = g := by
  obtain ⟨i, hi, rfl⟩ := List.getElem_of_mem hf
  obtain ⟨j, hj, rfl⟩ := List.getElem_of_mem hg
  have := asc_uniq h hi hj e
  subst this
  rfl

theorem l21CastOk_s (K : Nat) (n : Node) (hn : NB n) (hT : TableP (Node.table n)) (hK : 1048577 < K) : Ret (spec_l21CastOk.f K (n, ())) (CastP (Node.cast n) ∧ CastVs (Node.table n) (Node.cast n)) := by
  refine Ret.nx (castOk_s K _ hn.cast hK) fun _ => ?_
  refine (ret_loop (Node.cast n) (step := fun rec a => spec_l21CastOk.l0.step K (n, ()) rec a) (fun i hi => ∃ f ∈ Node.table n, f.1 = (Node.cast n)[i].1.1 ∧ ¬ Over (Node.cast n)[i].1 f) hn.cast ?_ ?_ hK (fun _ => Ret.yes trivial)).iff (true_and'.trans ?_)
  · intro rec i hi
    simp only [spec_l21CastOk.l0.step]
    rw [decide_eq_true (by omega : (i : Int) < (List.length (Node.cast n) : Int))]
    simp only [cond_true]
    refine Rnd.ix (idx_get hi) ?_
    obtain ⟨o, ho, h1⟩ := find_s K (Node.table n) (Node.cast n)[i].1.1 hn.table hK
    refine Rnd.vl h1 ?_
    cases ho with
    | no h =>
      rw [show decide ((-1 : Int) < 0) = true from rfl]
      exact .inr ⟨fun ⟨f, hf, e, _⟩ => h f hf e, rfl⟩
    | at_ j hj e =>
      simp only
      rw [decide_eq_false (by omega : ¬ ((j : Int) < 0))]
      refine (Rnd.ix (idx_get hi) (Rnd.ix (idx_get hj) (Rnd.fx (over_s K _ _) fun _ => Rnd.end_))).iff ⟨fun h => ⟨_, List.getElem_mem hj, e, h.1⟩, fun ⟨f, hf, e2, h⟩ => ⟨?_, trivial⟩⟩
      have := uniq hT.2 hf (List.getElem_mem hj) (e2.trans e.symm)
      rwa [← this]
  · intro rec
    simp only [spec_l21CastOk.l0.step, decNl]
    rfl
  · rw [CastVs, all_get]

theorem castVs_i (K : Nat) (n : Node) (hn : NB n) (hT : TableP (Node.table n)) (hC : CastP (Node.cast n)) (hK : 1048577 < K) :
    Ret ((slices_ContainsFunc_impl_Item_impl_Item.f K (Node.cast n, (fun y5 => (impl_Node_tableOk_1.f K (y5.1, n, ())).map fun y => y.1.1), ())).bind fun y6 => some ((!y6.1.1, ()), ())) (CastVs (Node.table n) (Node.cast n)) := by
  refine (Ret.neg (idxItem_i K _ _ (fun x => ¬ ∃ f ∈ Node.table n, f.1 = x.1.1 ∧ ¬ Over x.1 f) hn.cast hK (fun x hx => Ret.fn ?_))).iff ?_
  · simp only [impl_Node_tableOk_1.f, impl_Node_tableOk_1.pre]
    rcases tableOf_i K (Node.table n) x.1.1 hn.table hK with ⟨h1, _⟩ | ⟨_, ⟨f, hf, e, h1⟩ | ⟨h2, h1⟩⟩
    · exact absurd hT h1
    · refine Ret.vl h1 ?_
      refine (factOver_i K x.1 f hK).id.iff ⟨fun h ⟨g, hg, e2, h3⟩ => ?_, fun h => ?_⟩
      · have := uniq hT.2 hg hf (e2.trans e.symm)
        exact h3 (this ▸ h.2.2.2)
      · refine ⟨(hC.1 x hx).1, hT.1 f hf, e.symm, Classical.not_not.1 fun h3 => h ⟨f, hf, e, h3⟩⟩
    · refine Ret.vl h1 ?_
      exact Ret.yes (fun ⟨f, hf, e, _⟩ => h2 f hf e)
  · exact ⟨fun h x hx => Classical.not_not.1 fun h2 => h ⟨x, hx, h2⟩, fun h ⟨x, hx, h2⟩ => h2 (h x hx)⟩

/-! ### Itself, its probe -/
def SelfP (n : Node) : Prop := ((n.1, n.2.2.2.2.1, (if n.2.2.1 = true then 4 else 1), n.2.2.2.1) : Fact) ∈ Node.table n

theorem self_s (K : Nat) (n : Node) (hn : NB n) (hT : TableP (Node.table n)) (hK : 1048577 < K) : Ret (spec_l21Self.f K (n, ())) (SelfP n) := by
  simp only [spec_l21Self.f, spec_l21Self.pre]
  obtain ⟨o, ho, h1⟩ := find_s K (Node.table n) n.1 hn.table hK
  refine Ret.vl h1 ?_
  cases ho with
  | no h =>
    rw [show decide ((-1 : Int) < 0) = true from rfl]
    exact Ret.no (fun h2 => h _ h2 rfl)
  | at_ j hj e =>
    simp only
    rw [decide_eq_false (by omega : ¬ ((j : Int) < 0))]
    refine Ret.vl (idx_get hj) ?_
    have hmem : SelfP n ↔ (Node.table n)[j] = ((n.1, n.2.2.2.2.1, (if n.2.2.1 = true then 4 else 1), n.2.2.2.1) : Fact) := by
      constructor
      · intro h
        exact uniq hT.2 (List.getElem_mem hj) h e
      · intro h
        show _ ∈ _
        rw [← h]
        exact List.getElem_mem hj
    have hx : (Node.table n)[j] = ((n.1, n.2.2.2.2.1, (if n.2.2.1 = true then 4 else 1), n.2.2.2.1) : Fact) ↔ ((Node.table n)[j].2.1 = n.2.2.2.2.1 ∧ (Node.table n)[j].2.2.1 = (if n.2.2.1 = true then 4 else 1) ∧ (Node.table n)[j].2.2.2 = n.2.2.2.1) := by
      generalize (Node.table n)[j] = f at e ⊢
      obtain ⟨a, b, c, d⟩ := f
      simp at e ⊢
      intro _ _ _
      exact e
    refine Ret.iff ?_ (hmem.trans hx).symm
    cases hg : n.2.2.1 with
    | true => exact Ret.cnd (by simp) fun _ => Ret.cnd (by simp) fun _ => Ret.of (by simp)
    | false => exact Ret.cnd (by simp) fun _ => Ret.cnd (by simp) fun _ => Ret.of (by simp)

theorem eqv_t2 (f g : Fact) : Ty.eqv ty_impl_Fact f g = decide (f = g) := by
  obtain ⟨a, b, c, d⟩ := f
  obtain ⟨a', b', c', d'⟩ := g
  show (decide (a = a') && (decide (b = b') && (decide (c = c') && (d == d')))) = _
  cases d <;> cases d' <;> simp [Prod.mk.injEq]

theorem eqv_t9 (f g : Coord) : Ty.eqv ty_impl_Coord f g = decide (f = g) := by
  obtain ⟨a, b, c, d⟩ := f
  obtain ⟨a', b', c', d'⟩ := g
  show (decide (a = a') && (decide (b = b') && (decide (c = c') && decide (d = d')))) = _
  simp [Prod.mk.injEq]

theorem tableOk_node_i (K : Nat) (n : Node) (hn : NB n) (hK : 1048577 < K) : Ret (impl_Node_tableOk.f K (n, ()))
    (TableP (Node.table n) ∧ SiteP (Node.table n) (siteI n.1) ∧ SelfP n ∧ CastP (Node.cast n) ∧ CastVs (Node.table n) (Node.cast n)) := by
  have rest : ∀ (w : Int), TableP (Node.table n) → Ret ((impl_Node_site.f K (n, ())).bind fun y2 => (impl_ofSite.f K (Node.table n, y2.1.1, ())).bind fun y3 => bif !y3.1.1 then rb false else
      ((impl_CastOk.f K (Node.cast n, ())).bind fun y4 => bif !y4.1.1 then rb false else
        ((slices_ContainsFunc_impl_Item_impl_Item.f K (Node.cast n, (fun y5 => (impl_Node_tableOk_1.f K (y5.1, n, ())).map fun y => y.1.1), ())).bind fun y6 => some ((!y6.1.1, ()), ()))))
      (SiteP (Node.table n) (siteI n.1) ∧ CastP (Node.cast n) ∧ CastVs (Node.table n) (Node.cast n)) := by
    intro _ hT
    exact Ret.vl (nsite_i K n) (Ret.nx (ofSite_i K _ _ hn.table hK) fun _ => Ret.nx (castOk_i K _ hn.cast hK) fun hC => castVs_i K n hn hT hC hK)
  have main : ∀ (w : Int), w = (if n.2.2.1 = true then 4 else 1) → Ret ((impl_TableOf.f K (Node.table n, n.1, ())).bind fun y1 => bif !y1.1.2.1 then rb false else bif !Ty.eqv ty_impl_Fact y1.1.1 (n.1, (n.2.2.2.2.1, (w, n.2.2.2.1))) then rb false else
      ((impl_Node_site.f K (n, ())).bind fun y2 => (impl_ofSite.f K (Node.table n, y2.1.1, ())).bind fun y3 => bif !y3.1.1 then rb false else
      ((impl_CastOk.f K (Node.cast n, ())).bind fun y4 => bif !y4.1.1 then rb false else
        ((slices_ContainsFunc_impl_Item_impl_Item.f K (Node.cast n, (fun y5 => (impl_Node_tableOk_1.f K (y5.1, n, ())).map fun y => y.1.1), ())).bind fun y6 => some ((!y6.1.1, ()), ())))))
      (TableP (Node.table n) ∧ SiteP (Node.table n) (siteI n.1) ∧ SelfP n ∧ CastP (Node.cast n) ∧ CastVs (Node.table n) (Node.cast n)) := by
    intro w hw
    rcases tableOf_i K (Node.table n) n.1 hn.table hK with ⟨h1, h2⟩ | ⟨hT, ⟨f, hf, e, h1⟩ | ⟨h2, h1⟩⟩
    · exact Ret.vl h2 (Ret.no (fun h => h1 h.1))
    · refine Ret.vl h1 ?_
      simp only [Bool.not_true, cond_false]
      rw [eqv_t2]
      by_cases h3 : f = (n.1, (n.2.2.2.2.1, (w, n.2.2.2.1)))
      · rw [decide_eq_true h3]
        have hS : SelfP n := by
          show _ ∈ _
          rw [← hw, ← h3]
          exact hf
        exact (rest w hT).iff ⟨fun h => ⟨hT, h.1, hS, h.2.1, h.2.2⟩, fun h => ⟨h.2.1, h.2.2.2⟩⟩
      · rw [decide_eq_false h3]
        refine Ret.no (fun h => h3 ?_)
        have := uniq hT.2 hf h.2.2.1 e
        rw [this, hw]
    · refine Ret.vl h1 (Ret.no (fun h => h2 _ h.2.2.1 rfl))
  simp only [impl_Node_tableOk.f, impl_Node_tableOk.pre]
  cases hg : n.2.2.1 with
  | true => exact main 4 (by rw [hg]; rfl)
  | false => exact main 1 (by rw [hg]; rfl)

def ProbeP (n : Node) : Prop := if (Node.probe n).1 = -1 then Node.probe n = (-1, 0, 0, false) else
  (Node.probe n).1 ≠ n.1 ∧ (∃ f ∈ Node.table n, f.1 = (Node.probe n).1) ∧ InP (Node.probe n).2.1 0 n.2.2.2.2.2.1 ∧ InP (Node.probe n).2.2.1 1 n.2.2.2.2.2.2.1

theorem probe_s (K : Nat) (n : Node) (hn : NB n) (hK : 1048577 < K) : Ret (spec_l21ProbeOk.f K (n, ())) (ProbeP n) := by
  simp only [spec_l21ProbeOk.f, spec_l21ProbeOk.pre, ProbeP]
  by_cases h : (Node.probe n).1 = -1
  · rw [if_pos h, show ((Node.probe n).1 == -1) = true by simpa using h]
    refine (Ret.cnd (P := (Node.probe n).2.1 = 0) (by simp) fun _ => Ret.cnd (P := (Node.probe n).2.2.1 = 0) (by simp) fun _ => Ret.of (P := (Node.probe n).2.2.2 = false) (by simp)).iff ?_
    generalize Node.probe n = p at h ⊢
    obtain ⟨a, b, c, d⟩ := p
    simp at h ⊢
    intro _ _ _
    exact h
  · rw [if_neg h, show ((Node.probe n).1 == -1) = false by simpa using h]
    refine Ret.cnd (by simp) fun _ => ?_
    obtain ⟨o, ho, h1⟩ := find_s K (Node.table n) (Node.probe n).1 hn.table hK
    refine Ret.vl h1 ?_
    cases ho with
    | no h2 => exact Ret.no (fun ⟨⟨f, hf, e⟩, _⟩ => h2 f hf e)
    | at_ j hj e =>
      simp only
      rw [show decide ((j : Int) ≥ 0) = true from decide_eq_true (by omega)]
      exact (Ret.px (in_s K _ _ _) fun _ => (in_s K _ _ _).id).iff ⟨fun h3 => ⟨⟨_, List.getElem_mem hj, e⟩, h3⟩, fun h3 => h3.2⟩

theorem probe_i (K : Nat) (n : Node) (hn : NB n) (hT : TableP (Node.table n)) (hK : 1048577 < K) : Ret (impl_Node_probeOk.f K (n, ())) (ProbeP n) := by
  simp only [impl_Node_probeOk.f, impl_Node_probeOk.pre, ProbeP]
  by_cases h : (Node.probe n).1 = -1
  · rw [if_pos h, show ((Node.probe n).1 == -1) = true by simpa using h, eqv_t2]
    exact Ret.dec
  · rw [if_neg h, show ((Node.probe n).1 == -1) = false by simpa using h]
    rcases tableOf_i K (Node.table n) (Node.probe n).1 hn.table hK with ⟨h1, _⟩ | ⟨_, ⟨f, hf, e, h1⟩ | ⟨h2, h1⟩⟩
    · exact absurd hT h1
    · refine Ret.vl h1 ?_
      exact (Ret.cnd (P := (Node.probe n).1 ≠ n.1) (by simp) fun _ => Ret.px (in_i K _ _ _) fun _ => (in_i K _ _ _).id).iff ⟨fun h3 => ⟨h3.1, ⟨f, hf, e⟩, h3.2⟩, fun h3 => ⟨h3.1, h3.2.2⟩⟩
    · exact Ret.vl h1 (Ret.no (fun ⟨_, ⟨f, hf, e⟩, _⟩ => h2 f hf e))

end Go.Proofs.YthgnfidnmnkeaaaGreatEv
