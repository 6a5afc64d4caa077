/- What is ok of a node: doubts, places, other sites; the whole. -/
import Derived.Test.YthgnfidnmnkeaaaGreatPu4
namespace Go.Proofs.YthgnfidnmnkeaaaGreatEv
open Go

def CoordP (c : Coord) : Prop := InP c.1 (-100000) 100000 ∧ InP c.2.1 (-100000) 100000 ∧ InP c.2.2.1 0 100000 ∧ InP c.2.2.2 1 1500
theorem coord_s (K : Nat) (c : Coord) : Ret (spec_CoordOk.f K (c, ())) (CoordP c) :=
  Ret.px (in_s K _ _ _) fun _ => Ret.px (in_s K _ _ _) fun _ => Ret.px (in_s K _ _ _) fun _ => (in_s K _ _ _).id
theorem coord_i (K : Nat) (c : Coord) : Ret (impl_CoordOk.f K (c, ())) (CoordP c) :=
  Ret.px (in_i K _ _ _) fun _ => Ret.px (in_i K _ _ _) fun _ => Ret.px (in_i K _ _ _) fun _ => (in_i K _ _ _).id

/-! ### Places -/
def PlaceP (me : Int) (p : Place) : Prop := InP p.1 0 7 ∧ siteI p.1 = siteI me ∧ p.1 ≠ me ∧ CoordP p.2.1 ∧ InP (p.2.2.length : Int) 1 3 ∧ ∀ t ∈ p.2.2, InP t 1 60000
def PlacesP (me : Int) (l : List Place) : Prop := (∀ p ∈ l, PlaceP me p) ∧ Asc (fun p : Place => p.1) l

theorem near_i (K : Nat) (n : Node) (x : Int) : Ret (impl_Node_near.f K (n, x, ())) (InP x 0 7 ∧ siteI x = siteI n.1) := by
  refine Ret.px (isNode_i K x) fun _ => ?_
  exact Ret.of (b := siteI x == siteI n.1) (by simp)
theorem other_i (K : Nat) (n : Node) (x : Int) : Ret (impl_Node_other.f K (n, x, ())) ((InP x 0 7 ∧ siteI x = siteI n.1) ∧ x ≠ n.1) := by
  refine Ret.px (near_i K n x) fun _ => ?_
  exact Ret.of (b := x != n.1) (by simp)

theorem places_s (K : Nat) (n : Node) (hn : NB n) (hK : 1048577 < K) : Ret (spec_l21PlacesOk.f K (n, ())) (PlacesP n.1 (Node.places n)) := by
  refine (ret_loop (Node.places n) (step := fun rec a => spec_l21PlacesOk.l0.step K (n, ()) (spec_l21PlacesOk.l1 K (n, ()) rec) rec a)
    (fun i hi => InP (Node.places n)[i].1 0 7 ∧ ¬ siteI (Node.places n)[i].1 ≠ siteI n.1 ∧ ¬ (Node.places n)[i].1 = n.1 ∧ (0 < i → ¬ ((Node.places n)[i - 1]'(by omega)).1 ≥ (Node.places n)[i].1) ∧
      CoordP (Node.places n)[i].2.1 ∧ InP ((Node.places n)[i].2.2.length : Int) 1 3 ∧ ∀ k (hk : k < (Node.places n)[i].2.2.length), InP (Node.places n)[i].2.2[k] 1 60000 ∧ True) hn.places ?_ ?_ hK (fun _ => Ret.yes trivial)).iff (true_and'.trans ?_)
  · intro rec i hi
    have hb := hn.trips _ (List.getElem_mem hi)
    have hl := hn.places
    have inner : Rnd (spec_l21PlacesOk.l1 K (n, ()) rec ((i : Int), 0, (Node.places n)[i].1, (Node.places n)[i].2.1.1, (Node.places n)[i].2.1.2.1, (Node.places n)[i].2.1.2.2.1, (Node.places n)[i].2.1.2.2.2, (Node.places n)[i].2.2))
        (∀ k (hk : k < (Node.places n)[i].2.2.length), InP (Node.places n)[i].2.2[k] 1 60000 ∧ True) (rec (wr .i64 ((i : Int) + 1))) := by
      generalize (Node.places n)[i] = p at hb
      refine rnd_loop p.2.2 (step := fun rec1 a => spec_l21PlacesOk.l1.step K (n, ()) rec rec1 a) (fun k => ((i : Int), (k : Int), p.1, p.2.1.1, p.2.1.2.1, p.2.1.2.2.1, p.2.1.2.2.2, p.2.2)) (fun k hk => InP p.2.2[k] 1 60000 ∧ True) hb ?_ ?_ hK
      · intro rec1 k hk
        simp only [spec_l21PlacesOk.l1.step]
        rw [decide_eq_true (by omega : (k : Int) < (List.length p.2.2 : Int)), wr_succ k (by omega)]
        simp only [cond_true]
        exact Rnd.ix (idx_get hk) (Rnd.nx (in_s K _ _ _) fun _ => Rnd.end_)
      · intro rec1
        simp only [spec_l21PlacesOk.l1.step, decNl]
        rfl
    simp only [spec_l21PlacesOk.l0.step]
    rw [decide_eq_true (by omega : (i : Int) < (List.length (Node.places n) : Int))]
    simp only [cond_true]
    refine Rnd.ix (idx_get hi) (Rnd.nx (in_s K _ _ _) fun _ => Rnd.vl (site_s K _) (Rnd.vl (site_s K _) (Rnd.cndN (by simp) fun _ => Rnd.cndN (by simp) fun _ => Rnd.two (fun h0 => ?_) ?_)))
    · rw [wr_pred i h0 (by omega)]
      exact Rnd.ix (idx_get (show i - 1 < (Node.places n).length by omega)) (Rnd.cndN (by simp) fun _ => Rnd.nx (coord_s K _) fun _ => Rnd.nx (in_s K _ _ _) fun _ => inner)
    · exact Rnd.nx (coord_s K _) fun _ => Rnd.nx (in_s K _ _ _) fun _ => inner
  · intro rec
    simp only [spec_l21PlacesOk.l0.step, decNl]
    rfl
  · rw [PlacesP, all_get, asc_adj]
    constructor
    · intro h
      refine ⟨fun i hi => ?_, fun i hi h0 => ?_⟩
      · obtain ⟨h1, h2, h3, h4, h5, h6, h7⟩ := h i hi
        exact ⟨h1, Classical.not_not.1 h2, h3, h5, h6, all_get.2 fun k hk => (h7 k hk).1⟩
      · have := (h i hi).2.2.2.1 h0; omega
    · rintro ⟨h1, h2⟩ i hi
      obtain ⟨h3, h4, h5, h6, h7, h8⟩ := h1 i hi
      exact ⟨h3, Classical.not_not.2 h4, h5, fun h0 => by have := h2 i hi h0; omega, h6, h7, fun k hk => ⟨all_get.1 h8 k hk, trivial⟩⟩

theorem places_i (K : Nat) (n : Node) (hn : NB n) (hK : 1048577 < K) : Ret (impl_Node_placesOk.f K (n, ())) (PlacesP n.1 (Node.places n)) := by
  refine (ret_loop (Node.places n) (step := fun rec a => impl_Node_placesOk.l0.step K (n, ()) rec a)
    (fun i hi => ((InP (Node.places n)[i].1 0 7 ∧ siteI (Node.places n)[i].1 = siteI n.1) ∧ (Node.places n)[i].1 ≠ n.1) ∧ (0 < i → ¬ (Node.places n)[i].1 ≤ ((Node.places n)[i - 1]'(by omega)).1) ∧
      CoordP (Node.places n)[i].2.1 ∧ InP ((Node.places n)[i].2.2.length : Int) 1 3 ∧ (¬ ∃ t ∈ (Node.places n)[i].2.2, ¬ InP t 1 60000) ∧ True) hn.places ?_ ?_ hK (fun _ => Ret.yes trivial)).iff (true_and'.trans ?_)
  · intro rec i hi
    have hb := hn.trips _ (List.getElem_mem hi)
    have hl := hn.places
    have inner : Ret (slices_ContainsFunc_int_int.f K ((Node.places n)[i].2.2, (fun y6 => (impl_Node_placesOk_1.f K (y6.1, ())).map fun y => y.1.1), ())) (∃ t ∈ (Node.places n)[i].2.2, ¬ InP t 1 60000) :=
      idxInt_i K _ _ _ hb hK (fun t _ => Ret.fn (in_i K t _ _).neg)
    simp only [impl_Node_placesOk.l0.step]
    rw [decide_eq_true (by omega : (i : Int) < (List.length (Node.places n) : Int))]
    simp only [cond_true]
    refine Rnd.ix (idx_get hi) (Rnd.nx (other_i K n _) fun _ => Rnd.two (fun h0 => ?_) ?_)
    · rw [wr_pred i h0 (by omega)]
      exact Rnd.ix (idx_get (show i - 1 < (Node.places n).length by omega)) (Rnd.cndN (by simp) fun _ => Rnd.nx (coord_i K _) fun _ => Rnd.nx (in_i K _ _ _) fun _ => Rnd.fx inner fun _ => Rnd.end_)
    · exact Rnd.nx (coord_i K _) fun _ => Rnd.nx (in_i K _ _ _) fun _ => Rnd.fx inner fun _ => Rnd.end_
  · intro rec
    simp only [impl_Node_placesOk.l0.step, decNl]
    rfl
  · rw [PlacesP, all_get, asc_adj]
    constructor
    · intro h
      refine ⟨fun i hi => ?_, fun i hi h0 => ?_⟩
      · obtain ⟨⟨⟨h1, h2⟩, h3⟩, h4, h5, h6, h7, _⟩ := h i hi
        exact ⟨h1, h2, h3, h5, h6, fun t ht => Classical.not_not.1 fun h8 => h7 ⟨t, ht, h8⟩⟩
      · have := (h i hi).2.1 h0; omega
    · rintro ⟨h1, h2⟩ i hi
      obtain ⟨h3, h4, h5, h6, h7, h8⟩ := h1 i hi
      exact ⟨⟨⟨h3, h4⟩, h5⟩, fun h0 => by have := h2 i hi h0; omega, h6, h7, fun ⟨t, ht, h9⟩ => h9 (h8 t ht), trivial⟩

/-! ### Other sites -/
def OtherP (me : Int) (x : Foreign) : Prop := InP x.1 0 1 ∧ x.1 ≠ siteI me ∧ x.2 ≠ [] ∧ TableP x.2 ∧ SiteP x.2 x.1
def OthersP (me : Int) (l : List Foreign) : Prop := (∀ x ∈ l, OtherP me x) ∧ Asc (fun x : Foreign => x.1) l

theorem len0 {α : Type} (l : List α) : ((List.length l : Int) == 0) = true ↔ l = [] := by
  cases l <;> simp
  omega

theorem others_s (K : Nat) (n : Node) (hn : NB n) (hK : 1048577 < K) : Ret (spec_l21OthersOk.f K (n, ())) (OthersP n.1 (Node.others n)) := by
  refine (ret_loop (Node.others n) (step := fun rec a => spec_l21OthersOk.l0.step K (n, ()) rec a)
    (fun i hi => InP (Node.others n)[i].1 0 1 ∧ ¬ (Node.others n)[i].1 = siteI n.1 ∧ (0 < i → ¬ ((Node.others n)[i - 1]'(by omega)).1 ≥ (Node.others n)[i].1) ∧
      ¬ (Node.others n)[i].2 = [] ∧ TableP (Node.others n)[i].2 ∧ SiteP (Node.others n)[i].2 (Node.others n)[i].1 ∧ True) hn.others ?_ ?_ hK (fun _ => Ret.yes trivial)).iff (true_and'.trans ?_)
  · intro rec i hi
    have hb := hn.facts _ (List.getElem_mem hi)
    have hl := hn.others
    simp only [spec_l21OthersOk.l0.step]
    rw [decide_eq_true (by omega : (i : Int) < (List.length (Node.others n) : Int))]
    simp only [cond_true]
    refine Rnd.ix (idx_get hi) (Rnd.nx (in_s K _ _ _) fun _ => Rnd.vl (site_s K _) (Rnd.cndN (by simp) fun _ => Rnd.two (fun h0 => ?_) ?_))
    · rw [wr_pred i h0 (by omega)]
      exact Rnd.ix (idx_get (show i - 1 < (Node.others n).length by omega)) (Rnd.cndN (by simp) fun _ => Rnd.cndN (len0 _) fun _ => Rnd.nx (tableOk_s K _ hb hK) fun _ => Rnd.nx (l4Site_s K _ _ hb hK) fun _ => Rnd.end_)
    · exact Rnd.cndN (len0 _) fun _ => Rnd.nx (tableOk_s K _ hb hK) fun _ => Rnd.nx (l4Site_s K _ _ hb hK) fun _ => Rnd.end_
  · intro rec
    simp only [spec_l21OthersOk.l0.step, decNl]
    rfl
  · rw [OthersP, all_get, asc_adj]
    constructor
    · intro h
      exact ⟨fun i hi => ⟨(h i hi).1, (h i hi).2.1, (h i hi).2.2.2.1, (h i hi).2.2.2.2.1, (h i hi).2.2.2.2.2.1⟩, fun i hi h0 => by have := (h i hi).2.2.1 h0; omega⟩
    · rintro ⟨h1, h2⟩ i hi
      obtain ⟨h3, h4, h5, h6, h7⟩ := h1 i hi
      exact ⟨h3, h4, fun h0 => by have := h2 i hi h0; omega, h5, h6, h7, trivial⟩

theorem others_i (K : Nat) (n : Node) (hn : NB n) (hK : 1048577 < K) : Ret (impl_Node_othersOk.f K (n, ())) (OthersP n.1 (Node.others n)) := by
  refine (ret_loop (Node.others n) (step := fun rec a => impl_Node_othersOk.l0.step K (n, ()) rec a)
    (fun i hi => InP (Node.others n)[i].1 0 1 ∧ ¬ (Node.others n)[i].1 = siteI n.1 ∧ (0 < i → ¬ (Node.others n)[i].1 ≤ ((Node.others n)[i - 1]'(by omega)).1) ∧
      ¬ (Node.others n)[i].2 = [] ∧ TableP (Node.others n)[i].2 ∧ SiteP (Node.others n)[i].2 (Node.others n)[i].1 ∧ True) hn.others ?_ ?_ hK (fun _ => Ret.yes trivial)).iff (true_and'.trans ?_)
  · intro rec i hi
    have hb := hn.facts _ (List.getElem_mem hi)
    have hl := hn.others
    have h7 : siteI 7 = 1 := by unfold siteI; rw [wr64 (by decide) (by decide)]; decide
    have hin := in_i K (Node.others n)[i].1 0 (siteI 7)
    rw [h7] at hin
    simp only [impl_Node_othersOk.l0.step]
    rw [decide_eq_true (by omega : (i : Int) < (List.length (Node.others n) : Int))]
    simp only [cond_true]
    refine Rnd.ix (idx_get hi) (Rnd.vl (site_i K 7) ?_)
    dsimp only
    rw [h7]
    refine Rnd.nx hin fun _ => Rnd.vl (nsite_i K n) (Rnd.cndN (by simp) fun _ => Rnd.two (fun h0 => ?_) ?_)
    · rw [wr_pred i h0 (by omega)]
      exact Rnd.ix (idx_get (show i - 1 < (Node.others n).length by omega)) (Rnd.cndN (by simp) fun _ => Rnd.cndN (len0 _) fun _ => Rnd.nx (tableOk_i K _ hb hK) fun _ => Rnd.nx (ofSite_i K _ _ hb hK) fun _ => Rnd.end_)
    · exact Rnd.cndN (len0 _) fun _ => Rnd.nx (tableOk_i K _ hb hK) fun _ => Rnd.nx (ofSite_i K _ _ hb hK) fun _ => Rnd.end_
  · intro rec
    simp only [impl_Node_othersOk.l0.step, decNl]
    rfl
  · rw [OthersP, all_get, asc_adj]
    constructor
    · intro h
      exact ⟨fun i hi => ⟨(h i hi).1, (h i hi).2.1, (h i hi).2.2.2.1, (h i hi).2.2.2.2.1, (h i hi).2.2.2.2.2.1⟩, fun i hi h0 => by have := (h i hi).2.2.1 h0; omega⟩
    · rintro ⟨h1, h2⟩ i hi
      obtain ⟨h3, h4, h5, h6, h7⟩ := h1 i hi
      exact ⟨h3, h4, fun h0 => by have := h2 i hi h0; omega, h5, h6, h7, trivial⟩

end Go.Proofs.YthgnfidnmnkeaaaGreatEv
