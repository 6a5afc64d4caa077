/- FnExactWorldOk: the plain law. -/
import Derived.Test.YthgnfidnmnkeaaaGreatPuX
namespace Go.Proofs.YthgnfidnmnkeaaaGreatEv
open Go

def LessP (f g : Fact) : Prop := if f.1 ≠ g.1 then f.1 < g.1 else Over g f
theorem less_s (K : Nat) (f g : Fact) : Ret (spec_l51Less.f K (f, g, ())) (LessP f g) := by
  simp only [spec_l51Less.f, spec_l51Less.pre, LessP]
  by_cases h : f.1 = g.1
  · rw [show (f.1 != g.1) = false by simpa using h, if_neg (fun h2 => h2 h)]
    exact (over_s K g f).id
  · rw [show (f.1 != g.1) = true by simpa using h, if_pos h]
    exact Ret.dec

theorem cmpF_less (f g : Fact) : ¬ cmpF f g ≥ 0 ↔ LessP f g := by
  unfold cmpF LessP
  by_cases h0 : f.1 = g.1
  · rw [orI_zero ((cmp_zero f.1 g.1).2 h0), if_neg (show ¬ f.1 ≠ g.1 from fun h => h h0)]
    unfold Over
    by_cases h1 : f.2.1 = g.2.1
    · rw [orI_zero ((cmp_zero f.2.1 g.2.1).2 h1), if_neg (show ¬ g.2.1 ≠ f.2.1 from fun h => h h1.symm)]
      by_cases h2 : f.2.2.1 = g.2.2.1
      · rw [orI_zero ((cmp_zero f.2.2.1 g.2.2.1).2 h2), if_neg (show ¬ g.2.2.1 ≠ f.2.2.1 from fun h => h h2.symm)]
        cases f.2.2.2 <;> cases g.2.2.2 <;> simp [orI]
      · rw [orI_pos (fun h => h2 ((cmp_zero f.2.2.1 g.2.2.1).1 h)), if_pos (show g.2.2.1 ≠ f.2.2.1 from fun h => h2 h.symm)]
        have := cmp_sign f.2.2.1 g.2.2.1
        omega
    · rw [orI_pos (fun h => h1 ((cmp_zero f.2.1 g.2.1).1 h)), if_pos (show g.2.1 ≠ f.2.1 from fun h => h1 h.symm)]
      have := cmp_sign f.2.1 g.2.1
      omega
  · rw [orI_pos (fun h => h0 ((cmp_zero f.1 g.1).1 h)), if_pos (show f.1 ≠ g.1 from h0)]
    have := cmp_sign f.1 g.1
    omega

/-- May the i-th node be a gate. -/
def gateB (i : Nat) : Bool := decide (Int.tmod (i : Int) 4 < 3)
theorem gate_s (K i : Nat) : spec_l51Gate.f K ((i : Int), ()) = rb (gateB i) := rfl
theorem gate_i (K i : Nat) : impl_mayGate.f K ((i : Int), ()) = rb (gateB i) := by
  simp only [impl_mayGate.f, impl_mayGate.pre, gateB]
  rw [Int.tmod_eq_emod_of_nonneg (by omega)]
  have : ((i : Int) % 4 != 3) = decide ((i : Int) % 4 < 3) := by
    rw [Bool.eq_iff_iff]
    simp only [bne_iff_ne, ne_eq, decide_eq_true_eq]
    omega
  rw [this]

def NodeAt (w : World') (i : Nat) (hi : i < (World'.nodes w).length) : Prop := (World'.nodes w)[i].1 = (i : Int) ∧ (World'.nodes w)[i].2.2.2.1 = gateB i ∧ NodeP (World'.nodes w)[i] ∧ (∀ h : i < (World'.sides w).length, InP (World'.sides w)[i] 0 2)
def FlightP (f : Flight) : Prop := InP f.1 0 7 ∧ ¬ (f.2.1.size : Int) > 300
def BornP (l : List Fact) : Prop := ∀ i (hi : i < l.length), FactP l[i] ∧ (0 < i → LessP (l[i - 1]'(by omega)) l[i])
def WorldP (w : World') : Prop := (World'.nodes w).length = 8 ∧ (World'.sides w).length = 8 ∧ (World'.radio w).length ≤ 60 ∧ (∀ i hi, NodeAt w i hi) ∧ (∀ f ∈ World'.radio w, FlightP f) ∧ BornP (World'.born w)

theorem born_s (K : Nat) (w : World') (hw : WB w) (hK : 1048577 < K) : Ret (spec_WorldOk.l2 K (w, ()) 0) (BornP (World'.born w)) := by
  have hl := hw.born
  refine (ret_loop (World'.born w) (step := fun rec a => spec_WorldOk.l2.step K (w, ()) rec a) (fun i hi => FactP (World'.born w)[i] ∧ (0 < i → LessP ((World'.born w)[i - 1]'(by omega)) (World'.born w)[i]) ∧ True) hl ?_ ?_ hK (fun _ => Ret.yes trivial)).iff (true_and'.trans ?_)
  · intro rec i hi
    simp only [spec_WorldOk.l2.step]
    rw [decide_eq_true (by omega : (i : Int) < (List.length (World'.born w) : Int))]
    simp only [cond_true]
    refine Rnd.ix (idx_get hi) (Rnd.nx (factOk_s K _) fun _ => Rnd.two (fun h0 => ?_) Rnd.end_)
    rw [wr_pred i h0 (by omega)]
    exact Rnd.ix (idx_get (show i - 1 < (World'.born w).length by omega)) (Rnd.ix (idx_get hi) (Rnd.nx (less_s K _ _) fun _ => Rnd.end_))
  · intro rec
    simp only [spec_WorldOk.l2.step, decNl]
    rfl
  · exact ⟨fun h i hi => ⟨(h i hi).1, (h i hi).2.1⟩, fun h i hi => ⟨(h i hi).1, (h i hi).2, trivial⟩⟩

theorem worldOk_s (K : Nat) (w : World') (hw : WB w) (hK : 1048577 < K) : Ret (spec_WorldOk.f K (w, ())) (WorldP w) := by
  refine (Ret.cndN (b := (List.length (World'.nodes w) : Int) != 8) (P := (World'.nodes w).length ≠ 8) (Q := ¬ (World'.sides w).length ≠ (World'.nodes w).length ∧ ¬ (World'.radio w).length > 60 ∧ (∀ i hi, NodeAt w i hi) ∧ (∀ i (hi : i < (World'.radio w).length), FlightP (World'.radio w)[i]) ∧ BornP (World'.born w)) (by simp; omega) fun h1 =>
    Ret.cndN (b := (List.length (World'.sides w) : Int) != (List.length (World'.nodes w) : Int)) (P := (World'.sides w).length ≠ (World'.nodes w).length) (by simp; omega) fun h2 => Ret.cndN (b := decide ((List.length (World'.radio w) : Int) > 60)) (P := (World'.radio w).length > 60) (by simp; omega) fun h3 => ?_).iff ?_
  · show Ret (spec_WorldOk.l0 K (w, ()) 0) _
    refine ret_loop (World'.nodes w) (step := fun rec a => spec_WorldOk.l0.step K (w, ()) (spec_WorldOk.l1 K (w, ())) rec a) (fun i hi => NodeAt w i hi) hw.nodes ?_ (rt := spec_WorldOk.l1 K (w, ()) 0) ?_ hK fun _ => ?_
    · intro rec i hi
      have hi2 : i < (World'.sides w).length := by omega
      simp only [spec_WorldOk.l0.step]
      rw [decide_eq_true (by omega : (i : Int) < (List.length (World'.nodes w) : Int))]
      simp only [cond_true]
      refine (Rnd.ix (idx_get hi) (Rnd.cndN (b := (World'.nodes w)[i].1 != (i : Int)) (P := ¬ (World'.nodes w)[i].1 = (i : Int)) (by simp) fun _ => Rnd.ix (idx_get hi) (Rnd.vl (gate_s K i) (Rnd.cndN (b := (World'.nodes w)[i].2.2.2.1 != gateB i) (P := ¬ (World'.nodes w)[i].2.2.2.1 = gateB i) (by simp) fun _ => Rnd.ix (idx_get hi) (Rnd.nx (nodeOk_s K _ (hw.node _ (List.getElem_mem hi)) hK) fun _ =>
        Rnd.ix (idx_get hi2) (Rnd.nx (in_s K _ _ _) fun _ => Rnd.end_)))))).iff ?_
      unfold NodeAt
      constructor
      · rintro ⟨a, b, c, d, _⟩; exact ⟨Classical.not_not.1 a, Classical.not_not.1 b, c, fun _ => d⟩
      · rintro ⟨a, b, c, d⟩; exact ⟨fun h => h a, fun h => h b, c, d hi2, trivial⟩
    · intro rec
      simp only [spec_WorldOk.l0.step, decNl]
      rfl
    · refine ret_loop (World'.radio w) (step := fun rec a => spec_WorldOk.l1.step K (w, ()) (spec_WorldOk.l2 K (w, ())) rec a) (fun i hi => FlightP (World'.radio w)[i]) hw.radio ?_ (rt := spec_WorldOk.l2 K (w, ()) 0) ?_ hK fun _ => born_s K w hw hK
      · intro rec i hi
        have hl := hw.radio
        simp only [spec_WorldOk.l1.step]
        rw [decide_eq_true (by omega : (i : Int) < (List.length (World'.radio w) : Int))]
        simp only [cond_true]
        refine Rnd.iff (P := InP (World'.radio w)[i].1 0 7 ∧ ¬ ((World'.radio w)[i].2.1.size : Int) > 300 ∧ True) (Rnd.ix (idx_get hi) (Rnd.nx (in_s K _ _ _) fun _ => Rnd.ix (idx_get hi) (Rnd.cndN (b := decide (((World'.radio w)[i].2.1.size : Int) > 300)) (by simp) fun _ => Rnd.end_))) ⟨fun h => ⟨h.1, h.2.1⟩, fun h => ⟨h.1, h.2, trivial⟩⟩
      · intro rec
        simp only [spec_WorldOk.l1.step, decNl]
        rfl
  · unfold WorldP
    rw [← all_get (p := FlightP)]
    constructor
    · rintro ⟨h1, h2, h3, h4⟩; exact ⟨by omega, by omega, by omega, h4⟩
    · rintro ⟨h1, h2, h3, h4⟩; exact ⟨by omega, by omega, by omega, h4⟩

theorem idxFlight_i (K : Nat) (t : List Flight) (φ : Flight × Unit → Option Bool) (p : Flight → Prop) (ht : t.length ≤ 1048576) (hK : 1048577 < K) (hφ : ∀ f ∈ t, ∃ b, φ (f, ()) = some b ∧ (b = true ↔ p f)) :
    Ret (slices_ContainsFunc_impl_Flight_impl_Flight.f K (t, φ, ())) (∃ f ∈ t, p f) := by
  have hi := iter_first (step := fun rec a => slices_IndexFunc_impl_Flight_impl_Flight.l0.step K (t, φ, ()) rec a) t.length (fun i => (i : Int)) (fun j => ∃ h : j < t.length, p t[j]) (some ((-1, ()), ())) (fun j => some ((((j : Nat) : Int), ()), ())) (by
    intro rec i hi
    simp only [slices_IndexFunc_impl_Flight_impl_Flight.l0.step]
    rw [decide_eq_true (show (i : Int) < (List.length t : Int) by omega), idx_get hi, wr_succ i (by omega)]
    simp only [cond_true, Option.bind_some]
    obtain ⟨b, h1, h2⟩ := hφ _ (List.getElem_mem hi)
    rw [h1]
    cases b with
    | true => exact .inr ⟨⟨hi, h2.1 rfl⟩, rfl⟩
    | false => exact .inl ⟨fun ⟨_, h⟩ => by simpa using h2.2 h, rfl⟩) (by
    intro rec
    simp only [slices_IndexFunc_impl_Flight_impl_Flight.l0.step, decNl]
    rfl) t.length K 0 (by omega) (by omega)
  simp only [slices_ContainsFunc_impl_Flight_impl_Flight.f, slices_ContainsFunc_impl_Flight_impl_Flight.pre]
  rcases hi with ⟨i1, i2⟩ | ⟨j, _, j1, ⟨j2, j3⟩, _, j4⟩
  · rw [show slices_IndexFunc_impl_Flight_impl_Flight.f K (t, φ, ()) = some ((-1, ()), ()) from i2]
    refine Ret.no ?_
    rintro ⟨f, hf, hp⟩
    obtain ⟨i, hi, e⟩ := List.getElem_of_mem hf
    subst e
    exact i1 i (Nat.zero_le _) hi ⟨hi, hp⟩
  · rw [show slices_IndexFunc_impl_Flight_impl_Flight.f K (t, φ, ()) = some ((((j : Nat) : Int), ()), ()) from j4]
    simp only [Option.bind_some]
    rw [show decide (((j : Nat) : Int) ≥ 0) = true from decide_eq_true (by omega)]
    exact Ret.yes ⟨_, List.getElem_mem j2, j3⟩

theorem flightBad_i (K : Nat) (f : Flight) : Ret (impl_WorldOk_1.f K (f, ())) (¬ FlightP f) := by
  simp only [impl_WorldOk_1.f, impl_WorldOk_1.pre, FlightP]
  obtain ⟨b, h1, h2⟩ := isNode_i K f.1
  rw [h1]
  cases b with
  | false => exact Ret.yes fun h => by simpa using h2.2 h.1
  | true =>
    have h3 := h2.1 rfl
    refine (Ret.dec (P := (f.2.1.size : Int) > 300)).iff ⟨fun h4 h5 => h5.2 h4, fun h => ?_⟩
    exact Classical.byContradiction fun h4 => h ⟨h3, h4⟩

theorem worldOk_i (K : Nat) (w : World') (hw : WB w) (hK : 1048577 < K) : Ret (impl_WorldOk.f K (w, ())) (WorldP w) := by
  refine (Ret.cndN (b := (List.length (World'.nodes w) : Int) != 8) (P := (World'.nodes w).length ≠ 8) (Q := ¬ (World'.sides w).length ≠ 8 ∧ ¬ (World'.radio w).length > 60 ∧ (∀ i hi, NodeAt w i hi) ∧ (∀ i (hi : i < (World'.born w).length), FactP (World'.born w)[i] ∧ (0 < i → ¬ cmpF ((World'.born w)[i - 1]'(by omega)) (World'.born w)[i] ≥ 0) ∧ True) ∧ ¬ ∃ f ∈ World'.radio w, ¬ FlightP f) (by simp; omega) fun h1 =>
    Ret.cndN (b := (List.length (World'.sides w) : Int) != 8) (P := (World'.sides w).length ≠ 8) (by simp; omega) fun h2 => Ret.cndN (b := decide ((List.length (World'.radio w) : Int) > 60)) (P := (World'.radio w).length > 60) (by simp; omega) fun h3 => ?_).iff ?_
  · show Ret (impl_WorldOk.l0 K (w, ()) 0) _
    refine ret_loop (World'.nodes w) (step := fun rec a => impl_WorldOk.l0.step K (w, ()) (impl_WorldOk.l1 K (w, ())) rec a) (fun i hi => NodeAt w i hi) hw.nodes ?_ (rt := impl_WorldOk.l1 K (w, ()) 0) ?_ hK fun _ => ?_
    · intro rec i hi
      have hi2 : i < (World'.sides w).length := by omega
      simp only [impl_WorldOk.l0.step]
      rw [decide_eq_true (by omega : (i : Int) < (List.length (World'.nodes w) : Int))]
      simp only [cond_true]
      refine (Rnd.ix (idx_get hi) (Rnd.nx (nodeOk_i K _ (hw.node _ (List.getElem_mem hi)) hK) fun _ => Rnd.cndN (b := (World'.nodes w)[i].1 != (i : Int)) (P := ¬ (World'.nodes w)[i].1 = (i : Int)) (by simp) fun _ => Rnd.vl (gate_i K i) (Rnd.cndN (b := (World'.nodes w)[i].2.2.2.1 != gateB i) (P := ¬ (World'.nodes w)[i].2.2.2.1 = gateB i) (by simp) fun _ =>
        Rnd.ix (idx_get hi2) (Rnd.nx (in_i K _ _ _) fun _ => Rnd.end_)))).iff ?_
      unfold NodeAt
      constructor
      · rintro ⟨c, a, b, d, _⟩; exact ⟨Classical.not_not.1 a, Classical.not_not.1 b, c, fun _ => d⟩
      · rintro ⟨a, b, c, d⟩; exact ⟨c, fun h => h a, fun h => h b, d hi2, trivial⟩
    · intro rec
      simp only [impl_WorldOk.l0.step, decNl]
      rfl
    · refine ret_loop (World'.born w) (step := fun rec a => impl_WorldOk.l1.step K (w, ()) rec a) (fun i hi => FactP (World'.born w)[i] ∧ (0 < i → ¬ cmpF ((World'.born w)[i - 1]'(by omega)) (World'.born w)[i] ≥ 0) ∧ True) hw.born ?_
        (rt := (slices_ContainsFunc_impl_Flight_impl_Flight.f K (World'.radio w, fun y10 => (impl_WorldOk_1.f K (y10.1, ())).map fun y => y.1.1, ())).bind fun y11 => some ((!y11.1.1, ()), ())) ?_ hK fun _ => ?_
      · intro rec i hi
        have hl := hw.born
        simp only [impl_WorldOk.l1.step]
        rw [decide_eq_true (by omega : (i : Int) < (List.length (World'.born w) : Int))]
        simp only [cond_true]
        refine Rnd.ix (idx_get hi) (Rnd.nx (factOk_i K _) fun _ => Rnd.two (fun h0 => ?_) Rnd.end_)
        rw [wr_pred i h0 (by omega)]
        exact Rnd.ix (idx_get (show i - 1 < (World'.born w).length by omega)) (Rnd.vl (compare_i K _ _ hK) (Rnd.cndN (b := decide (cmpF ((World'.born w)[i - 1]'(by omega)) (World'.born w)[i] ≥ 0)) decide_eq_true_iff fun _ => Rnd.end_))
      · intro rec
        simp only [impl_WorldOk.l1.step, decNl]
        rfl
      · exact (idxFlight_i K _ _ (fun f => ¬ FlightP f) hw.radio hK (fun f _ => (flightBad_i K f).fn)).neg
  · unfold WorldP BornP
    constructor
    · rintro ⟨h1, h2, h3, h4, h5, h6⟩
      exact ⟨by omega, by omega, by omega, h4, fun f hf => Classical.byContradiction fun h => h6 ⟨f, hf, h⟩, fun i hi => ⟨(h5 i hi).1, fun h0 => (cmpF_less _ _).1 ((h5 i hi).2.1 h0)⟩⟩
    · rintro ⟨h1, h2, h3, h4, h5, h6⟩
      exact ⟨by omega, by omega, by omega, h4, fun i hi => ⟨(h6 i hi).1, fun h0 => (cmpF_less _ _).2 ((h6 i hi).2 h0), trivial⟩, fun ⟨f, hf, h⟩ => h (h5 f hf)⟩

theorem law_WorldOk (K : Nat) (w : World') (hw : WM w) (hK : 1048577 < K) : laws_FnExactWorldOk.f K (w, ()) = some ((true, ()), ()) := by
  simp only [laws_FnExactWorldOk.f, laws_FnExactWorldOk.pre]
  obtain ⟨r, h1, h2⟩ := szWorld_ok K w hw 1048576 (by omega) (by omega) hK
  rw [h1, Option.bind_some]
  rcases h2 with h2 | ⟨h2, _, hb⟩
  · rw [decide_eq_true h2]; rfl
  · rw [show decide (r < 0) = false from decide_eq_false (by omega)]
    obtain ⟨b, h3, h4⟩ := (worldOk_s K w hb hK).same (worldOk_i K w hb hK) Iff.rfl
    simp only [cond_false, toWorld_ok K w hb hK, Option.bind_some]
    rw [h3]
    simp only [Option.bind_some]
    rw [h4]
    simp only [Option.bind_some, bne_self_eq_false, cond_false]
    rw [eqWorld_refl K w hb hK]
    rfl

end Go.Proofs.YthgnfidnmnkeaaaGreatEv
