/- FnExactWorldSafe: the plain law. -/
import Derived.Test.YthgnfidnmnkeaaaGreatP2
namespace Go.Proofs.YthgnfidnmnkeaaaGreatEv
open Go
theorem born_mem (K : Nat) (l : List Fact) (f : Fact) (hl : l.length ≤ 1048576) (hK : 1048577 < K) : Ret (spec_l51Born.f K (l, f, ())) (f ∈ l) := by
  have := iter_first (step := fun rec a => spec_l51Born.l0.step K (l, f, ()) rec a) l.length (fun i => (i : Int)) (fun j => ∃ h : j < l.length, l[j] = f) (rb false) (fun _ => rb true) ?_ ?_ l.length K 0 (by omega) (by omega)
  · rcases this with ⟨h1, h2⟩ | ⟨j, _, _, ⟨h3, h4⟩, _, h2⟩
    · refine ⟨false, h2, ?_⟩
      refine ⟨fun h => absurd h (by decide), fun hf => ?_⟩
      obtain ⟨i, hi, e⟩ := List.getElem_of_mem hf
      exact absurd ⟨hi, e⟩ (h1 i (Nat.zero_le _) hi)
    · exact ⟨true, h2, fun _ => h4 ▸ List.getElem_mem h3, fun _ => rfl⟩
  · intro rec i hi
    simp only [spec_l51Born.l0.step]
    rw [decLt (by omega : (i : Int) < (List.length l : Int)), idx_get hi, wr_succ i (by omega)]
    simp only [cond_true, Option.bind_some]
    rw [eqv_t2]
    by_cases h : l[i] = f
    · rw [decide_eq_true h]; exact .inr ⟨⟨hi, h⟩, rfl⟩
    · rw [decide_eq_false h]; exact .inl ⟨fun ⟨_, h2⟩ => h h2, rfl⟩
  · intro rec
    simp only [spec_l51Born.l0.step, decNl]
    rfl
theorem contains_fact (K : Nat) (l : List Fact) (f : Fact) (hl : l.length ≤ 1048576) (hK : 1048577 < K) : Ret (slices_Contains_impl_Fact_impl_Fact.f K (l, f, ())) (f ∈ l) := by
  have := iter_first (step := fun rec a => slices_Index_impl_Fact_impl_Fact.l0.step K (l, f, ()) rec a) l.length (fun i => (i : Int)) (fun j => ∃ h : j < l.length, f = l[j]) (some ((-1, ()), ())) (fun j => some ((((j : Nat) : Int), ()), ())) ?_ ?_ l.length K 0 (by omega) (by omega)
  · simp only [slices_Contains_impl_Fact_impl_Fact.f, slices_Contains_impl_Fact_impl_Fact.pre]
    rcases this with ⟨h1, h2⟩ | ⟨j, _, _, ⟨h3, h4⟩, _, h2⟩
    · have e : slices_Index_impl_Fact_impl_Fact.f K (l, f, ()) = some ((-1, ()), ()) := h2
      rw [e]
      refine ⟨false, rfl, fun h => absurd h (by decide), fun hf => ?_⟩
      obtain ⟨i, hi, e⟩ := List.getElem_of_mem hf
      exact absurd ⟨hi, e.symm⟩ (h1 i (Nat.zero_le _) hi)
    · have e : slices_Index_impl_Fact_impl_Fact.f K (l, f, ()) = some ((((j : Nat) : Int), ()), ()) := h2
      rw [e]
      refine ⟨true, ?_, fun _ => h4 ▸ List.getElem_mem h3, fun _ => rfl⟩
      simp only [Option.bind_some]
      rw [decide_eq_true (by omega : ((j : Nat) : Int) ≥ 0)]
  · intro rec i hi
    simp only [slices_Index_impl_Fact_impl_Fact.l0.step]
    rw [decLt (by omega : (i : Int) < (List.length l : Int)), idx_get hi, wr_succ i (by omega)]
    simp only [cond_true, Option.bind_some]
    rw [eqv_t2]
    by_cases h : f = l[i]
    · rw [decide_eq_true h]; exact .inr ⟨⟨hi, h⟩, rfl⟩
    · rw [decide_eq_false h]; exact .inl ⟨fun ⟨_, h2⟩ => h h2, rfl⟩
  · intro rec
    simp only [slices_Index_impl_Fact_impl_Fact.l0.step, decNl]
    rfl
def prevOf (f : Fact) : Fact := (f.1, f.2.1, wr .i64 (f.2.2.1 - 1), f.2.2.2)
def FairP (l : List Fact) : Prop := ∀ i (hi : i < l.length), l[i].2.2.1 = 1 ∨ l[i].2.2.1 = 4 ∨ prevOf l[i] ∈ l
theorem fair_s (K : Nat) (l : List Fact) (hl : l.length ≤ 1048576) (hK : 1048577 < K) : Ret (spec_l52Fair.f K (l, ())) (FairP l) := by
  refine (ret_loop l (step := fun rec a => spec_l52Fair.l0.step K (l, ()) rec a) (fun i hi => l[i].2.2.1 = 1 ∨ l[i].2.2.1 = 4 ∨ prevOf l[i] ∈ l) hl ?_ ?_ hK (fun _ => Ret.yes trivial)).iff (true_and'.trans Iff.rfl)
  · intro rec i hi
    simp only [spec_l52Fair.l0.step]
    rw [decLt (by omega : (i : Int) < (List.length l : Int)), idx_get hi]
    simp only [cond_true, Option.bind_some]
    by_cases h1 : l[i].2.2.1 = 1
    · rw [show (l[i].2.2.1 == 1) = true by simpa using h1]
      exact .inl ⟨.inl h1, rfl⟩
    · rw [show (l[i].2.2.1 == 1) = false by simpa using h1]
      simp only [cond_false]
      by_cases h4 : l[i].2.2.1 = 4
      · rw [show (l[i].2.2.1 == 4) = true by simpa using h4]
        exact .inl ⟨.inr (.inl h4), rfl⟩
      · rw [show (l[i].2.2.1 == 4) = false by simpa using h4]
        simp only [cond_false]
        refine (Rnd.nx (born_mem K l (prevOf l[i]) hl hK) fun _ => Rnd.end_).iff ?_
        exact ⟨fun h => .inr (.inr h.1), fun h => ⟨(h.resolve_left h1).resolve_left h4, trivial⟩⟩
  · intro rec
    simp only [spec_l52Fair.l0.step, decNl]
    rfl
theorem known_s (K : Nat) (w : World') (t : List Fact) (ht : t.length ≤ 1048576) (hb : (World'.born w).length ≤ 1048576) (hK : 1048577 < K) : Ret (spec_l52Known.f K (w, t, ())) (∀ f ∈ t, f ∈ World'.born w) := by
  refine (ret_loop t (step := fun rec a => spec_l52Known.l0.step K (w, t, ()) rec a) (fun i hi => t[i] ∈ World'.born w) ht ?_ ?_ hK (fun _ => Ret.yes trivial)).iff (true_and'.trans (all_get (p := fun f => f ∈ World'.born w)).symm)
  · intro rec i hi
    simp only [spec_l52Known.l0.step]
    rw [decLt (by omega : (i : Int) < (List.length t : Int)), idx_get hi]
    simp only [cond_true, Option.bind_some]
    exact (Rnd.nx (born_mem K _ _ hb hK) fun _ => Rnd.end_).iff true_and'
  · intro rec
    simp only [spec_l52Known.l0.step, decNl]
    rfl
def KnownP (w : World') (n : Node) : Prop := (∀ f ∈ Node.table n, f ∈ World'.born w) ∧ ∀ i (hi : i < (Node.others n).length), ∀ f ∈ (Node.others n)[i].2, f ∈ World'.born w
theorem knownP_all {w : World'} {n : Node} : KnownP w n ↔ ∀ f ∈ allOf n, f ∈ World'.born w := by
  unfold KnownP allOf
  rw [← all_get (p := fun x : Foreign => ∀ f ∈ x.2, f ∈ World'.born w)]
  constructor
  · intro ⟨h1, h2⟩ f hf
    rcases List.mem_append.1 hf with h | h
    · exact h1 f h
    · obtain ⟨x, hx, hfx⟩ := List.mem_flatMap.1 h
      exact h2 x hx f hfx
  · intro h
    exact ⟨fun f hf => h f (List.mem_append_left _ hf), fun x hx f hf => h f (List.mem_append_right _ (List.mem_flatMap.2 ⟨x, hx, hf⟩))⟩
theorem safe_s (K : Nat) (w : World') (hw : WB w) (hK : 1048577 < K) : Ret (spec_WorldSafe.f K (w, ())) (WorldP w ∧ FairP (World'.born w) ∧ ∀ i (hi : i < (World'.nodes w).length), KnownP w (World'.nodes w)[i]) := by
  have hb := hw.born
  simp only [spec_WorldSafe.f, spec_WorldSafe.pre]
  refine Ret.nx (worldOk_s K w hw hK) fun _ => Ret.nx (fair_s K _ hb hK) fun _ => ?_
  refine (ret_loop (World'.nodes w) (step := fun rec a => spec_WorldSafe.l0.step K (w, ()) (spec_WorldSafe.l1 K (w, ()) rec) rec a) (fun i hi => KnownP w (World'.nodes w)[i]) hw.nodes ?_ ?_ hK (fun _ => Ret.yes trivial)).iff true_and'
  · intro rec i hi
    have hn := hw.node _ (List.getElem_mem hi)
    simp only [spec_WorldSafe.l0.step]
    rw [decLt (by omega : (i : Int) < (List.length (World'.nodes w) : Int)), idx_get hi]
    simp only [cond_true, Option.bind_some]
    generalize (World'.nodes w)[i] = n at hn
    refine Rnd.nx (known_s K w (Node.table n) hn.table hb hK) fun _ => ?_
    have hl := hn.others
    refine rnd_loop (Node.others n) (step := fun rec1 a => spec_WorldSafe.l1.step K (w, ()) rec rec1 a) (fun j => ((i : Int), (j : Int), n.1, n.2.1, n.2.2.1, n.2.2.2.1, n.2.2.2.2.1, n.2.2.2.2.2.1, n.2.2.2.2.2.2.1, n.2.2.2.2.2.2.2.1, Node.table n, Node.cast n, (Node.probe n).1, (Node.probe n).2.1, (Node.probe n).2.2.1, (Node.probe n).2.2.2, Node.doubts n, (Node.coord n).1, (Node.coord n).2.1, (Node.coord n).2.2.1, (Node.coord n).2.2.2, Node.places n, Node.others n)) (fun j hj => ∀ f ∈ (Node.others n)[j].2, f ∈ World'.born w) hl ?_ ?_ hK
    · intro rec1 j hj
      simp only [spec_WorldSafe.l1.step]
      rw [decLt (by omega : (j : Int) < (List.length (Node.others n) : Int)), idx_get hj, wr_succ j (by omega)]
      simp only [cond_true, Option.bind_some]
      exact (Rnd.nx (known_s K w _ (hn.facts _ (List.getElem_mem hj)) hb hK) fun _ => Rnd.end_).iff true_and'
    · intro rec1
      simp only [spec_WorldSafe.l1.step, decNl]
      rfl
  · intro rec
    simp only [spec_WorldSafe.l0.step, decNl]
    rfl
theorem unborn_i (K : Nat) (w : World') (f : Fact) (hb : (World'.born w).length ≤ 1048576) (hK : 1048577 < K) : Ret (impl_WorldSafe_1.f K (f, w, ())) (¬ f ∈ World'.born w) :=
  Ret.neg (contains_fact K (World'.born w) f hb hK)
set_option maxHeartbeats 2000000 in
theorem safe_i (K : Nat) (w : World') (hw : WB w) (hK : 1048577 < K) : Ret (impl_WorldSafe.f K (w, ())) (WorldP w ∧ (∀ i (hi : i < (World'.nodes w).length), ¬ ∃ f ∈ viewOf (World'.nodes w)[i], ¬ f ∈ World'.born w) ∧ ∀ i (hi : i < (World'.born w).length), InP (World'.born w)[i].2.2.1 2 3 → prevOf (World'.born w)[i] ∈ World'.born w) := by
  have hb := hw.born
  simp only [impl_WorldSafe.f, impl_WorldSafe.pre]
  refine Ret.nx (worldOk_i K w hw hK) fun hW => ?_
  refine ret_loop (World'.nodes w) (step := fun rec a => impl_WorldSafe.l0.step K (w, ()) (impl_WorldSafe.l1 K (w, ())) rec a) (fun i hi => ¬ ∃ f ∈ viewOf (World'.nodes w)[i], ¬ f ∈ World'.born w) hw.nodes ?_ (rt := impl_WorldSafe.l1 K (w, ()) 0) ?_ hK fun _ => ?_
  · intro rec i hi
    have hn := hw.node _ (List.getElem_mem hi)
    have hP := (hW.2.2.2.1 i hi).2.2.1
    have hlen := viewOf_len hn hP
    simp only [impl_WorldSafe.l0.step]
    rw [decLt (by omega : (i : Int) < (List.length (World'.nodes w) : Int)), idx_get hi]
    simp only [cond_true, Option.bind_some]
    rw [viewOf_i K _ hn hP hK]
    simp only [Option.bind_some]
    generalize viewOf (World'.nodes w)[i] = v at hlen
    refine (Rnd.fx (idxFact_i K v (fun y4 => (impl_WorldSafe_1.f K (y4.1, w, ())).map fun y => y.1.1) (fun f => ¬ f ∈ World'.born w) (by omega) hK (fun f _ => (unborn_i K w f hb hK).fn)) fun _ => Rnd.end_).iff true_and'
  · intro rec
    simp only [impl_WorldSafe.l0.step, decNl]
    rfl
  · refine (ret_loop (World'.born w) (step := fun rec a => impl_WorldSafe.l1.step K (w, ()) rec a) (fun i hi => InP (World'.born w)[i].2.2.1 2 3 → prevOf (World'.born w)[i] ∈ World'.born w) hb ?_ ?_ hK (fun _ => Ret.yes trivial)).iff true_and'
    · intro rec i hi
      simp only [impl_WorldSafe.l1.step]
      rw [decLt (by omega : (i : Int) < (List.length (World'.born w) : Int)), idx_get hi]
      simp only [cond_true, Option.bind_some]
      obtain ⟨b, h1, h2⟩ := in_i K (World'.born w)[i].2.2.1 2 3
      rw [h1]
      simp only [Option.bind_some]
      cases b with
      | false => exact .inl ⟨fun h => absurd (h2.2 h) (by decide), rfl⟩
      | true =>
        simp only [cond_true]
        refine (Rnd.fx (unborn_i K w (prevOf (World'.born w)[i]) hb hK) fun _ => Rnd.end_).iff ?_
        exact ⟨fun h _ => Classical.not_not.1 h.1, fun h => ⟨fun h3 => h3 (h (h2.1 rfl)), trivial⟩⟩
    · intro rec
      simp only [impl_WorldSafe.l1.step, decNl]
      rfl
theorem worldSafe_same (K : Nat) (w : World') (hw : WB w) (hK : 1048577 < K) : ∃ b, spec_WorldSafe.f K (w, ()) = rb b ∧ impl_WorldSafe.f K (w, ()) = rb b := by
  refine Ret.same (safe_s K w hw hK) (safe_i K w hw hK) ?_
  have hview : ∀ n : Node, (¬ ∃ f ∈ viewOf n, ¬ f ∈ World'.born w) ↔ KnownP w n := by
    intro n
    rw [knownP_all]
    have hp : (viewOf n).Perm (allOf n) := by unfold viewOf; simpa using sortR_perm ltF (allOf n) []
    exact ⟨fun h f hf => Classical.not_not.1 fun h2 => h ⟨f, hp.mem_iff.2 hf, h2⟩, fun h ⟨f, hf, h2⟩ => h2 (h f (hp.mem_iff.1 hf))⟩
  constructor
  · rintro ⟨h1, h2, h3⟩
    refine ⟨h1, fun i hi => (hview _).2 (h3 i hi), fun i hi hin => ?_⟩
    obtain ⟨a, b⟩ := hin
    rcases h2 i hi with h | h | h
    · omega
    · omega
    · exact h
  · rintro ⟨h1, h2, h3⟩
    refine ⟨h1, fun i hi => ?_, fun i hi => (hview _).1 (h2 i hi)⟩
    obtain ⟨a, b⟩ := (h1.2.2.2.2.2 i hi).1.2.2
    by_cases e1 : (World'.born w)[i].2.2.1 = 1
    · exact .inl e1
    · by_cases e4 : (World'.born w)[i].2.2.1 = 4
      · exact .inr (.inl e4)
      · exact .inr (.inr (h3 i hi ⟨by omega, by omega⟩))
theorem law_WorldSafe (K : Nat) (w : World') (hw : WM w) (hK : 1048577 < K) : laws_FnExactWorldSafe.f K (w, ()) = some ((true, ()), ()) := by
  simp only [laws_FnExactWorldSafe.f, laws_FnExactWorldSafe.pre]
  obtain ⟨r, h1, h2⟩ := szWorld_ok K w hw 1048576 (by omega) (by omega) hK
  rw [h1, Option.bind_some]
  rcases h2 with h2 | ⟨h2, _, hb⟩
  · rw [decide_eq_true h2]; rfl
  · rw [nneg h2]
    obtain ⟨y, h3, h4⟩ := worldSafe_same K w hb hK
    simp only [cond_false, toWorld_ok K w hb hK, Option.bind_some, h3, h4, bne_self_eq_false, eqWorld_refl K w hb hK, Bool.not_true]
end Go.Proofs.YthgnfidnmnkeaaaGreatEv
