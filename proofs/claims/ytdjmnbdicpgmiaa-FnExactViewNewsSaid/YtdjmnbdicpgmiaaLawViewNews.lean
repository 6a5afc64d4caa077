/- FnExactViewNews: the plain law. -/
import Derived.Test.YtdjmnbdicpgmiaaP2
namespace Go.Proofs.YtdjmnbdicpgmiaaEv
open Go
def wasOf (old : List Fact) (f : Fact) : Int := ((old.find? fun g => g.1 == f.1).map (·.2.2.1)).getD 0
def newB (old : List Fact) (f : Fact) : Bool := !decide (f ∈ old)
def newsOf (old now : List Fact) : List Item := (now.filter (newB old)).map fun f => (f, wasOf old f)
theorem wasOf_at {old : List Fact} (h : Asc (fun f : Fact => f.1) old) {g f : Fact} (hg : g ∈ old) (e : g.1 = f.1) : wasOf old f = g.2.2.1 := by
  unfold wasOf
  cases h1 : old.find? fun g => g.1 == f.1 with
  | none =>
    have := List.find?_eq_none.1 h1 g hg
    simp [e] at this
  | some y =>
    have h2 : y.1 = f.1 := by simpa using List.find?_some h1
    rw [uniq h (List.mem_of_find?_eq_some h1) hg (by rw [h2, e])]
    rfl
theorem wasOf_no {old : List Fact} {f : Fact} (h : ∀ g ∈ old, g.1 ≠ f.1) : wasOf old f = 0 := by
  unfold wasOf
  rw [show (old.find? fun g => g.1 == f.1) = none by rw [List.find?_eq_none]; intro g hg; simpa using h g hg]
  rfl
theorem contains_i (K : Nat) (t : List Fact) (f : Fact) (ht : t.length ≤ 1048576) (hK : 1048577 < K) : slices_Contains_impl_Fact_impl_Fact.f K (t, f, ()) = rb (decide (f ∈ t)) := by
  have := iter_first (step := fun rec a => slices_Index_impl_Fact_impl_Fact.l0.step K (t, f, ()) rec a) t.length (fun i => (i : Int)) (fun j => ∃ h : j < t.length, f = t[j]) (some ((-1, ()), ())) (fun j => some ((((j : Nat) : Int), ()), ())) ?_ ?_ t.length K 0 (by omega) (by omega)
  · simp only [slices_Contains_impl_Fact_impl_Fact.f, slices_Contains_impl_Fact_impl_Fact.pre]
    rcases this with ⟨h1, h2⟩ | ⟨j, _, h1, ⟨h3, h4⟩, _, h2⟩
    · have e : slices_Index_impl_Fact_impl_Fact.f K (t, f, ()) = some ((-1, ()), ()) := h2
      rw [e, decide_eq_false (fun hf => by
        obtain ⟨i, hi, e1⟩ := List.getElem_of_mem hf
        exact h1 i (Nat.zero_le _) hi ⟨hi, e1.symm⟩)]
      rfl
    · have e : slices_Index_impl_Fact_impl_Fact.f K (t, f, ()) = some ((((j : Nat) : Int), ()), ()) := h2
      rw [e, decide_eq_true (h4 ▸ List.getElem_mem h3 : f ∈ t)]
      simp only [Option.bind_some]
      rw [decide_eq_true (by omega : ((j : Nat) : Int) ≥ 0)]
  · intro rec i hi
    simp only [slices_Index_impl_Fact_impl_Fact.l0.step]
    rw [decLt (by omega : (i : Int) < (List.length t : Int)), idx_get hi, wr_succ i (by omega)]
    simp only [cond_true, Option.bind_some]
    rw [show Ty.eqv t2 f t[i] = decide (f = t[i]) from eqv_t2 f t[i]]
    by_cases h : f = t[i]
    · exact .inr ⟨⟨hi, h⟩, by rw [decide_eq_true h]; rfl⟩
    · exact .inl ⟨fun ⟨_, h'⟩ => h h', by rw [decide_eq_false h]; rfl⟩
  · intro rec
    simp only [slices_Index_impl_Fact_impl_Fact.l0.step, decNl]
    rfl
theorem news_loop_s (K : Nat) (old now : List Fact) (ho : old.length ≤ 1048576) (hn : now.length ≤ 1048576) (hT : TableP old) (hK : 1048577 < K) : spec_ViewNews.l0 K (old, now, ()) ([], 0) = some ((newsOf old now, ()), ()) := by
  refine gather_all (step := fun rec a => spec_ViewNews.l0.step K (old, now, ()) rec a) now (newB old) (fun f => ((f, wasOf old f) : Item)) (fun xs => some ((xs, ()), ())) ?_ ?_ (by omega)
  · intro rec acc i hi ha
    simp only [spec_ViewNews.l0.step]
    rw [decLt (by omega : (i : Int) < (List.length now : Int)), idx_get hi, wr_succ i (by omega)]
    simp only [cond_true, Option.bind_some]
    obtain ⟨o, hf, h1⟩ := find_s K old now[i].1 ho hK
    rw [h1]
    simp only [Option.bind_some]
    cases hf with
    | at_ j hj e =>
      simp only
      rw [decide_eq_false (by omega : ¬ ((j : Nat) : Int) < 0), idx_get hj]
      simp only [cond_false, Option.bind_some]
      rw [show Ty.eqv t2 old[j] now[i] = decide (old[j] = now[i]) from eqv_t2 _ _]
      by_cases h : old[j] = now[i]
      · rw [decide_eq_true h, show newB old now[i] = false by unfold newB; rw [decide_eq_true (h ▸ List.getElem_mem hj)]; rfl]
        rfl
      · rw [decide_eq_false h, show newB old now[i] = true by
          unfold newB
          rw [decide_eq_false (fun hm => h (uniq hT.2 (List.getElem_mem hj) hm e))]
          rfl]
        simp only [Bool.not_false, cond_true]
        rw [app_ok (by simp; omega), wasOf_at hT.2 (List.getElem_mem hj) e]
    | no h =>
      simp only
      rw [decide_eq_true (by omega : (-1 : Int) < 0), show newB old now[i] = true by
        unfold newB
        rw [decide_eq_false (fun hm => h _ hm rfl)]
        rfl]
      simp only [cond_true]
      rw [wasOf_no h]
      show (bif decide ((acc.length + 1) * 40 ≤ sizeK) then rec (acc ++ [((now[i], (0 : Int)) : Item)], ((i + 1 : Nat) : Int)) else none) = _
      rw [decide_eq_true (show (acc.length + 1) * 40 ≤ sizeK by simp only [sizeK]; omega)]
      rfl
  · intro rec acc _
    simp only [spec_ViewNews.l0.step, decNl]
    rfl
theorem news_loop_i (K : Nat) (old now : List Fact) (ho : old.length ≤ 1048576) (hn : now.length ≤ 1048576) (hT : TableP old) (hK : 1048577 < K) : impl_ViewNews.l0 K (old, now, ()) ([], 0) = some ((newsOf old now, ()), ()) := by
  refine gather_all (step := fun rec a => impl_ViewNews.l0.step K (old, now, ()) rec a) now (newB old) (fun f => ((f, wasOf old f) : Item)) (fun xs => some ((xs, ()), ())) ?_ ?_ (by omega)
  · intro rec acc i hi ha
    simp only [impl_ViewNews.l0.step]
    rw [decLt (by omega : (i : Int) < (List.length now : Int)), idx_get hi, wr_succ i (by omega)]
    simp only [cond_true, Option.bind_some]
    have hw : ∃ g : Fact, ∃ b, impl_TableOf.f K (old, now[i].1, ()) = some ((g, b, ()), ()) ∧ g.2.2.1 = wasOf old now[i] := by
      rcases tableOf_i K old now[i].1 ho hK with ⟨h, _⟩ | ⟨_, ⟨g, hg, e, h⟩ | ⟨h0, h⟩⟩
      · exact absurd hT h
      · exact ⟨g, _, h, (wasOf_at hT.2 hg e).symm⟩
      · exact ⟨_, _, h, (wasOf_no h0).symm⟩
    obtain ⟨g, b, h1, h2⟩ := hw
    rw [h1, contains_i K old now[i] ho hK]
    simp only [Option.bind_some, h2, newB]
    cases decide (now[i] ∈ old) with
    | true => rfl
    | false =>
      simp only [Bool.not_false, cond_true]
      rw [app_ok (by simp; omega)]
  · intro rec acc _
    simp only [impl_ViewNews.l0.step, decNl]
    rfl
theorem viewNews_same (K : Nat) (old now : List Fact) (ho : old.length ≤ 1048576) (hn : now.length ≤ 1048576) (hK : 1048577 < K) :
    ∃ r : List Item, r.length ≤ 1048576 ∧ spec_ViewNews.f K (old, now, ()) = some ((r, ()), ()) ∧ impl_ViewNews.f K (old, now, ()) = some ((r, ()), ()) := by
  obtain ⟨b1, s1, s2⟩ := tableOk_s K old ho hK
  obtain ⟨b2, i1, i2⟩ := tableOk_i K old ho hK
  obtain ⟨b3, s3, s4⟩ := tableOk_s K now hn hK
  obtain ⟨b4, i3, i4⟩ := tableOk_i K now hn hK
  have e1 : b2 = b1 := by rw [Bool.eq_iff_iff, s2, i2]
  have e2 : b4 = b3 := by rw [Bool.eq_iff_iff, s4, i4]
  subst e1 e2
  simp only [spec_ViewNews.f, spec_ViewNews.pre, impl_ViewNews.f, impl_ViewNews.pre]
  rw [s1, i1]
  cases b2 with
  | false => exact ⟨[], by simp, rfl, rfl⟩
  | true =>
    simp only [Option.bind_some, Bool.not_true, cond_false]
    rw [s3, i3]
    cases b4 with
    | false => exact ⟨[], by simp, rfl, rfl⟩
    | true =>
      simp only [Option.bind_some, Bool.not_true, cond_false]
      refine ⟨newsOf old now, ?_, news_loop_s K old now ho hn (s2.1 rfl) hK, news_loop_i K old now ho hn (s2.1 rfl) hK⟩
      unfold newsOf
      rw [List.length_map]
      have := List.length_filter_le (newB old) now
      omega
theorem eqNews_refl (K : Nat) (y : Item) : laws_eqNews.f K (y, y, ()) = rb true := by
  simp only [laws_eqNews.f, laws_eqNews.pre]
  rw [eqFact_refl]
  simp
theorem eqNewsS_refl (K : Nat) (xs : List Item) (hx : xs.length ≤ 1048576) (hK : 1048577 < K) : laws_eqNewsS.f K (xs, xs, ()) = rb true := by
  have hl : laws_eqNewsS.l0 K (xs, xs, ()) 0 = rb true := by
    refine iter_go (step := fun rec a => laws_eqNewsS.l0.step K (xs, xs, ()) rec a) xs.length (fun i => (i : Int)) (rb true) ?_ ?_ (by omega)
    · intro rec i hi
      simp only [laws_eqNewsS.l0.step]
      rw [decide_eq_true (by omega : (i : Int) < (List.length xs : Int)), idx_get hi, wr_succ i (by omega)]
      simp only [cond_true, Option.bind_some]
      rw [eqNews_refl]
      rfl
    · intro rec
      simp only [laws_eqNewsS.l0.step, decNl]
      rfl
  simp only [laws_eqNewsS.f, laws_eqNewsS.pre, bne_self_eq_false, cond_false]
  exact hl
theorem markNewsS_ok (K : Nat) (xs : List Item) (m : Int) (hx : xs.length ≤ 1048576) (h0 : 0 ≤ m) (hm : m + ((xs.map wItem).sum : Nat) ≤ 4611686018427387904) (hK : 1048577 < K) :
    laws_markNewsS.f K (xs, m, ()) = some (((mks mkItem xs m).2, ()), ((mks mkItem xs m).1, ())) := by
  refine mark_loop (step := fun rec a => laws_markNewsS.l0.step K (xs, m, ()) rec a) mkItem wItem (fun _ => True) wItem_ok ?_ ?_ xs [] m K (by simpa using hx) (by omega) (fun _ _ => trivial) h0 hm
  · intro rec ys m i hi hl _ h0 hm
    simp only [wItem] at hm
    simp only [laws_markNewsS.l0.step]
    rw [decLt (by omega : (i : Int) < (List.length ys : Int)), idx_get hi, wr_succ i (by omega)]
    simp (disch := omega) only [wrp, cond_true, Option.bind_some, Int.toNat_natCast, List.set_set, idx_set hi, idx_get hi]
    rfl
  · intro rec ys m
    simp only [laws_markNewsS.l0.step, decNl]
    rfl
theorem heldNewsS_ok (K : Nat) (xs : List Item) (m : Int) (hx : xs.length ≤ 1048576) (h0 : 0 ≤ m) (hm : m + ((xs.map wItem).sum : Nat) ≤ 4611686018427387904) (hK : 1048577 < K) :
    laws_heldNewsS.f K ((mks mkItem xs m).1, m, ()) = some (((mks mkItem xs m).2, ()), ()) := by
  refine held_loop (step := fun rec a => laws_heldNewsS.l0.step K ((mks mkItem xs m).1, m, ()) rec a) mkItem wItem (fun _ => True) wItem_ok (mks mkItem xs m).1 (by rw [mks_len]; exact hx) ?_ ?_ xs [] m K rfl (by omega) (fun _ _ => trivial) h0 hm
  · intro rec x m' i hi e _ h0 hm
    simp only [wItem] at hm
    rw [mks_len] at hi
    simp only [laws_heldNewsS.l0.step]
    rw [decLt (by rw [mks_len]; omega : (i : Int) < (List.length (mks mkItem xs m).1 : Int)), idx_get (by rw [mks_len]; exact hi), wr_succ i (by omega), e]
    simp (disch := omega) only [wrp, cond_true, Option.bind_some, mkItem, mkFact, bne_self_eq_false, cond_false]
  · intro rec m'
    simp only [laws_heldNewsS.l0.step, decNl]
    rfl
theorem news_said (K : Nat) (r : List Item) (hr : r.length ≤ 1048576) (hK : 1048577 < K) : ∃ m : Int, 0 ≤ m ∧ laws_eqNewsS.f K (r, r, ()) = rb true ∧ laws_markNewsS.f K (r, 1, ()) = some ((m, ()), ((mks mkItem r 1).1, ())) ∧ laws_heldNewsS.f K ((mks mkItem r 1).1, 1, ()) = some ((m, ()), ()) := by
  have : (r.map wItem).sum ≤ 5242880 := by
    have := sum_le (W := wItem) (c := 5) (xs := r) (fun x _ => by simp [wItem])
    omega
  refine ⟨(mks mkItem r 1).2, ?_, eqNewsS_refl K r hr hK, markNewsS_ok K r 1 hr (by omega) (by omega) hK, heldNewsS_ok K r 1 hr (by omega) (by omega) hK⟩
  rw [mks_next wItem_ok]; omega
theorem law_ViewNews (K : Nat) (old now : List Fact) (ho : old.length ≤ 9223372036854775807) (hn : now.length ≤ 9223372036854775807) (hK : 1048577 < K) : laws_FnExactViewNews.f K (old, now, ()) = some ((true, ()), ()) := by
  simp only [laws_FnExactViewNews.f, laws_FnExactViewNews.pre]
  obtain ⟨r, h1, h2⟩ := szFactS_ok K old 1048576 (by omega) (by omega) ho
  rw [h1, Option.bind_some]
  rcases h2 with h2 | ⟨h2, hle, hb⟩
  · rw [decide_eq_true h2]; rfl
  · rw [nneg h2]
    obtain ⟨r2, h3, h4⟩ := szFactS_ok K now r h2 (by omega) hn
    simp only [cond_false]
    rw [h3, Option.bind_some]
    rcases h4 with h4 | ⟨h4, _, hb2⟩
    · rw [decide_eq_true h4]; rfl
    · rw [nneg h4]
      obtain ⟨y, hy, k1, k2⟩ := viewNews_same K old now hb hb2 hK
      obtain ⟨m, hm, k3, k4, k5⟩ := news_said K y hy hK
      have w1 := wFacts_le hb
      have w2 := wFacts_le hb2
      have e1 := mks_next wFact_ok old 1
      have e2 := mks_next wFact_ok now (mks mkFact old 1).2
      have m1 := markFactS_ok K old 1 hb (by omega) (by omega) hK
      have m2 := markFactS_ok K now (mks mkFact old 1).2 hb2 (by omega) (by omega) hK
      have n2 : 0 ≤ (mks mkFact now (mks mkFact old 1).2).2 := by omega
      simp only [cond_false, toFactS_ok K old hb hK, toFactS_ok K now hb2 hK, Option.bind_some, k1, k2, k3, k4, k5, eqFactS_refl K old hb hK, eqFactS_refl K now hb2 hK, m1, m2, nneg hm, nneg n2, bne_self_eq_false, Bool.not_true]
end Go.Proofs.YtdjmnbdicpgmiaaEv
