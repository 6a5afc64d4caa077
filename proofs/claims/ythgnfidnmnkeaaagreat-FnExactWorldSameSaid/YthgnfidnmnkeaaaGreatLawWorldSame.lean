/- FnExactWorldSame: the plain law. -/
import Derived.Test.YthgnfidnmnkeaaaGreatP2
namespace Go.Proofs.YthgnfidnmnkeaaaGreatEv
open Go
theorem view_asc {n : Node} (hn : NB n) (hP : NodeP n) (hu : n.2.1 = true) : Asc (fun f : Fact => f.1) (viewOf n) := by
  have e0 : viewOf n = partOf n 0 ++ partOf n 1 := view_sorted hn hP hu
  rw [e0]
  have hm := hP.1
  obtain ⟨hT, hS, _, _, _, _, _, _, hO⟩ := hP.up hu
  have hsite : siteI n.1 = 0 ∨ siteI n.1 = 1 := by
    rw [siteI_of hm]; obtain ⟨m1, m2⟩ := hm; omega
  have across : ∀ (t u : List Fact) (s : Int), TableP t → SiteP t s → TableP u → SiteP u (s + 1) → Asc (fun f : Fact => f.1) (t ++ u) := by
    intro t u s ht hts hu hus
    unfold Asc
    rw [List.pairwise_append]
    refine ⟨ht.2, hu.2, fun a ha b hb => ?_⟩
    have h1 := hts a ha; have h2 := hus b hb
    rw [siteI_of (ht.1 a ha).1] at h1
    rw [siteI_of (hu.1 b hb).1] at h2
    show a.1 < b.1
    omega
  rcases others_short hm hO with h | ⟨x, h⟩
  · rw [show partOf n 0 ++ partOf n 1 = Node.table n by
      unfold partOf ofSite
      rw [h]
      rcases hsite with e | e <;> rw [e] <;> simp]
    exact hT.2
  · obtain ⟨⟨x1, x2⟩, x3, _, x4, x5⟩ := hO.1 x (by rw [h]; simp)
    rcases hsite with e | e
    · have ex : x.1 = 1 := by omega
      rw [show partOf n 0 ++ partOf n 1 = Node.table n ++ x.2 by
        unfold partOf ofSite
        rw [h, e]
        simp [ex]]
      exact across _ _ 0 hT (by rw [e] at hS; exact hS) x4 (by rw [ex] at x5; exact x5)
    · have ex : x.1 = 0 := by omega
      rw [show partOf n 0 ++ partOf n 1 = x.2 ++ Node.table n by
        unfold partOf ofSite
        rw [h, e]
        simp [ex]]
      exact across _ _ 0 x4 (by rw [ex] at x5; exact x5) hT (by rw [e] at hS; exact hS)
theorem view_ids {n : Node} (hP : NodeP n) (hu : n.2.1 = true) {f : Fact} (hf : f ∈ viewOf n) : FactP f := by
  obtain ⟨hT, hS, _, _, _, _, _, _, hO⟩ := hP.up hu
  have hp : (viewOf n).Perm (allOf n) := by unfold viewOf; simpa using sortR_perm ltF (allOf n) []
  rcases List.mem_append.1 (hp.mem_iff.1 hf) with h | h
  · exact hT.1 f h
  · obtain ⟨x, hx, hfx⟩ := List.mem_flatMap.1 h
    exact (hO.1 x hx).2.2.2.1.1 f hfx
theorem equal_ret {α : Type} (xs ys : List α) {step : (Int → Option RB) → Int → Option RB} (hx : xs.length ≤ 1048576) (hl : xs.length = ys.length)
    (h : ∀ (rec : Int → Option RB) (i : Nat) (hi : i < xs.length) (hi2 : i < ys.length), Rnd (step rec (i : Int)) (xs[i] = ys[i]) (rec (wr .i64 ((i : Int) + 1)))) (hend : ∀ rec : Int → Option RB, step rec (xs.length : Int) = rb true) {k : Nat} (hk : 1048577 < k) : Ret (iterate step k 0) (xs = ys) := by
  refine (ret_loop xs (step := step) (fun i hi => xs[i] = ys[i]'(hl ▸ hi)) hx (fun rec i hi => h rec i hi (hl ▸ hi)) hend hk (fun _ => Ret.yes trivial)).iff (true_and'.trans ?_)
  exact ⟨fun h => List.ext_getElem hl fun i h1 h2 => h i h1, fun h i hi => by subst h; rfl⟩
theorem equal_int (K : Nat) (xs ys : List Int) (hx : xs.length ≤ 1048576) (hK : 1048577 < K) : Ret (slices_Equal_int_int.f K (xs, ys, ())) (xs = ys) := by
  simp only [slices_Equal_int_int.f, slices_Equal_int_int.pre]
  refine (Ret.cndN (P := xs.length ≠ ys.length) (Q := xs = ys) (by simp; omega) fun hl => ?_).iff ⟨fun h => h.2, fun h => ⟨fun h2 => h2 (by rw [h]), h⟩⟩
  refine equal_ret xs ys (step := fun rec a => slices_Equal_int_int.l0.step K (xs, ys, ()) rec a) hx (by omega) ?_ ?_ hK
  · intro rec i hi hi2
    simp only [slices_Equal_int_int.l0.step]
    rw [decLt (by omega : (i : Int) < (List.length xs : Int)), idx_get hi, idx_get hi2]
    simp only [cond_true, Option.bind_some]
    exact (Rnd.cndN (P := ¬ xs[i] = ys[i]) (by simp) fun _ => Rnd.end_).iff (true_and'.trans Classical.not_not)
  · intro rec
    simp only [slices_Equal_int_int.l0.step, decNl]
    rfl
theorem equal_fact (K : Nat) (xs ys : List Fact) (hx : xs.length ≤ 1048576) (hK : 1048577 < K) : Ret (slices_Equal_impl_Fact_impl_Fact.f K (xs, ys, ())) (xs = ys) := by
  simp only [slices_Equal_impl_Fact_impl_Fact.f, slices_Equal_impl_Fact_impl_Fact.pre]
  refine (Ret.cndN (P := xs.length ≠ ys.length) (Q := xs = ys) (by simp; omega) fun hl => ?_).iff ⟨fun h => h.2, fun h => ⟨fun h2 => h2 (by rw [h]), h⟩⟩
  refine equal_ret xs ys (step := fun rec a => slices_Equal_impl_Fact_impl_Fact.l0.step K (xs, ys, ()) rec a) hx (by omega) ?_ ?_ hK
  · intro rec i hi hi2
    simp only [slices_Equal_impl_Fact_impl_Fact.l0.step]
    rw [decLt (by omega : (i : Int) < (List.length xs : Int)), idx_get hi, idx_get hi2]
    simp only [cond_true, Option.bind_some]
    rw [eqv_t2]
    exact (Rnd.cndN (P := ¬ xs[i] = ys[i]) (by simp) fun _ => Rnd.end_).iff (true_and'.trans Classical.not_not)
  · intro rec
    simp only [slices_Equal_impl_Fact_impl_Fact.l0.step, decNl]
    rfl
theorem equal_spec (K : Nat) (xs ys : List Fact) (hx : xs.length ≤ 1048576) (hK : 1048577 < K) : Ret (spec_l52Facts.f K (xs, ys, ())) (xs = ys) := by
  simp only [spec_l52Facts.f, spec_l52Facts.pre]
  refine (Ret.cndN (P := xs.length ≠ ys.length) (Q := xs = ys) (by simp; omega) fun hl => ?_).iff ⟨fun h => h.2, fun h => ⟨fun h2 => h2 (by rw [h]), h⟩⟩
  refine equal_ret xs ys (step := fun rec a => spec_l52Facts.l0.step K (xs, ys, ()) rec a) hx (by omega) ?_ ?_ hK
  · intro rec i hi hi2
    simp only [spec_l52Facts.l0.step]
    rw [decLt (by omega : (i : Int) < (List.length xs : Int)), idx_get hi, idx_get hi2]
    simp only [cond_true, Option.bind_some]
    rw [eqv_t2]
    exact (Rnd.cndN (P := ¬ xs[i] = ys[i]) (by simp) fun _ => Rnd.end_).iff (true_and'.trans Classical.not_not)
  · intro rec
    simp only [spec_l52Facts.l0.step, decNl]
    rfl
def actB (n : Node) : Bool := n.2.1 && !n.2.2.1
def LiveP (v : List Fact) (ns : List Node) : Prop := ∀ k (hk : k < ns.length), (∃ f ∈ v, f.1 = (k : Int) ∧ f.2.2.1 = 1) ↔ actB ns[k] = true
theorem live_s (K : Nat) (w : World') (v : List Fact) (hw : WB w) (hv : v.length ≤ 1048576) (hasc : Asc (fun f : Fact => f.1) v) (hK : 1048577 < K) : Ret (spec_WorldSame.l1 K (w, ()) (v, 0)) (LiveP v (World'.nodes w)) := by
  have hl := hw.nodes
  have := ret_all (step := fun rec a => spec_WorldSame.l1.step K (w, ()) rec a) (World'.nodes w).length (fun i => (v, (i : Int))) (fun k => ∀ hk : k < (World'.nodes w).length, (∃ f ∈ v, f.1 = (k : Int) ∧ f.2.2.1 = 1) ↔ actB (World'.nodes w)[k] = true) (rt := rb true) (Q := True) ?_ ?_ (k := K) (by omega) (fun _ => Ret.yes trivial)
  · exact this.iff ⟨fun h k hk => h.1 k hk hk, fun h => ⟨fun k _ hk => h k hk, trivial⟩⟩
  · intro rec i hi
    simp only [spec_WorldSame.l1.step]
    rw [decLt (by omega : (i : Int) < (List.length (World'.nodes w) : Int)), wr_succ i (by omega)]
    simp only [cond_true]
    obtain ⟨o, ho, h1⟩ := find_s K v (i : Int) hv hK
    rw [h1]
    simp only [Option.bind_some]
    rw [idx_get hi]
    simp only [Option.bind_some]
    have key : ∀ b : Bool, ((∃ f ∈ v, f.1 = (i : Int) ∧ f.2.2.1 = 1) ↔ b = true) → ((∀ hk : i < (World'.nodes w).length, (∃ f ∈ v, f.1 = (i : Int) ∧ f.2.2.1 = 1) ↔ actB (World'.nodes w)[i] = true) ↔ b = actB (World'.nodes w)[i]) := by
      intro b hb
      rw [Bool.eq_iff_iff]
      exact ⟨fun h => hb.symm.trans (h hi), fun h _ => hb.trans h⟩
    cases ho with
    | no h2 =>
      rw [decide_eq_false (show ¬ (-1 : Int) ≥ 0 by decide)]
      simp only [cond_false]
      rw [key false ⟨fun ⟨f, hf, e, _⟩ => absurd e (h2 f hf), fun h => absurd h (by decide)⟩]
      unfold actB
      cases (World'.nodes w)[i].2.1 <;> cases (World'.nodes w)[i].2.2.1
      · exact .inl ⟨rfl, rfl⟩
      · exact .inl ⟨rfl, rfl⟩
      · exact .inr ⟨by decide, rfl⟩
      · exact .inl ⟨rfl, rfl⟩
    | at_ j hj e =>
      rw [decide_eq_true (show (j : Int) ≥ 0 by omega)]
      simp only [cond_true]
      rw [idx_get hj]
      simp only [Option.bind_some]
      rw [key (v[j].2.2.1 == 1) ⟨fun ⟨f, hf, e1, e2⟩ => by rw [← uniq hasc hf (List.getElem_mem hj) (e1.trans e.symm)]; simpa using e2, fun h => ⟨v[j], List.getElem_mem hj, e, by simpa using h⟩⟩]
      unfold actB
      cases (v[j].2.2.1 == 1) <;> cases (World'.nodes w)[i].2.1 <;> cases (World'.nodes w)[i].2.2.1
      · exact .inl ⟨rfl, rfl⟩
      · exact .inl ⟨rfl, rfl⟩
      · exact .inr ⟨by decide, rfl⟩
      · exact .inl ⟨rfl, rfl⟩
      · exact .inr ⟨by decide, rfl⟩
      · exact .inr ⟨by decide, rfl⟩
      · exact .inl ⟨rfl, rfl⟩
      · exact .inr ⟨by decide, rfl⟩
  · intro rec
    simp only [spec_WorldSame.l1.step, decNl]
    rfl
def SameP (ns : List Node) : Prop := ∀ j (hj : j < ns.length), actB ns[j] = true → (∀ k (hk : k < ns.length), actB ns[k] = true → viewOf ns[k] = viewOf ns[j]) ∧ LiveP (viewOf ns[j]) ns
theorem actB_up {n : Node} (h : actB n = true) : n.2.1 = true := by
  unfold actB at h
  cases hu : n.2.1 with
  | true => rfl
  | false => rw [hu] at h; exact absurd h (by simp)
theorem same_s (K : Nat) (w : World') (hw : WB w) (hK : 1048577 < K) : Ret (spec_WorldSame.f K (w, ())) (WorldP w ∧ SameP (World'.nodes w)) := by
  have hl := hw.nodes
  simp only [spec_WorldSame.f, spec_WorldSame.pre]
  refine Ret.nx (worldOk_s K w hw hK) fun hW => ?_
  have hP : ∀ i (hi : i < (World'.nodes w).length), NodeP (World'.nodes w)[i] := fun i hi => (hW.2.2.2.1 i hi).2.2.1
  have round : ∀ (rec : spec_WorldSame.A_l0 → Option spec_WorldSame.Res) (b : Bool) (v0 : List Fact) (i : Nat) (hi : i < (World'.nodes w).length), spec_WorldSame.l0.step K (w, ()) (spec_WorldSame.l1 K (w, ())) rec (b, v0, (i : Int)) =
      bif actB (World'.nodes w)[i] then (bif b then rec (false, viewOf (World'.nodes w)[i], ((i + 1 : Nat) : Int)) else (if viewOf (World'.nodes w)[i] = v0 then rec (b, v0, ((i + 1 : Nat) : Int)) else rb false)) else rec (b, v0, ((i + 1 : Nat) : Int)) := by
    intro rec b v0 i hi
    simp only [spec_WorldSame.l0.step]
    rw [decLt (by omega : (i : Int) < (List.length (World'.nodes w) : Int)), idx_get hi, wr_succ i (by omega)]
    simp only [cond_true, Option.bind_some]
    have hn := hw.node _ (List.getElem_mem hi)
    have hp := hP i hi
    generalize (World'.nodes w)[i] = n at hn hp
    unfold actB
    cases hu : n.2.1 with
    | false => simp
    | true =>
      cases hg : n.2.2.1 with
      | true => simp
      | false =>
        simp only [Bool.not_true, cond_false, Bool.not_false, Bool.and_true, cond_true]
        have hv := viewOf_len hn hp
        rw [viewOf_s K n hn hp hu hK]
        simp only [Option.bind_some]
        generalize viewOf n = v at hv
        cases b with
        | true =>
          simp only [cond_true]
          obtain ⟨c, h1, h2⟩ := equal_spec K v v (by omega) hK
          rw [h1, h2.2 rfl]
          rfl
        | false =>
          simp only [cond_false]
          obtain ⟨c, h1, h2⟩ := equal_spec K v v0 (by omega) hK
          rw [h1]
          cases c with
          | true => rw [if_pos (h2.1 rfl)]; rfl
          | false => rw [if_neg (fun h => by simpa using h2.2 h)]; rfl
  have fin : ∀ (rec : spec_WorldSame.A_l0 → Option spec_WorldSame.Res) (b : Bool) (v0 : List Fact), spec_WorldSame.l0.step K (w, ()) (spec_WorldSame.l1 K (w, ())) rec (b, v0, (((World'.nodes w).length : Nat) : Int)) = bif b then rb true else spec_WorldSame.l1 K (w, ()) (v0, 0) := by
    intro rec b v0
    simp only [spec_WorldSame.l0.step, decNl]
    rfl
  have later : ∀ (d i k : Nat) (v0 : List Fact), i + d = (World'.nodes w).length → d < k → v0.length ≤ 1048576 → Asc (fun f : Fact => f.1) v0 → Ret (iterate (fun rec a => spec_WorldSame.l0.step K (w, ()) (spec_WorldSame.l1 K (w, ())) rec a) k (false, v0, (i : Int)))
      ((∀ j (hj : j < (World'.nodes w).length), i ≤ j → actB (World'.nodes w)[j] = true → viewOf (World'.nodes w)[j] = v0) ∧ LiveP v0 (World'.nodes w)) := by
    intro d
    induction d with
    | zero =>
      intro i k v0 hi hk hv ha
      obtain ⟨k, rfl⟩ : ∃ k', k = k' + 1 := ⟨k - 1, by omega⟩
      have : i = (World'.nodes w).length := by omega
      subst this
      show Ret (spec_WorldSame.l0.step K (w, ()) (spec_WorldSame.l1 K (w, ())) _ _) _
      rw [fin]
      exact (live_s K w v0 hw hv ha hK).iff ⟨fun h => ⟨fun j hj h2 => by omega, h⟩, fun h => h.2⟩
    | succ d ih =>
      intro i k v0 hi hk hv ha
      obtain ⟨k, rfl⟩ : ∃ k', k = k' + 1 := ⟨k - 1, by omega⟩
      have hlt : i < (World'.nodes w).length := by omega
      show Ret (spec_WorldSame.l0.step K (w, ()) (spec_WorldSame.l1 K (w, ())) _ _) _
      rw [round _ _ _ i hlt]
      have hrest := ih (i + 1) k v0 (by omega) (by omega) hv ha
      cases hb : actB (World'.nodes w)[i] with
      | false =>
        refine hrest.iff ⟨fun h => ⟨fun j hj hij hact => ?_, h.2⟩, fun h => ⟨fun j hj hij => h.1 j hj (by omega), h.2⟩⟩
        by_cases e : j = i
        · subst e; rw [hb] at hact; cases hact
        · exact h.1 j hj (by omega) hact
      | true =>
        simp only [cond_true, cond_false]
        by_cases e : viewOf (World'.nodes w)[i] = v0
        · rw [if_pos e]
          refine hrest.iff ⟨fun h => ⟨fun j hj hij hact => ?_, h.2⟩, fun h => ⟨fun j hj hij => h.1 j hj (by omega), h.2⟩⟩
          by_cases e2 : j = i
          · subst e2; exact e
          · exact h.1 j hj (by omega) hact
        · rw [if_neg e]
          exact Ret.no (fun h => e (h.1 i hlt (Nat.le_refl _) hb))
  have first : ∀ (d i k : Nat), i + d = (World'.nodes w).length → d < k → Ret (iterate (fun rec a => spec_WorldSame.l0.step K (w, ()) (spec_WorldSame.l1 K (w, ())) rec a) k (true, [], (i : Int)))
      (∀ j (hj : j < (World'.nodes w).length), i ≤ j → actB (World'.nodes w)[j] = true → (∀ k (hk : k < (World'.nodes w).length), i ≤ k → actB (World'.nodes w)[k] = true → viewOf (World'.nodes w)[k] = viewOf (World'.nodes w)[j]) ∧ LiveP (viewOf (World'.nodes w)[j]) (World'.nodes w)) := by
    intro d
    induction d with
    | zero =>
      intro i k hi hk
      obtain ⟨k, rfl⟩ : ∃ k', k = k' + 1 := ⟨k - 1, by omega⟩
      have : i = (World'.nodes w).length := by omega
      subst this
      show Ret (spec_WorldSame.l0.step K (w, ()) (spec_WorldSame.l1 K (w, ())) _ _) _
      rw [fin]
      exact Ret.yes (fun j hj h => by omega)
    | succ d ih =>
      intro i k hi hk
      obtain ⟨k, rfl⟩ : ∃ k', k = k' + 1 := ⟨k - 1, by omega⟩
      have hlt : i < (World'.nodes w).length := by omega
      show Ret (spec_WorldSame.l0.step K (w, ()) (spec_WorldSame.l1 K (w, ())) _ _) _
      rw [round _ _ _ i hlt]
      cases hb : actB (World'.nodes w)[i] with
      | false =>
        refine (ih (i + 1) k (by omega) (by omega)).iff ⟨fun h j hj hij hact => ?_, fun h j hj hij hact => ?_⟩
        · have hji : j ≠ i := fun e => by subst e; rw [hb] at hact; cases hact
          refine ⟨fun m hm him hm2 => ?_, (h j hj (by omega) hact).2⟩
          have hmi : m ≠ i := fun e => by subst e; rw [hb] at hm2; cases hm2
          exact (h j hj (by omega) hact).1 m hm (by omega) hm2
        · exact ⟨fun m hm him hm2 => (h j hj (by omega) hact).1 m hm (by omega) hm2, (h j hj (by omega) hact).2⟩
      | true =>
        simp only [cond_true]
        have hp := hP i hlt
        have hn := hw.node _ (List.getElem_mem hlt)
        have hv := viewOf_len hn hp
        refine (later d (i + 1) k (viewOf (World'.nodes w)[i]) (by omega) (by omega) (by omega) (view_asc hn hp (actB_up hb))).iff ⟨fun h j hj hij hact => ?_, fun h => ?_⟩
        · have e1 : viewOf (World'.nodes w)[j] = viewOf (World'.nodes w)[i] := by
            by_cases e : j = i
            · subst e; rfl
            · exact h.1 j hj (by omega) hact
          rw [e1]
          refine ⟨fun m hm him hm2 => ?_, h.2⟩
          by_cases e : m = i
          · subst e; rfl
          · exact h.1 m hm (by omega) hm2
        · have := h i hlt (Nat.le_refl _) hb
          exact ⟨fun j hj hij hact => this.1 j hj (by omega) hact, this.2⟩
  refine (first (World'.nodes w).length 0 K (by omega) (by omega)).iff ?_
  exact ⟨fun h j hj hact => ⟨fun m hm hm2 => (h j hj (Nat.zero_le _) hact).1 m hm (Nat.zero_le _) hm2, (h j hj (Nat.zero_le _) hact).2⟩, fun h j hj _ hact => ⟨fun m hm _ hm2 => (h j hj hact).1 m hm hm2, (h j hj hact).2⟩⟩
def liveIds (v : List Fact) : List Int := (v.filter fun f => f.2.2.1 == 1).map (·.1)
def acts (ns : List Node) : List Int := (ns.filter actB).map (·.1)
theorem acts_mem {w : World'} (hW : WorldP w) {a : Int} : a ∈ acts (World'.nodes w) ↔ ∃ j, ∃ hj : j < (World'.nodes w).length, a = (j : Int) ∧ actB (World'.nodes w)[j] = true := by
  unfold acts
  simp only [List.mem_map, List.mem_filter]
  constructor
  · rintro ⟨n, ⟨hn, ha⟩, e⟩
    obtain ⟨j, hj, e2⟩ := List.getElem_of_mem hn
    exact ⟨j, hj, by rw [← e, ← e2]; exact (hW.2.2.2.1 j hj).1, by rw [e2]; exact ha⟩
  · rintro ⟨j, hj, e, ha⟩
    exact ⟨_, ⟨List.getElem_mem hj, ha⟩, by rw [e]; exact (hW.2.2.2.1 j hj).1⟩
theorem acts_asc {w : World'} (hW : WorldP w) : (acts (World'.nodes w)).Pairwise (· < ·) := by
  unfold acts
  rw [List.pairwise_map]
  refine List.Pairwise.filter _ ?_
  rw [List.pairwise_iff_getElem]
  intro i j hi hj hij
  rw [(hW.2.2.2.1 i hi).1, (hW.2.2.2.1 j hj).1]
  omega
theorem live_asc {v : List Fact} (h : Asc (fun f : Fact => f.1) v) : (liveIds v).Pairwise (· < ·) := by
  unfold liveIds
  rw [List.pairwise_map]
  exact List.Pairwise.filter _ h
theorem live_mem {v : List Fact} {a : Int} : a ∈ liveIds v ↔ ∃ f ∈ v, f.1 = a ∧ f.2.2.1 = 1 := by
  unfold liveIds
  simp only [List.mem_map, List.mem_filter, beq_iff_eq]
  constructor
  · rintro ⟨f, ⟨h1, h2⟩, h3⟩; exact ⟨f, h1, h3, h2⟩
  · rintro ⟨f, h1, h2, h3⟩; exact ⟨f, ⟨h1, h3⟩, h2⟩
theorem asc_same {A B : List Int} (hA : A.Pairwise (· < ·)) (hB : B.Pairwise (· < ·)) (h : ∀ a, a ∈ A ↔ a ∈ B) : A = B := by
  have h1 := asc_sub A B hA hB (fun a ha => (h a).1 ha)
  have h2 := asc_sub B A hB hA (fun a ha => (h a).2 ha)
  exact h1.2 (by omega)
theorem live_acts {w : World'} (hW : WorldP w) {v : List Fact} (hasc : Asc (fun f : Fact => f.1) v) (hids : ∀ f ∈ v, FactP f) : liveIds v = acts (World'.nodes w) ↔ LiveP v (World'.nodes w) := by
  constructor
  · intro e k hk
    rw [← live_mem, e, acts_mem hW]
    constructor
    · rintro ⟨j, hj, e, ha⟩
      have : j = k := by omega
      subst this
      exact ha
    · intro ha; exact ⟨k, hk, rfl, ha⟩
  · intro h
    refine asc_same (live_asc hasc) (acts_asc hW) fun a => ?_
    rw [acts_mem hW, live_mem]
    constructor
    · rintro ⟨f, hf, e, hs⟩
      obtain ⟨h0, h7⟩ := (hids f hf).1
      have hl := hW.1
      have hk : a.toNat < (World'.nodes w).length := by omega
      exact ⟨a.toNat, hk, by omega, (h a.toNat hk).1 ⟨f, hf, by omega, hs⟩⟩
    · rintro ⟨j, hj, e, ha⟩
      obtain ⟨f, hf, e2, hs⟩ := (h j hj).2 ha
      exact ⟨f, hf, by omega, hs⟩
theorem active_i (K : Nat) (n : Node) : impl_Node_active.f K (n, ()) = rb (actB n) := by
  simp only [impl_Node_active.f, impl_Node_active.pre, actB]
  cases n.2.1 <;> rfl
theorem same_i (K : Nat) (w : World') (hw : WB w) (hW : WorldP w) (hK : 1048577 < K) : Ret (impl_World_same.f K (w, ())) (SameP (World'.nodes w)) := by
  have hl := hw.nodes
  have hP : ∀ i (hi : i < (World'.nodes w).length), NodeP (World'.nodes w)[i] := fun i hi => (hW.2.2.2.1 i hi).2.2.1
  have hg := gather_all (step := fun rec a => impl_World_same.l0.step K (w, ()) (impl_World_same.l1 K (w, ())) rec a) (World'.nodes w) actB (fun n => n.1) (fun A => impl_World_same.l1 K (w, ()) (A, (List.length A : Int), 0)) ?_ ?_ (k := K) (by omega)
  · show Ret (iterate (fun rec a => impl_World_same.l0.step K (w, ()) (impl_World_same.l1 K (w, ())) rec a) K ([], 0)) _
    rw [hg]
    have hA : acts (World'.nodes w) = ((World'.nodes w).filter actB).map (fun n => n.1) := rfl
    rw [← hA]
    have hAl : (acts (World'.nodes w)).length ≤ 8 := by
      unfold acts
      have := List.length_filter_le actB (World'.nodes w)
      have := hW.1
      simp; omega
    have hat : ∀ m (hm : m < (acts (World'.nodes w)).length), ∃ j, ∃ hj : j < (World'.nodes w).length, (acts (World'.nodes w))[m] = (j : Int) ∧ actB (World'.nodes w)[j] = true := fun m hm => (acts_mem hW).1 (List.getElem_mem hm)
    have hmem : ∀ j (hj : j < (World'.nodes w).length), actB (World'.nodes w)[j] = true → ((j : Nat) : Int) ∈ acts (World'.nodes w) := fun j hj ha => (acts_mem hW).2 ⟨j, hj, rfl, ha⟩
    have hiff : ∀ j (hj : j < (World'.nodes w).length), actB (World'.nodes w)[j] = true → (liveIds (viewOf (World'.nodes w)[j]) = acts (World'.nodes w) ↔ LiveP (viewOf (World'.nodes w)[j]) (World'.nodes w)) := fun j hj ha =>
      live_acts hW (view_asc (hw.node _ (List.getElem_mem hj)) (hP j hj) (actB_up ha)) (fun f hf => view_ids (hP j hj) (actB_up ha) hf)
    generalize acts (World'.nodes w) = A at hAl hat hmem hiff
    have := ret_all (step := fun rec a => impl_World_same.l1.step K (w, ()) rec a) A.length (fun i => (A, (List.length A : Int), (i : Int)))
      (fun m => ∀ (hm : m < A.length) (j : Nat) (hj : j < (World'.nodes w).length), A[m] = (j : Int) → liveIds (viewOf (World'.nodes w)[j]) = A ∧ ∀ (i : Nat) (hi : i < (World'.nodes w).length), A[0]'(by omega) = (i : Int) → viewOf (World'.nodes w)[j] = viewOf (World'.nodes w)[i]) (rt := rb true) (Q := True) ?_ ?_ (k := K) (by omega) (fun _ => Ret.yes trivial)
    · refine this.iff ⟨fun h => ?_, fun h => ⟨fun m hm _ j hj e => ?_, trivial⟩⟩
      · intro j hj ha
        obtain ⟨m, hm, e⟩ := List.getElem_of_mem (hmem j hj ha)
        obtain ⟨i0, hi0, e0, a0⟩ := hat 0 (by omega)
        have h1 := h.1 m hm hm j hj e
        refine ⟨fun k hk hak => ?_, (hiff j hj ha).1 h1.1⟩
        obtain ⟨m', hm', e'⟩ := List.getElem_of_mem (hmem k hk hak)
        rw [(h.1 m' hm' hm' k hk e').2 i0 hi0 e0, h1.2 i0 hi0 e0]
      · obtain ⟨j', hj', e', ha⟩ := hat m hm
        have : j = j' := by omega
        subst this
        have h1 := h j hj ha
        refine ⟨(hiff j hj ha).2 h1.2, fun i hi e0 => ?_⟩
        obtain ⟨i', hi', e0', a0⟩ := hat 0 (by omega)
        have : i = i' := by omega
        subst this
        exact (h1.1 i hi a0).symm
    · intro rec m hm
      obtain ⟨j, hj, e, ha⟩ := hat m hm
      obtain ⟨i0, hi0, e0, a0⟩ := hat 0 (by omega)
      have hnj := hw.node _ (List.getElem_mem hj)
      have hni := hw.node _ (List.getElem_mem hi0)
      have hvj := viewOf_len hnj (hP j hj)
      have hkey : (∀ (hm : m < A.length) (j : Nat) (hj : j < (World'.nodes w).length), A[m] = (j : Int) → liveIds (viewOf (World'.nodes w)[j]) = A ∧ ∀ (i : Nat) (hi : i < (World'.nodes w).length), A[0]'(by omega) = (i : Int) → viewOf (World'.nodes w)[j] = viewOf (World'.nodes w)[i]) ↔
          (liveIds (viewOf (World'.nodes w)[j]) = A ∧ viewOf (World'.nodes w)[j] = viewOf (World'.nodes w)[i0]) := by
        constructor
        · intro h
          have h1 := h hm j hj e
          exact ⟨h1.1, h1.2 i0 hi0 e0⟩
        · intro h hm2 j2 hj2 e2
          have : j2 = j := by omega
          subst this
          refine ⟨h.1, fun i hi e3 => ?_⟩
          have : i = i0 := by omega
          subst this
          exact h.2
      rw [hkey]
      show Rnd _ _ _
      simp only [impl_World_same.l1.step]
      have hz : idx A 0 = some ((i0 : Nat) : Int) := (idx_get (xs := A) (i := 0) (by omega)).trans (by rw [e0])
      rw [decide_eq_true (by omega : ((m : Nat) : Int) < (List.length A : Int)), wr_succ m (by omega)]
      simp only [cond_true, Int.toNat_natCast, Int.toNat_zero]
      rw [idx_get hm, e]
      simp only [Option.bind_some, Int.cast_ofNat_Int]
      rw [idx_get hj]
      simp only [Option.bind_some]
      rw [viewOf_i K _ hnj (hP j hj) hK]
      simp only [Option.bind_some]
      rw [show idx A (0 : Int) = _ from hz]
      simp only [Option.bind_some]
      rw [idx_get hi0]
      simp only [Option.bind_some]
      rw [viewOf_i K _ hni (hP i0 hi0) hK]
      simp only [Option.bind_some]
      generalize viewOf (World'.nodes w)[i0] = v0
      generalize viewOf (World'.nodes w)[j] = v at hvj
      rw [nodes_i K v _ (fun f => f.2.2.1 == 1) (by omega) hK (fun f _ => rfl)]
      simp only [Option.bind_some]
      exact (Rnd.nx (equal_int K (liveIds v) A (by unfold liveIds; have := List.length_filter_le (fun f : Fact => f.2.2.1 == 1) v; simp; omega) hK) fun _ => Rnd.nx (equal_fact K v v0 (by omega) hK) fun _ => Rnd.end_).iff ⟨fun h => ⟨h.1, h.2.1⟩, fun h => ⟨h.1, h.2, trivial⟩⟩
    · intro rec
      simp only [impl_World_same.l1.step]
      rw [decide_eq_false (by omega : ¬ (List.length A : Int) < (List.length A : Int))]
      rfl
  · intro rec acc i hi ha
    simp only [impl_World_same.l0.step]
    rw [decLt (by omega : (i : Int) < (List.length (World'.nodes w) : Int)), idx_get hi, wr_succ i (by omega)]
    simp only [cond_true, Option.bind_some]
    rw [active_i, (hW.2.2.2.1 i hi).1]
    simp only [Option.bind_some]
    cases actB (World'.nodes w)[i] with
    | true => simp only [cond_true]; rw [app_ok (by simp; omega)]
    | false => rfl
  · intro rec acc _
    simp only [impl_World_same.l0.step, decNl]
    rfl
theorem worldSame_same (K : Nat) (w : World') (hw : WB w) (hK : 1048577 < K) : ∃ b, spec_WorldSame.f K (w, ()) = rb b ∧ impl_WorldSame.f K (w, ()) = rb b := by
  refine Ret.same (same_s K w hw hK) ?_ Iff.rfl
  simp only [impl_WorldSame.f, impl_WorldSame.pre]
  exact Ret.px (worldOk_i K w hw hK) fun hW => (same_i K w hw hW hK).id
theorem law_WorldSame (K : Nat) (w : World') (hw : WM w) (hK : 1048577 < K) : laws_FnExactWorldSame.f K (w, ()) = some ((true, ()), ()) := by
  simp only [laws_FnExactWorldSame.f, laws_FnExactWorldSame.pre]
  obtain ⟨r, h1, h2⟩ := szWorld_ok K w hw 1048576 (by omega) (by omega) hK
  rw [h1, Option.bind_some]
  rcases h2 with h2 | ⟨h2, _, hb⟩
  · rw [decide_eq_true h2]; rfl
  · rw [nneg h2]
    obtain ⟨y, h3, h4⟩ := worldSame_same K w hb hK
    simp only [cond_false, toWorld_ok K w hb hK, Option.bind_some, h3, h4, bne_self_eq_false, eqWorld_refl K w hb hK, Bool.not_true]
end Go.Proofs.YthgnfidnmnkeaaaGreatEv
