/- Worlds: sizes, copies, comparisons. -/
import Derived.Test.YthgnfidnmnkeaaaGreatPu7
namespace Go.Proofs.YthgnfidnmnkeaaaGreatEv
open Go

abbrev Flight := Int × ByteArray × Bool
abbrev World' := List Node × List Flight × List Int × List Fact
abbrev World'.nodes (w : World') : List Node := w.1
abbrev World'.radio (w : World') : List Flight := w.2.1
abbrev World'.sides (w : World') : List Int := w.2.2.1
abbrev World'.born (w : World') : List Fact := w.2.2.2

structure WM (w : World') : Prop where
  nodes : (World'.nodes w).length ≤ 9223372036854775807
  node : ∀ n ∈ World'.nodes w, NM n
  radio : (World'.radio w).length ≤ 9223372036854775807
  text : ∀ f ∈ World'.radio w, f.2.1.size ≤ 9223372036854775807
  sides : (World'.sides w).length ≤ 9223372036854775807
  born : (World'.born w).length ≤ 9223372036854775807
structure WB (w : World') : Prop where
  nodes : (World'.nodes w).length ≤ 1048576
  node : ∀ n ∈ World'.nodes w, NB n
  radio : (World'.radio w).length ≤ 1048576
  text : ∀ f ∈ World'.radio w, f.2.1.size ≤ 1048576
  sides : (World'.sides w).length ≤ 1048576
  born : (World'.born w).length ≤ 1048576

theorem szNodeS_ok (K : Nat) (xs : List Node) (left : Int) (h0 : 0 ≤ left) (h1 : left ≤ 1048576) (hx : xs.length ≤ 9223372036854775807) (hy : ∀ y ∈ xs, NM y) (hK : 1048577 < K) : Szd (laws_szNodeS.f K (xs, left, ())) left (xs.length ≤ 1048576 ∧ ∀ y ∈ xs, NB y) := by
  refine Szd.sub left xs.length h0 h1 hx (g := laws_szNodeS.l0 K (xs, left, ()) (wr .i64 (left - (List.length xs : Int)), 0)) fun e h2 => ?_
  rw [e]
  refine szd_loop xs (step := fun rec a => laws_szNodeS.l0.step K (xs, left, ()) rec a) (fun y => NB y) (by omega) ?_ ?_ (by omega) (by omega) hK
  · intro rec i l hi h3 h4
    simp only [laws_szNodeS.l0.step]
    rw [decide_eq_true (by omega : (i : Int) < (List.length xs : Int)), idx_get hi, wr_succ i (by omega)]
    simp only [cond_true, Option.bind_some]
    obtain ⟨r, h5, h6⟩ := szNode_ok K xs[i] (hy _ (List.getElem_mem hi)) l h3 h4 hK
    rw [h5, Option.bind_some]
    rcases h6 with h6 | ⟨h6, h7, h8⟩
    · rw [decide_eq_true h6]; exact .inl rfl
    · rw [decide_eq_false (show ¬ r < 0 by omega)]; exact .inr ⟨r, h6, h7, h8, rfl⟩
  · intro rec l
    simp only [laws_szNodeS.l0.step, decNl]
    rfl

theorem szFlight_ok (K : Nat) (y : Flight) (left : Int) (h0 : 0 ≤ left) (h1 : left ≤ 1048576) (hy : y.2.1.size ≤ 9223372036854775807) : Szd (laws_szFlight.f K (y, left, ())) left (y.2.1.size ≤ 1048576) := by
  refine (Szd.sub left y.2.1.size h0 h1 hy (g := some ((wr .i64 (left - (y.2.1.size : Int)), ()), ())) (Q := True) fun e h2 => ?_).iff fun h => h.1
  rw [e]
  exact Szd.ret _ (by omega)

theorem szFlightS_ok (K : Nat) (xs : List Flight) (left : Int) (h0 : 0 ≤ left) (h1 : left ≤ 1048576) (hx : xs.length ≤ 9223372036854775807) (hy : ∀ y ∈ xs, y.2.1.size ≤ 9223372036854775807) (hK : 1048577 < K) : Szd (laws_szFlightS.f K (xs, left, ())) left (xs.length ≤ 1048576 ∧ ∀ y ∈ xs, y.2.1.size ≤ 1048576) := by
  refine Szd.sub left xs.length h0 h1 hx (g := laws_szFlightS.l0 K (xs, left, ()) (wr .i64 (left - (List.length xs : Int)), 0)) fun e h2 => ?_
  rw [e]
  refine szd_loop xs (step := fun rec a => laws_szFlightS.l0.step K (xs, left, ()) rec a) (fun y => y.2.1.size ≤ 1048576) (by omega) ?_ ?_ (by omega) (by omega) hK
  · intro rec i l hi h3 h4
    simp only [laws_szFlightS.l0.step]
    rw [decide_eq_true (by omega : (i : Int) < (List.length xs : Int)), idx_get hi, wr_succ i (by omega)]
    simp only [cond_true, Option.bind_some]
    obtain ⟨r, h5, h6⟩ := szFlight_ok K xs[i] l h3 h4 (hy _ (List.getElem_mem hi))
    rw [h5, Option.bind_some]
    rcases h6 with h6 | ⟨h6, h7, h8⟩
    · rw [decide_eq_true h6]; exact .inl rfl
    · rw [decide_eq_false (show ¬ r < 0 by omega)]; exact .inr ⟨r, h6, h7, h8, rfl⟩
  · intro rec l
    simp only [laws_szFlightS.l0.step, decNl]
    rfl

theorem szWorld_ok (K : Nat) (w : World') (hw : WM w) (left : Int) (h0 : 0 ≤ left) (h1 : left ≤ 1048576) (hK : 1048577 < K) : Szd (laws_szWorld.f K (w, left, ())) left (WB w) := by
  refine Szd.iff (Szd.bind (szNodeS_ok K (World'.nodes w) left h0 h1 hw.nodes hw.node hK) fun r1 a1 b1 _ => Szd.bind (szFlightS_ok K (World'.radio w) r1 a1 (by omega) hw.radio hw.text hK) fun r2 a2 b2 _ => Szd.bind (szIntS_ok K (World'.sides w) r2 a2 (by omega) hw.sides) fun r3 a3 b3 _ =>
    Szd.bind (szFactS_ok K (World'.born w) r3 a3 (by omega) hw.born) (G := fun y5 => some ((y5.1.1, ()), ())) fun r5 a5 _ _ => Szd.ret r5 a5) ?_
  rintro ⟨⟨h1, h2⟩, ⟨h3, h4⟩, h5, h6, _⟩
  exact ⟨h1, h2, h3, h4, h5, h6⟩

theorem toNodeS_ok (K : Nat) (xs : List Node) (hx : xs.length ≤ 1048576) (hb : ∀ y ∈ xs, NB y) (hK : 1048577 < K) : laws_toNodeS.f K (xs, ()) = some ((xs, ()), ()) := by
  have hl : laws_toNodeS.l0 K (xs, ()) (List.replicate xs.length (0, (false, (false, (false, (0, (0, (0, (0, ([], ([], ((0, (0, (0, false))), ([], ((0, (0, (0, 0))), ([], [])))))))))))))), 0) = some ((xs, ()), ()) := by
    refine to_loop (step := fun rec a => laws_toNodeS.l0.step K (xs, ()) rec a) xs _ hx ?_ ?_ hK
    · intro rec i out hi ho
      simp only [laws_toNodeS.l0.step]
      rw [decide_eq_true (by omega : (i : Int) < (List.length xs : Int)), idx_get hi, idx_get (show i < out.length by omega), wr_succ i (by omega), Int.toNat_natCast, idx_get (show i < out.length by omega)]
      simp only [cond_true, Option.bind_some]
      rw [toNode_ok K _ (hb _ (List.getElem_mem hi)) hK]
      rfl
    · intro rec out
      simp only [laws_toNodeS.l0.step, decNl]
      rfl
  simp only [laws_toNodeS.f, laws_toNodeS.pre]
  rw [decide_eq_true (by omega : (0 : Int) ≤ (List.length xs : Int)), show decide ((List.length xs : Int) * (232 : Nat) ≤ sizeK) = true from decide_eq_true (by simp only [sizeK]; omega), Int.toNat_natCast]
  simp only [decide_true, Bool.and_self, cond_true]
  exact hl

theorem toFlight_ok (K : Nat) (y : Flight) : laws_toFlight.f K (y, ()) = some ((y, ()), ()) := rfl

theorem toFlightS_ok (K : Nat) (xs : List Flight) (hx : xs.length ≤ 1048576) (hK : 1048577 < K) : laws_toFlightS.f K (xs, ()) = some ((xs, ()), ()) := by
  have hl : laws_toFlightS.l0 K (xs, ()) (List.replicate xs.length (0, (ByteArray.empty, false)), 0) = some ((xs, ()), ()) := by
    refine to_loop (step := fun rec a => laws_toFlightS.l0.step K (xs, ()) rec a) xs _ hx ?_ ?_ hK
    · intro rec i out hi ho
      simp only [laws_toFlightS.l0.step]
      rw [decide_eq_true (by omega : (i : Int) < (List.length xs : Int)), idx_get hi, idx_get (show i < out.length by omega), wr_succ i (by omega), Int.toNat_natCast, idx_get (show i < out.length by omega)]
      simp only [cond_true, Option.bind_some]
      rw [toFlight_ok]
      rfl
    · intro rec out
      simp only [laws_toFlightS.l0.step, decNl]
      rfl
  simp only [laws_toFlightS.f, laws_toFlightS.pre]
  rw [decide_eq_true (by omega : (0 : Int) ≤ (List.length xs : Int)), show decide ((List.length xs : Int) * (32 : Nat) ≤ sizeK) = true from decide_eq_true (by simp only [sizeK]; omega), Int.toNat_natCast]
  simp only [decide_true, Bool.and_self, cond_true]
  exact hl

theorem toWorld_ok (K : Nat) (w : World') (hw : WB w) (hK : 1048577 < K) : laws_toWorld.f K (w, ()) = some ((w, ()), ()) := by
  simp only [laws_toWorld.f, laws_toWorld.pre]
  rw [toNodeS_ok K _ hw.nodes hw.node hK, Option.bind_some, toFlightS_ok K _ hw.radio hK, Option.bind_some, toIntS_ok K _ hw.sides hK, Option.bind_some, toFactS_ok K _ hw.born hK]
  rfl

theorem eqNodeS_refl (K : Nat) (xs : List Node) (hx : xs.length ≤ 1048576) (hb : ∀ y ∈ xs, NB y) (hK : 1048577 < K) : laws_eqNodeS.f K (xs, xs, ()) = rb true := by
  have hl : laws_eqNodeS.l0 K (xs, xs, ()) 0 = rb true := by
    refine iter_go (step := fun rec a => laws_eqNodeS.l0.step K (xs, xs, ()) rec a) xs.length (fun i => (i : Int)) (rb true) ?_ ?_ (by omega)
    · intro rec i hi
      simp only [laws_eqNodeS.l0.step]
      rw [decide_eq_true (by omega : (i : Int) < (List.length xs : Int)), idx_get hi, wr_succ i (by omega)]
      simp only [cond_true, Option.bind_some]
      rw [eqNode_refl K _ (hb _ (List.getElem_mem hi)) hK]
      rfl
    · intro rec
      simp only [laws_eqNodeS.l0.step, decNl]
      rfl
  simp only [laws_eqNodeS.f, laws_eqNodeS.pre, bne_self_eq_false, cond_false]
  exact hl

theorem eqFlight_refl (K : Nat) (y : Flight) : laws_eqFlight.f K (y, y, ()) = rb true := by simp [laws_eqFlight.f, laws_eqFlight.pre]

theorem eqFlightS_refl (K : Nat) (xs : List Flight) (hx : xs.length ≤ 1048576) (hK : 1048577 < K) : laws_eqFlightS.f K (xs, xs, ()) = rb true := by
  have hl : laws_eqFlightS.l0 K (xs, xs, ()) 0 = rb true := by
    refine iter_go (step := fun rec a => laws_eqFlightS.l0.step K (xs, xs, ()) rec a) xs.length (fun i => (i : Int)) (rb true) ?_ ?_ (by omega)
    · intro rec i hi
      simp only [laws_eqFlightS.l0.step]
      rw [decide_eq_true (by omega : (i : Int) < (List.length xs : Int)), idx_get hi, wr_succ i (by omega)]
      simp only [cond_true, Option.bind_some]
      rw [eqFlight_refl]
      rfl
    · intro rec
      simp only [laws_eqFlightS.l0.step, decNl]
      rfl
  simp only [laws_eqFlightS.f, laws_eqFlightS.pre, bne_self_eq_false, cond_false]
  exact hl

theorem eqWorld_refl (K : Nat) (w : World') (hw : WB w) (hK : 1048577 < K) : laws_eqWorld.f K (w, w, ()) = rb true := by
  simp only [laws_eqWorld.f, laws_eqWorld.pre]
  rw [eqNodeS_refl K _ hw.nodes hw.node hK, eqFlightS_refl K _ hw.radio hK, eqIntS_refl K _ hw.sides hK, eqFactS_refl K _ hw.born hK]
  simp

end Go.Proofs.YthgnfidnmnkeaaaGreatEv
