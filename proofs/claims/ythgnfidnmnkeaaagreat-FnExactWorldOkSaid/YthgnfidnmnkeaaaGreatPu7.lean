/- The law's own functions: sizes, copies, comparisons. -/
import Derived.Test.YthgnfidnmnkeaaaGreatPu6
namespace Go.Proofs.YthgnfidnmnkeaaaGreatEv
open Go

/-- A loop whose rounds all go on. -/
theorem iter_go {A R : Type} {step : (A → Option R) → A → Option R} (n : Nat) (S : Nat → A) (rt : Option R) (h : ∀ (rec : A → Option R) (i : Nat), i < n → step rec (S i) = rec (S (i + 1))) (hend : ∀ rec : A → Option R, step rec (S n) = rt)
    {k : Nat} (hk : n < k) : iterate step k (S 0) = rt := by
  rcases iter_all (step := step) n S (fun _ => True) rt none (fun rec i hi => .inl ⟨trivial, h rec i hi⟩) hend n k 0 (by omega) hk with ⟨_, h1⟩ | ⟨h1, _⟩
  · exact h1
  · exact absurd (fun _ _ _ => trivial) h1

/-! ### Copies -/
theorem to_loop {α : Type} (xs : List α) (z : α) {step : (List α × Int → Option ((List α × Unit) × Unit)) → List α × Int → Option ((List α × Unit) × Unit)} (hx : xs.length ≤ 1048576)
    (h : ∀ (rec : List α × Int → Option ((List α × Unit) × Unit)) (i : Nat) (out : List α) (hi : i < xs.length), out.length = xs.length → step rec (out, (i : Int)) = rec (out.set i xs[i], ((i + 1 : Nat) : Int)))
    (hend : ∀ (rec : List α × Int → Option ((List α × Unit) × Unit)) (out : List α), step rec (out, (xs.length : Int)) = some ((out, ()), ())) {k : Nat} (hk : 1048577 < k) :
    iterate step k (List.replicate xs.length z, 0) = some ((xs, ()), ()) := by
  have := iter_go (step := step) xs.length (fun i => (xs.take i ++ List.replicate (xs.length - i) z, (i : Int))) (some ((xs, ()), ())) ?_ ?_ (k := k) (by omega)
  · simpa using this
  · intro rec i hi
    rw [h rec i _ hi (by simp; omega)]
    congr 2
    have e0 : xs.length - i = (xs.length - (i + 1)) + 1 := by omega
    rw [e0, List.set_append_right _ _ (by simp; omega)]
    have e1 : i - (xs.take i).length = 0 := by simp; omega
    rw [e1, List.replicate_succ, List.set_cons_zero, List.take_add_one, List.getElem?_eq_getElem hi, List.append_assoc]
    rfl
  · intro rec
    rw [hend]
    simp

theorem toFactS_ok (K : Nat) (xs : List Fact) (hx : xs.length ≤ 1048576) (hK : 1048577 < K) : laws_toFactS.f K (xs, ()) = some ((xs, ()), ()) := by
  have hl : laws_toFactS.l0 K (xs, ()) (List.replicate xs.length (0, (0, (0, false))), 0) = some ((xs, ()), ()) := by
    refine to_loop (step := fun rec a => laws_toFactS.l0.step K (xs, ()) rec a) xs (0, (0, (0, false))) hx ?_ ?_ hK
    · intro rec i out hi ho
      simp only [laws_toFactS.l0.step]
      rw [decide_eq_true (by omega : (i : Int) < (List.length xs : Int)), idx_get hi, idx_get (show i < out.length by omega), wr_succ i (by omega), Int.toNat_natCast, idx_get (show i < out.length by omega)]
      simp only [cond_true, Option.bind_some]
      rfl
    · intro rec out
      simp only [laws_toFactS.l0.step, decNl]
      rfl
  simp only [laws_toFactS.f, laws_toFactS.pre]
  rw [decide_eq_true (by omega : (0 : Int) ≤ (List.length xs : Int)), show decide ((List.length xs : Int) * (32 : Nat) ≤ sizeK) = true from decide_eq_true (by simp only [sizeK]; omega), Int.toNat_natCast]
  simp only [decide_true, Bool.and_self, cond_true]
  exact hl

theorem toItem_ok (K : Nat) (y : Item) : laws_toItem.f K (y, ()) = some ((y, ()), ()) := rfl

theorem toItemS_ok (K : Nat) (xs : List Item) (hx : xs.length ≤ 1048576) (hK : 1048577 < K) : laws_toItemS.f K (xs, ()) = some ((xs, ()), ()) := by
  have hl : laws_toItemS.l0 K (xs, ()) (List.replicate xs.length ((0, (0, (0, false))), 0), 0) = some ((xs, ()), ()) := by
    refine to_loop (step := fun rec a => laws_toItemS.l0.step K (xs, ()) rec a) xs ((0, (0, (0, false))), 0) hx ?_ ?_ hK
    · intro rec i out hi ho
      simp only [laws_toItemS.l0.step]
      rw [decide_eq_true (by omega : (i : Int) < (List.length xs : Int)), idx_get hi, idx_get (show i < out.length by omega), wr_succ i (by omega), Int.toNat_natCast, idx_get (show i < out.length by omega)]
      simp only [cond_true, Option.bind_some]
      rw [toItem_ok]
      rfl
    · intro rec out
      simp only [laws_toItemS.l0.step, decNl]
      rfl
  simp only [laws_toItemS.f, laws_toItemS.pre]
  rw [decide_eq_true (by omega : (0 : Int) ≤ (List.length xs : Int)), show decide ((List.length xs : Int) * (40 : Nat) ≤ sizeK) = true from decide_eq_true (by simp only [sizeK]; omega), Int.toNat_natCast]
  simp only [decide_true, Bool.and_self, cond_true]
  exact hl

theorem toIntS_ok (K : Nat) (xs : List Int) (hx : xs.length ≤ 1048576) (hK : 1048577 < K) : laws_toIntS.f K (xs, ()) = some ((xs, ()), ()) := by
  have hl : laws_toIntS.l0 K (xs, ()) (List.replicate xs.length 0, 0) = some ((xs, ()), ()) := by
    refine to_loop (step := fun rec a => laws_toIntS.l0.step K (xs, ()) rec a) xs 0 hx ?_ ?_ hK
    · intro rec i out hi ho
      simp only [laws_toIntS.l0.step]
      rw [decide_eq_true (by omega : (i : Int) < (List.length xs : Int)), idx_get hi, idx_get (show i < out.length by omega), wr_succ i (by omega), Int.toNat_natCast, idx_get (show i < out.length by omega)]
      simp only [cond_true, Option.bind_some]
    · intro rec out
      simp only [laws_toIntS.l0.step, decNl]
      rfl
  simp only [laws_toIntS.f, laws_toIntS.pre]
  rw [decide_eq_true (by omega : (0 : Int) ≤ (List.length xs : Int)), show decide ((List.length xs : Int) * (8 : Nat) ≤ sizeK) = true from decide_eq_true (by simp only [sizeK]; omega), Int.toNat_natCast]
  simp only [decide_true, Bool.and_self, cond_true]
  exact hl

theorem toDoubt_ok (K : Nat) (y : Doubt) (h : y.2.2.2.length ≤ 1048576) (hK : 1048577 < K) : laws_toDoubt.f K (y, ()) = some ((y, ()), ()) := by
  simp only [laws_toDoubt.f, laws_toDoubt.pre]
  rw [toIntS_ok K _ h hK]
  rfl

theorem toDoubtS_ok (K : Nat) (xs : List Doubt) (hx : xs.length ≤ 1048576) (hb : ∀ y ∈ xs, y.2.2.2.length ≤ 1048576) (hK : 1048577 < K) : laws_toDoubtS.f K (xs, ()) = some ((xs, ()), ()) := by
  have hl : laws_toDoubtS.l0 K (xs, ()) (List.replicate xs.length (0, (0, (0, []))), 0) = some ((xs, ()), ()) := by
    refine to_loop (step := fun rec a => laws_toDoubtS.l0.step K (xs, ()) rec a) xs (0, (0, (0, []))) hx ?_ ?_ hK
    · intro rec i out hi ho
      simp only [laws_toDoubtS.l0.step]
      rw [decide_eq_true (by omega : (i : Int) < (List.length xs : Int)), idx_get hi, idx_get (show i < out.length by omega), wr_succ i (by omega), Int.toNat_natCast, idx_get (show i < out.length by omega)]
      simp only [cond_true, Option.bind_some]
      rw [toDoubt_ok K _ (hb _ (List.getElem_mem hi)) hK]
      rfl
    · intro rec out
      simp only [laws_toDoubtS.l0.step, decNl]
      rfl
  simp only [laws_toDoubtS.f, laws_toDoubtS.pre]
  rw [decide_eq_true (by omega : (0 : Int) ≤ (List.length xs : Int)), show decide ((List.length xs : Int) * (48 : Nat) ≤ sizeK) = true from decide_eq_true (by simp only [sizeK]; omega), Int.toNat_natCast]
  simp only [decide_true, Bool.and_self, cond_true]
  exact hl

theorem toPlace_ok (K : Nat) (y : Place) (h : y.2.2.length ≤ 1048576) (hK : 1048577 < K) : laws_toPlace.f K (y, ()) = some ((y, ()), ()) := by
  simp only [laws_toPlace.f, laws_toPlace.pre]
  rw [toIntS_ok K _ h hK]
  rfl

theorem toPlaceS_ok (K : Nat) (xs : List Place) (hx : xs.length ≤ 1048576) (hb : ∀ y ∈ xs, y.2.2.length ≤ 1048576) (hK : 1048577 < K) : laws_toPlaceS.f K (xs, ()) = some ((xs, ()), ()) := by
  have hl : laws_toPlaceS.l0 K (xs, ()) (List.replicate xs.length (0, ((0, (0, (0, 0))), [])), 0) = some ((xs, ()), ()) := by
    refine to_loop (step := fun rec a => laws_toPlaceS.l0.step K (xs, ()) rec a) xs (0, ((0, (0, (0, 0))), [])) hx ?_ ?_ hK
    · intro rec i out hi ho
      simp only [laws_toPlaceS.l0.step]
      rw [decide_eq_true (by omega : (i : Int) < (List.length xs : Int)), idx_get hi, idx_get (show i < out.length by omega), wr_succ i (by omega), Int.toNat_natCast, idx_get (show i < out.length by omega)]
      simp only [cond_true, Option.bind_some]
      rw [toPlace_ok K _ (hb _ (List.getElem_mem hi)) hK]
      rfl
    · intro rec out
      simp only [laws_toPlaceS.l0.step, decNl]
      rfl
  simp only [laws_toPlaceS.f, laws_toPlaceS.pre]
  rw [decide_eq_true (by omega : (0 : Int) ≤ (List.length xs : Int)), show decide ((List.length xs : Int) * (64 : Nat) ≤ sizeK) = true from decide_eq_true (by simp only [sizeK]; omega), Int.toNat_natCast]
  simp only [decide_true, Bool.and_self, cond_true]
  exact hl

theorem toForeign_ok (K : Nat) (y : Foreign) (h : y.2.length ≤ 1048576) (hK : 1048577 < K) : laws_toForeign.f K (y, ()) = some ((y, ()), ()) := by
  simp only [laws_toForeign.f, laws_toForeign.pre]
  rw [toFactS_ok K _ h hK]
  rfl

theorem toForeignS_ok (K : Nat) (xs : List Foreign) (hx : xs.length ≤ 1048576) (hb : ∀ y ∈ xs, y.2.length ≤ 1048576) (hK : 1048577 < K) : laws_toForeignS.f K (xs, ()) = some ((xs, ()), ()) := by
  have hl : laws_toForeignS.l0 K (xs, ()) (List.replicate xs.length (0, []), 0) = some ((xs, ()), ()) := by
    refine to_loop (step := fun rec a => laws_toForeignS.l0.step K (xs, ()) rec a) xs (0, []) hx ?_ ?_ hK
    · intro rec i out hi ho
      simp only [laws_toForeignS.l0.step]
      rw [decide_eq_true (by omega : (i : Int) < (List.length xs : Int)), idx_get hi, idx_get (show i < out.length by omega), wr_succ i (by omega), Int.toNat_natCast, idx_get (show i < out.length by omega)]
      simp only [cond_true, Option.bind_some]
      rw [toForeign_ok K _ (hb _ (List.getElem_mem hi)) hK]
      rfl
    · intro rec out
      simp only [laws_toForeignS.l0.step, decNl]
      rfl
  simp only [laws_toForeignS.f, laws_toForeignS.pre]
  rw [decide_eq_true (by omega : (0 : Int) ≤ (List.length xs : Int)), show decide ((List.length xs : Int) * (32 : Nat) ≤ sizeK) = true from decide_eq_true (by simp only [sizeK]; omega), Int.toNat_natCast]
  simp only [decide_true, Bool.and_self, cond_true]
  exact hl

theorem toNode_ok (K : Nat) (n : Node) (hn : NB n) (hK : 1048577 < K) : laws_toNode.f K (n, ()) = some ((n, ()), ()) := by
  simp only [laws_toNode.f, laws_toNode.pre]
  rw [toFactS_ok K _ hn.table hK, Option.bind_some, toItemS_ok K _ hn.cast hK, Option.bind_some, toDoubtS_ok K _ hn.doubts hn.by_ hK, toPlaceS_ok K _ hn.places hn.trips hK, toForeignS_ok K _ hn.others hn.facts hK]
  rfl

/-! ### Comparisons -/
theorem eqFact_refl (K : Nat) (y : Fact) : laws_eqFact.f K (y, y, ()) = rb true := by simp [laws_eqFact.f, laws_eqFact.pre]
theorem eqProbe_refl (K : Nat) (y : Fact) : laws_eqProbe.f K (y, y, ()) = rb true := by simp [laws_eqProbe.f, laws_eqProbe.pre]
theorem eqCoord_refl (K : Nat) (y : Coord) : laws_eqCoord.f K (y, y, ()) = rb true := by simp [laws_eqCoord.f, laws_eqCoord.pre]
theorem eqItem_refl (K : Nat) (y : Item) : laws_eqItem.f K (y, y, ()) = rb true := by
  simp only [laws_eqItem.f, laws_eqItem.pre]
  rw [eqFact_refl]
  simp

theorem eqFactS_refl (K : Nat) (xs : List Fact) (hx : xs.length ≤ 1048576) (hK : 1048577 < K) : laws_eqFactS.f K (xs, xs, ()) = rb true := by
  have hl : laws_eqFactS.l0 K (xs, xs, ()) 0 = rb true := by
    refine iter_go (step := fun rec a => laws_eqFactS.l0.step K (xs, xs, ()) rec a) xs.length (fun i => (i : Int)) (rb true) ?_ ?_ (by omega)
    · intro rec i hi
      simp only [laws_eqFactS.l0.step]
      rw [decide_eq_true (by omega : (i : Int) < (List.length xs : Int)), idx_get hi, wr_succ i (by omega)]
      simp only [cond_true, Option.bind_some]
      rw [eqFact_refl]
      rfl
    · intro rec
      simp only [laws_eqFactS.l0.step, decNl]
      rfl
  simp only [laws_eqFactS.f, laws_eqFactS.pre, bne_self_eq_false, cond_false]
  exact hl

theorem eqItemS_refl (K : Nat) (xs : List Item) (hx : xs.length ≤ 1048576) (hK : 1048577 < K) : laws_eqItemS.f K (xs, xs, ()) = rb true := by
  have hl : laws_eqItemS.l0 K (xs, xs, ()) 0 = rb true := by
    refine iter_go (step := fun rec a => laws_eqItemS.l0.step K (xs, xs, ()) rec a) xs.length (fun i => (i : Int)) (rb true) ?_ ?_ (by omega)
    · intro rec i hi
      simp only [laws_eqItemS.l0.step]
      rw [decide_eq_true (by omega : (i : Int) < (List.length xs : Int)), idx_get hi, wr_succ i (by omega)]
      simp only [cond_true, Option.bind_some]
      rw [eqItem_refl]
      rfl
    · intro rec
      simp only [laws_eqItemS.l0.step, decNl]
      rfl
  simp only [laws_eqItemS.f, laws_eqItemS.pre, bne_self_eq_false, cond_false]
  exact hl

theorem eqIntS_refl (K : Nat) (xs : List Int) (hx : xs.length ≤ 1048576) (hK : 1048577 < K) : laws_eqIntS.f K (xs, xs, ()) = rb true := by
  have hl : laws_eqIntS.l0 K (xs, xs, ()) 0 = rb true := by
    refine iter_go (step := fun rec a => laws_eqIntS.l0.step K (xs, xs, ()) rec a) xs.length (fun i => (i : Int)) (rb true) ?_ ?_ (by omega)
    · intro rec i hi
      simp only [laws_eqIntS.l0.step]
      rw [decide_eq_true (by omega : (i : Int) < (List.length xs : Int)), idx_get hi, wr_succ i (by omega)]
      simp only [cond_true, Option.bind_some]
      simp only [bne_self_eq_false, cond_false]
    · intro rec
      simp only [laws_eqIntS.l0.step, decNl]
      rfl
  simp only [laws_eqIntS.f, laws_eqIntS.pre, bne_self_eq_false, cond_false]
  exact hl

theorem eqDoubt_refl (K : Nat) (y : Doubt) (h : y.2.2.2.length ≤ 1048576) (hK : 1048577 < K) : laws_eqDoubt.f K (y, y, ()) = rb true := by
  simp only [laws_eqDoubt.f, laws_eqDoubt.pre]
  rw [eqIntS_refl K _ h hK]
  simp
theorem eqDoubtS_refl (K : Nat) (xs : List Doubt) (hx : xs.length ≤ 1048576) (hb : ∀ y ∈ xs, y.2.2.2.length ≤ 1048576) (hK : 1048577 < K) : laws_eqDoubtS.f K (xs, xs, ()) = rb true := by
  have hl : laws_eqDoubtS.l0 K (xs, xs, ()) 0 = rb true := by
    refine iter_go (step := fun rec a => laws_eqDoubtS.l0.step K (xs, xs, ()) rec a) xs.length (fun i => (i : Int)) (rb true) ?_ ?_ (by omega)
    · intro rec i hi
      simp only [laws_eqDoubtS.l0.step]
      rw [decide_eq_true (by omega : (i : Int) < (List.length xs : Int)), idx_get hi, wr_succ i (by omega)]
      simp only [cond_true, Option.bind_some]
      rw [eqDoubt_refl K _ (hb _ (List.getElem_mem hi)) hK]
      rfl
    · intro rec
      simp only [laws_eqDoubtS.l0.step, decNl]
      rfl
  simp only [laws_eqDoubtS.f, laws_eqDoubtS.pre, bne_self_eq_false, cond_false]
  exact hl

theorem eqPlace_refl (K : Nat) (y : Place) (h : y.2.2.length ≤ 1048576) (hK : 1048577 < K) : laws_eqPlace.f K (y, y, ()) = rb true := by
  simp only [laws_eqPlace.f, laws_eqPlace.pre]
  rw [eqCoord_refl, eqIntS_refl K _ h hK]
  simp
theorem eqPlaceS_refl (K : Nat) (xs : List Place) (hx : xs.length ≤ 1048576) (hb : ∀ y ∈ xs, y.2.2.length ≤ 1048576) (hK : 1048577 < K) : laws_eqPlaceS.f K (xs, xs, ()) = rb true := by
  have hl : laws_eqPlaceS.l0 K (xs, xs, ()) 0 = rb true := by
    refine iter_go (step := fun rec a => laws_eqPlaceS.l0.step K (xs, xs, ()) rec a) xs.length (fun i => (i : Int)) (rb true) ?_ ?_ (by omega)
    · intro rec i hi
      simp only [laws_eqPlaceS.l0.step]
      rw [decide_eq_true (by omega : (i : Int) < (List.length xs : Int)), idx_get hi, wr_succ i (by omega)]
      simp only [cond_true, Option.bind_some]
      rw [eqPlace_refl K _ (hb _ (List.getElem_mem hi)) hK]
      rfl
    · intro rec
      simp only [laws_eqPlaceS.l0.step, decNl]
      rfl
  simp only [laws_eqPlaceS.f, laws_eqPlaceS.pre, bne_self_eq_false, cond_false]
  exact hl

theorem eqForeign_refl (K : Nat) (y : Foreign) (h : y.2.length ≤ 1048576) (hK : 1048577 < K) : laws_eqForeign.f K (y, y, ()) = rb true := by
  simp only [laws_eqForeign.f, laws_eqForeign.pre]
  rw [eqFactS_refl K _ h hK]
  simp
theorem eqForeignS_refl (K : Nat) (xs : List Foreign) (hx : xs.length ≤ 1048576) (hb : ∀ y ∈ xs, y.2.length ≤ 1048576) (hK : 1048577 < K) : laws_eqForeignS.f K (xs, xs, ()) = rb true := by
  have hl : laws_eqForeignS.l0 K (xs, xs, ()) 0 = rb true := by
    refine iter_go (step := fun rec a => laws_eqForeignS.l0.step K (xs, xs, ()) rec a) xs.length (fun i => (i : Int)) (rb true) ?_ ?_ (by omega)
    · intro rec i hi
      simp only [laws_eqForeignS.l0.step]
      rw [decide_eq_true (by omega : (i : Int) < (List.length xs : Int)), idx_get hi, wr_succ i (by omega)]
      simp only [cond_true, Option.bind_some]
      rw [eqForeign_refl K _ (hb _ (List.getElem_mem hi)) hK]
      rfl
    · intro rec
      simp only [laws_eqForeignS.l0.step, decNl]
      rfl
  simp only [laws_eqForeignS.f, laws_eqForeignS.pre, bne_self_eq_false, cond_false]
  exact hl

theorem eqNode_refl (K : Nat) (n : Node) (hn : NB n) (hK : 1048577 < K) : laws_eqNode.f K (n, n, ()) = rb true := by
  simp only [laws_eqNode.f, laws_eqNode.pre]
  rw [eqFactS_refl K _ hn.table hK, eqItemS_refl K _ hn.cast hK, eqProbe_refl, eqDoubtS_refl K _ hn.doubts hn.by_ hK, eqCoord_refl, eqPlaceS_refl K _ hn.places hn.trips hK, eqForeignS_refl K _ hn.others hn.facts hK]
  simp

/-! ### Sizes -/
/-- What is left of a budget; below 0: too much. -/
def Szd (o : Option ((Int × Unit) × Unit)) (left : Int) (Q : Prop) : Prop := ∃ r, o = some ((r, ()), ()) ∧ (r < 0 ∨ (0 ≤ r ∧ r ≤ left ∧ Q))

theorem Szd.sub (left : Int) (n : Nat) (h0 : 0 ≤ left) (h1 : left ≤ 1048576) (hn : n ≤ 9223372036854775807) {g : Option ((Int × Unit) × Unit)} {Q : Prop} (hg : wr .i64 (left - (n : Int)) = left - n → (n : Int) ≤ left → Szd g (left - n) Q) :
    Szd (bif decide (wr .i64 (left - (n : Int)) < 0) then some ((-1, ()), ()) else g) left (n ≤ 1048576 ∧ Q) := by
  have e : wr .i64 (left - (n : Int)) = left - n := wr64 (by omega) (by omega)
  by_cases h : left - (n : Int) < 0
  · rw [e, decide_eq_true h]
    exact ⟨-1, rfl, .inl (by decide)⟩
  · rw [decide_eq_false (by rw [e]; exact h)]
    obtain ⟨r, h2, h3⟩ := hg e (by omega)
    exact ⟨r, h2, h3.imp id fun h4 => ⟨h4.1, by omega, by omega, h4.2.2⟩⟩

theorem Szd.bind {o : Option ((Int × Unit) × Unit)} {left : Int} {P Q : Prop} {G : (Int × Unit) × Unit → Option ((Int × Unit) × Unit)} (h : Szd o left P) (h2 : ∀ r, 0 ≤ r → r ≤ left → P → Szd (G ((r, ()), ())) r Q) :
    Szd (o.bind fun y => bif decide (y.1.1 < 0) then some ((-1, ()), ()) else G y) left (P ∧ Q) := by
  obtain ⟨r, h3, h4⟩ := h
  rw [h3, Option.bind_some]
  rcases h4 with h4 | ⟨h4, h5, h6⟩
  · rw [decide_eq_true h4]
    exact ⟨-1, rfl, .inl (by decide)⟩
  · rw [show decide (r < 0) = false from decide_eq_false (by omega)]
    obtain ⟨r2, h7, h8⟩ := h2 r h4 h5 h6
    exact ⟨r2, h7, h8.imp id fun h9 => ⟨h9.1, by omega, h6, h9.2.2⟩⟩

theorem Szd.ret (r : Int) (h : 0 ≤ r) : Szd (some ((r, ()), ())) r True := ⟨r, rfl, .inr ⟨h, Int.le_refl _, trivial⟩⟩
theorem Szd.iff {o : Option ((Int × Unit) × Unit)} {left : Int} {P Q : Prop} (h : Szd o left P) (e : P → Q) : Szd o left Q := by
  obtain ⟨r, h1, h2⟩ := h
  exact ⟨r, h1, h2.imp id fun h3 => ⟨h3.1, h3.2.1, e h3.2.2⟩⟩

/-- A loop over what is measured. -/
theorem szd_loop {α : Type} (xs : List α) {step : (Int × Int → Option ((Int × Unit) × Unit)) → Int × Int → Option ((Int × Unit) × Unit)} (P : α → Prop) (hx : xs.length ≤ 1048576)
    (h : ∀ (rec : Int × Int → Option ((Int × Unit) × Unit)) (i : Nat) (left : Int) (hi : i < xs.length), 0 ≤ left → left ≤ 1048576 → step rec (left, (i : Int)) = some ((-1, ()), ()) ∨ ∃ r, 0 ≤ r ∧ r ≤ left ∧ P xs[i] ∧ step rec (left, (i : Int)) = rec (r, ((i + 1 : Nat) : Int)))
    (hend : ∀ (rec : Int × Int → Option ((Int × Unit) × Unit)) (left : Int), step rec (left, (xs.length : Int)) = some ((left, ()), ())) {left : Int} (h0 : 0 ≤ left) (h1 : left ≤ 1048576) {k : Nat} (hk : 1048577 < k) :
    Szd (iterate step k (left, 0)) left (∀ x ∈ xs, P x) := by
  have key : ∀ (d k i : Nat) (left : Int), i + d = xs.length → d < k → 0 ≤ left → left ≤ 1048576 → Szd (iterate step k (left, (i : Int))) left (∀ j (hj : j < xs.length), i ≤ j → P xs[j]) := by
    intro d
    induction d with
    | zero =>
      intro k i left hi hk h0 h1
      obtain ⟨k, rfl⟩ : ∃ k', k = k' + 1 := ⟨k - 1, by omega⟩
      have : i = xs.length := by omega
      subst this
      have e : iterate step (k + 1) (left, (xs.length : Int)) = some ((left, ()), ()) := hend (iterate step k) left
      rw [e]
      exact (Szd.ret left h0).iff fun _ j hj hij => by omega
    | succ d ih =>
      intro k i left hi hk h0 h1
      obtain ⟨k, rfl⟩ : ∃ k', k = k' + 1 := ⟨k - 1, by omega⟩
      have hi' : i < xs.length := by omega
      have e : iterate step (k + 1) (left, (i : Int)) = step (iterate step k) (left, (i : Int)) := rfl
      rw [e]
      rcases h (iterate step k) i left hi' h0 h1 with h2 | ⟨r, h2, h3, h4, h5⟩
      · rw [h2]
        exact ⟨-1, rfl, .inl (by decide)⟩
      · rw [h5]
        obtain ⟨r2, h6, h7⟩ := ih k (i + 1) r (by omega) (by omega) h2 (by omega)
        refine ⟨r2, h6, h7.imp id fun h8 => ⟨h8.1, by omega, fun j hj hij => ?_⟩⟩
        by_cases he : j = i
        · subst he; exact h4
        · exact h8.2.2 j hj (by omega)
  have := key xs.length k 0 left (by omega) (by omega) h0 h1
  refine Szd.iff this fun h2 => ?_
  rw [all_get]
  exact fun i hi => h2 i hi (Nat.zero_le _)

theorem szFactS_ok (K : Nat) (xs : List Fact) (left : Int) (h0 : 0 ≤ left) (h1 : left ≤ 1048576) (hx : xs.length ≤ 9223372036854775807) : Szd (laws_szFactS.f K (xs, left, ())) left (xs.length ≤ 1048576) := by
  refine (Szd.sub left xs.length h0 h1 hx (g := some ((wr .i64 (left - (List.length xs : Int)), ()), ())) (Q := True) fun e h2 => ?_).iff fun h => h.1
  rw [e]
  exact Szd.ret _ (by omega)

theorem szItemS_ok (K : Nat) (xs : List Item) (left : Int) (h0 : 0 ≤ left) (h1 : left ≤ 1048576) (hx : xs.length ≤ 9223372036854775807) : Szd (laws_szItemS.f K (xs, left, ())) left (xs.length ≤ 1048576) := by
  refine (Szd.sub left xs.length h0 h1 hx (g := some ((wr .i64 (left - (List.length xs : Int)), ()), ())) (Q := True) fun e h2 => ?_).iff fun h => h.1
  rw [e]
  exact Szd.ret _ (by omega)

theorem szIntS_ok (K : Nat) (xs : List Int) (left : Int) (h0 : 0 ≤ left) (h1 : left ≤ 1048576) (hx : xs.length ≤ 9223372036854775807) : Szd (laws_szIntS.f K (xs, left, ())) left (xs.length ≤ 1048576) := by
  refine (Szd.sub left xs.length h0 h1 hx (g := some ((wr .i64 (left - (List.length xs : Int)), ()), ())) (Q := True) fun e h2 => ?_).iff fun h => h.1
  rw [e]
  exact Szd.ret _ (by omega)

theorem szDoubt_ok (K : Nat) (y : Doubt) (left : Int) (h0 : 0 ≤ left) (h1 : left ≤ 1048576) (hy : y.2.2.2.length ≤ 9223372036854775807) : Szd (laws_szDoubt.f K (y, left, ())) left (y.2.2.2.length ≤ 1048576) := by
  refine Szd.iff (Szd.bind (szIntS_ok K y.2.2.2 left h0 h1 hy) (G := fun y1 => some ((y1.1.1, ()), ())) (Q := True) fun r h2 _ _ => Szd.ret r h2) fun h => h.1

theorem szDoubtS_ok (K : Nat) (xs : List Doubt) (left : Int) (h0 : 0 ≤ left) (h1 : left ≤ 1048576) (hx : xs.length ≤ 9223372036854775807) (hy : ∀ y ∈ xs, y.2.2.2.length ≤ 9223372036854775807) (hK : 1048577 < K) : Szd (laws_szDoubtS.f K (xs, left, ())) left (xs.length ≤ 1048576 ∧ ∀ y ∈ xs, y.2.2.2.length ≤ 1048576) := by
  refine Szd.sub left xs.length h0 h1 hx (g := laws_szDoubtS.l0 K (xs, left, ()) (wr .i64 (left - (List.length xs : Int)), 0)) fun e h2 => ?_
  rw [e]
  refine szd_loop xs (step := fun rec a => laws_szDoubtS.l0.step K (xs, left, ()) rec a) (fun y => y.2.2.2.length ≤ 1048576) (by omega) ?_ ?_ (by omega) (by omega) hK
  · intro rec i l hi h3 h4
    simp only [laws_szDoubtS.l0.step]
    rw [decide_eq_true (by omega : (i : Int) < (List.length xs : Int)), idx_get hi, wr_succ i (by omega)]
    simp only [cond_true, Option.bind_some]
    obtain ⟨r, h5, h6⟩ := szDoubt_ok K xs[i] l h3 h4 (hy _ (List.getElem_mem hi))
    rw [h5, Option.bind_some]
    rcases h6 with h6 | ⟨h6, h7, h8⟩
    · rw [decide_eq_true h6]; exact .inl rfl
    · rw [decide_eq_false (show ¬ r < 0 by omega)]; exact .inr ⟨r, h6, h7, h8, rfl⟩
  · intro rec l
    simp only [laws_szDoubtS.l0.step, decNl]
    rfl

theorem szPlace_ok (K : Nat) (y : Place) (left : Int) (h0 : 0 ≤ left) (h1 : left ≤ 1048576) (hy : y.2.2.length ≤ 9223372036854775807) : Szd (laws_szPlace.f K (y, left, ())) left (y.2.2.length ≤ 1048576) := by
  refine Szd.iff (Szd.bind (szIntS_ok K y.2.2 left h0 h1 hy) (G := fun y1 => some ((y1.1.1, ()), ())) (Q := True) fun r h2 _ _ => Szd.ret r h2) fun h => h.1

theorem szPlaceS_ok (K : Nat) (xs : List Place) (left : Int) (h0 : 0 ≤ left) (h1 : left ≤ 1048576) (hx : xs.length ≤ 9223372036854775807) (hy : ∀ y ∈ xs, y.2.2.length ≤ 9223372036854775807) (hK : 1048577 < K) : Szd (laws_szPlaceS.f K (xs, left, ())) left (xs.length ≤ 1048576 ∧ ∀ y ∈ xs, y.2.2.length ≤ 1048576) := by
  refine Szd.sub left xs.length h0 h1 hx (g := laws_szPlaceS.l0 K (xs, left, ()) (wr .i64 (left - (List.length xs : Int)), 0)) fun e h2 => ?_
  rw [e]
  refine szd_loop xs (step := fun rec a => laws_szPlaceS.l0.step K (xs, left, ()) rec a) (fun y => y.2.2.length ≤ 1048576) (by omega) ?_ ?_ (by omega) (by omega) hK
  · intro rec i l hi h3 h4
    simp only [laws_szPlaceS.l0.step]
    rw [decide_eq_true (by omega : (i : Int) < (List.length xs : Int)), idx_get hi, wr_succ i (by omega)]
    simp only [cond_true, Option.bind_some]
    obtain ⟨r, h5, h6⟩ := szPlace_ok K xs[i] l h3 h4 (hy _ (List.getElem_mem hi))
    rw [h5, Option.bind_some]
    rcases h6 with h6 | ⟨h6, h7, h8⟩
    · rw [decide_eq_true h6]; exact .inl rfl
    · rw [decide_eq_false (show ¬ r < 0 by omega)]; exact .inr ⟨r, h6, h7, h8, rfl⟩
  · intro rec l
    simp only [laws_szPlaceS.l0.step, decNl]
    rfl

theorem szForeign_ok (K : Nat) (y : Foreign) (left : Int) (h0 : 0 ≤ left) (h1 : left ≤ 1048576) (hy : y.2.length ≤ 9223372036854775807) : Szd (laws_szForeign.f K (y, left, ())) left (y.2.length ≤ 1048576) := by
  refine Szd.iff (Szd.bind (szFactS_ok K y.2 left h0 h1 hy) (G := fun y1 => some ((y1.1.1, ()), ())) (Q := True) fun r h2 _ _ => Szd.ret r h2) fun h => h.1

theorem szForeignS_ok (K : Nat) (xs : List Foreign) (left : Int) (h0 : 0 ≤ left) (h1 : left ≤ 1048576) (hx : xs.length ≤ 9223372036854775807) (hy : ∀ y ∈ xs, y.2.length ≤ 9223372036854775807) (hK : 1048577 < K) : Szd (laws_szForeignS.f K (xs, left, ())) left (xs.length ≤ 1048576 ∧ ∀ y ∈ xs, y.2.length ≤ 1048576) := by
  refine Szd.sub left xs.length h0 h1 hx (g := laws_szForeignS.l0 K (xs, left, ()) (wr .i64 (left - (List.length xs : Int)), 0)) fun e h2 => ?_
  rw [e]
  refine szd_loop xs (step := fun rec a => laws_szForeignS.l0.step K (xs, left, ()) rec a) (fun y => y.2.length ≤ 1048576) (by omega) ?_ ?_ (by omega) (by omega) hK
  · intro rec i l hi h3 h4
    simp only [laws_szForeignS.l0.step]
    rw [decide_eq_true (by omega : (i : Int) < (List.length xs : Int)), idx_get hi, wr_succ i (by omega)]
    simp only [cond_true, Option.bind_some]
    obtain ⟨r, h5, h6⟩ := szForeign_ok K xs[i] l h3 h4 (hy _ (List.getElem_mem hi))
    rw [h5, Option.bind_some]
    rcases h6 with h6 | ⟨h6, h7, h8⟩
    · rw [decide_eq_true h6]; exact .inl rfl
    · rw [decide_eq_false (show ¬ r < 0 by omega)]; exact .inr ⟨r, h6, h7, h8, rfl⟩
  · intro rec l
    simp only [laws_szForeignS.l0.step, decNl]
    rfl

/-- How long a node's lists can be at all. -/
structure NM (n : Node) : Prop where
  table : (Node.table n).length ≤ 9223372036854775807
  cast : (Node.cast n).length ≤ 9223372036854775807
  doubts : (Node.doubts n).length ≤ 9223372036854775807
  by_ : ∀ d ∈ Node.doubts n, d.2.2.2.length ≤ 9223372036854775807
  places : (Node.places n).length ≤ 9223372036854775807
  trips : ∀ p ∈ Node.places n, p.2.2.length ≤ 9223372036854775807
  others : (Node.others n).length ≤ 9223372036854775807
  facts : ∀ x ∈ Node.others n, x.2.length ≤ 9223372036854775807

theorem szNode_ok (K : Nat) (n : Node) (hn : NM n) (left : Int) (h0 : 0 ≤ left) (h1 : left ≤ 1048576) (hK : 1048577 < K) : Szd (laws_szNode.f K (n, left, ())) left (NB n) := by
  refine Szd.iff (Szd.bind (szFactS_ok K (Node.table n) left h0 h1 hn.table) fun r1 a1 b1 _ => Szd.bind (szItemS_ok K (Node.cast n) r1 a1 (by omega) hn.cast) fun r2 a2 b2 _ => Szd.bind (szDoubtS_ok K (Node.doubts n) r2 a2 (by omega) hn.doubts hn.by_ hK) fun r3 a3 b3 _ =>
    Szd.bind (szPlaceS_ok K (Node.places n) r3 a3 (by omega) hn.places hn.trips hK) fun r4 a4 b4 _ => Szd.bind (szForeignS_ok K (Node.others n) r4 a4 (by omega) hn.others hn.facts hK) (G := fun y5 => some ((y5.1.1, ()), ())) fun r5 a5 _ _ => Szd.ret r5 a5) ?_
  rintro ⟨h1, h2, ⟨h3, h4⟩, ⟨h5, h6⟩, ⟨h7, h8⟩, _⟩
  exact ⟨h1, h2, h3, h4, h5, h6, h7, h8⟩

end Go.Proofs.YthgnfidnmnkeaaaGreatEv
