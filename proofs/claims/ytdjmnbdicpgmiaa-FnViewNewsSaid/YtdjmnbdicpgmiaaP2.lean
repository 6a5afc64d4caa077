/- The marks that a law writes into what was answered, and the look whether they still stand. -/
import Derived.Test.YtdjmnbdicpgmiaaP1
import Derived.Test.YtdjmnbdicpgmiaaE0
namespace Go.Proofs.YtdjmnbdicpgmiaaEv
open Go
end Go.Proofs.YtdjmnbdicpgmiaaEv
namespace Go.Proofs.YtdjmnbdicpgmiaaEv
open Go
end Go.Proofs.YtdjmnbdicpgmiaaEv
namespace Go.Proofs.YtdjmnbdicpgmiaaEv
open Go
theorem gather_loop {α β R : Type} (t : List α) (p : α → Bool) (g : α → β) (n : Nat) (fin : List β → Option R) {step : (List β × Int → Option R) → List β × Int → Option R}
    (h : ∀ (rec : List β × Int → Option R) (acc : List β) (i : Nat) (hi : i < t.length), acc.length ≤ i → acc.length < n → step rec (acc, (i : Int)) = rec (bif p t[i] then acc ++ [g t[i]] else acc, ((i + 1 : Nat) : Int)))
    (hn : ∀ (rec : List β × Int → Option R) (acc : List β) (i : Nat), i < t.length → acc.length ≤ i → n ≤ acc.length → step rec (acc, (i : Int)) = fin acc)
    (hend : ∀ (rec : List β × Int → Option R) (acc : List β), acc.length ≤ t.length → step rec (acc, (t.length : Int)) = fin acc) :
    ∀ (d i k : Nat) (acc : List β), i + d = t.length → d < k → acc.length ≤ i → acc.length ≤ n → iterate step k (acc, (i : Int)) = fin (acc ++ (((t.drop i).filter p).map g).take (n - acc.length)) := by
  intro d
  induction d with
  | zero =>
    intro i k acc hi hk ha _
    obtain ⟨k, rfl⟩ : ∃ k', k = k' + 1 := ⟨k - 1, by omega⟩
    have : i = t.length := by omega
    subst this
    show step (iterate step k) _ = _
    rw [hend _ _ ha]
    simp
  | succ d ih =>
    intro i k acc hi hk ha hle
    obtain ⟨k, rfl⟩ : ∃ k', k = k' + 1 := ⟨k - 1, by omega⟩
    have hlt : i < t.length := by omega
    show step (iterate step k) _ = _
    by_cases hc : acc.length < n
    · rw [h _ _ _ hlt ha hc, List.drop_eq_getElem_cons hlt, List.filter_cons]
      cases hp : p t[i] with
      | true =>
        simp only [cond_true, if_true, List.map_cons]
        rw [ih (i + 1) k _ (by omega) (by omega) (by simp; omega) (by simp; omega)]
        congr 1
        obtain ⟨m, hm⟩ : ∃ m, n - acc.length = m + 1 := ⟨n - acc.length - 1, by omega⟩
        rw [hm, List.take_succ_cons, List.append_assoc]
        simp only [List.length_append, List.length_cons, List.length_nil]
        rw [show n - (acc.length + (0 + 1)) = m by omega]
        rfl
      | false =>
        simp only [cond_false]
        rw [ih (i + 1) k _ (by omega) (by omega) (by omega) (by omega)]
        rfl
    · rw [hn _ _ _ hlt ha (by omega)]
      rw [show n - acc.length = 0 by omega]
      simp
theorem gather_all {α β R : Type} (t : List α) (p : α → Bool) (g : α → β) (fin : List β → Option R) {step : (List β × Int → Option R) → List β × Int → Option R}
    (h : ∀ (rec : List β × Int → Option R) (acc : List β) (i : Nat) (hi : i < t.length), acc.length ≤ i → step rec (acc, (i : Int)) = rec (bif p t[i] then acc ++ [g t[i]] else acc, ((i + 1 : Nat) : Int)))
    (hend : ∀ (rec : List β × Int → Option R) (acc : List β), acc.length ≤ t.length → step rec (acc, (t.length : Int)) = fin acc) {k : Nat} (hk : t.length < k) :
    iterate step k ([], 0) = fin ((t.filter p).map g) := by
  have := gather_loop t p g (t.length + 1) fin (fun rec acc i hi ha _ => h rec acc i hi ha) (fun rec acc i hi ha hn => by omega) hend t.length 0 k [] (by omega) hk (Nat.le_refl _) (by simp)
  refine this.trans ?_
  congr 1
  simp only [List.nil_append, List.length_nil, List.drop_zero]
  exact List.take_of_length_le (by have := List.length_filter_le p t; simp; omega)
theorem clone_ok {e : Ty} {b : Nat} {xs : List e.den} (h : xs.length * b ≤ 140737488355328) : cloneM e b xs = some ((xs, ()), ()) := by
  unfold cloneM
  rw [decide_eq_true (by simpa [sizeK] using h)]
  rfl
theorem app_ok {α β : Type} {xs ys : List α} {b : Nat} {x y : β} (h : (xs.length + ys.length) * b ≤ 140737488355328) : (bif decide ((List.length xs + List.length ys) * b ≤ sizeK) then x else y) = x := by
  rw [decide_eq_true (by simpa [sizeK] using h)]
  rfl
end Go.Proofs.YtdjmnbdicpgmiaaEv
namespace Go.Proofs.YtdjmnbdicpgmiaaEv
open Go
def wasOf (old : List Fact) (f : Fact) : Int := ((old.find? fun g => g.1 == f.1).map (·.2.2.1)).getD 0
def newB (old : List Fact) (f : Fact) : Bool := !decide (f ∈ old)
def newsOf (old now : List Fact) : List Item := (now.filter (newB old)).map fun f => (f, wasOf old f)
theorem wasOf_at {old : List Fact} (h : Asc (fun f : Fact => f.1) old) {g f : Fact} (hg : g ∈ old) (e : g.1 = f.1) : wasOf old f = g.2.2.1 := by
  unfold wasOf
  cases h1 : old.find? fun g => g.1 == f.1 with
  | none =>
    have := List.find?_eq_none.1 h1 g hg
    simp [e] at this
  | some y =>
    have h2 : y.1 = f.1 := by simpa using List.find?_some h1
    rw [uniq h (List.mem_of_find?_eq_some h1) hg (by rw [h2, e])]
    rfl
theorem wasOf_no {old : List Fact} {f : Fact} (h : ∀ g ∈ old, g.1 ≠ f.1) : wasOf old f = 0 := by
  unfold wasOf
  rw [show (old.find? fun g => g.1 == f.1) = none by rw [List.find?_eq_none]; intro g hg; simpa using h g hg]
  rfl
theorem contains_i (K : Nat) (t : List Fact) (f : Fact) (ht : t.length ≤ 1048576) (hK : 1048577 < K) : slices_Contains_impl_Fact_impl_Fact.f K (t, f, ()) = rb (decide (f ∈ t)) := by
  have := iter_first (step := fun rec a => slices_Index_impl_Fact_impl_Fact.l0.step K (t, f, ()) rec a) t.length (fun i => (i : Int)) (fun j => ∃ h : j < t.length, f = t[j]) (some ((-1, ()), ())) (fun j => some ((((j : Nat) : Int), ()), ())) ?_ ?_ t.length K 0 (by omega) (by omega)
  · simp only [slices_Contains_impl_Fact_impl_Fact.f, slices_Contains_impl_Fact_impl_Fact.pre]
    rcases this with ⟨h1, h2⟩ | ⟨j, _, h1, ⟨h3, h4⟩, _, h2⟩
    · have e : slices_Index_impl_Fact_impl_Fact.f K (t, f, ()) = some ((-1, ()), ()) := h2
      rw [e, decide_eq_false (fun hf => by
        obtain ⟨i, hi, e1⟩ := List.getElem_of_mem hf
        exact h1 i (Nat.zero_le _) hi ⟨hi, e1.symm⟩)]
      rfl
    · have e : slices_Index_impl_Fact_impl_Fact.f K (t, f, ()) = some ((((j : Nat) : Int), ()), ()) := h2
      rw [e, decide_eq_true (h4 ▸ List.getElem_mem h3 : f ∈ t)]
      simp only [Option.bind_some]
      rw [decide_eq_true (by omega : ((j : Nat) : Int) ≥ 0)]
  · intro rec i hi
    simp only [slices_Index_impl_Fact_impl_Fact.l0.step]
    rw [decLt (by omega : (i : Int) < (List.length t : Int)), idx_get hi, wr_succ i (by omega)]
    simp only [cond_true, Option.bind_some]
    rw [show Ty.eqv t2 f t[i] = decide (f = t[i]) from eqv_t2 f t[i]]
    by_cases h : f = t[i]
    · exact .inr ⟨⟨hi, h⟩, by rw [decide_eq_true h]; rfl⟩
    · exact .inl ⟨fun ⟨_, h'⟩ => h h', by rw [decide_eq_false h]; rfl⟩
  · intro rec
    simp only [slices_Index_impl_Fact_impl_Fact.l0.step, decNl]
    rfl
theorem news_loop_s (K : Nat) (old now : List Fact) (ho : old.length ≤ 1048576) (hn : now.length ≤ 1048576) (hT : TableP old) (hK : 1048577 < K) : spec_ViewNews.l0 K (old, now, ()) ([], 0) = some ((newsOf old now, ()), ()) := by
  refine gather_all (step := fun rec a => spec_ViewNews.l0.step K (old, now, ()) rec a) now (newB old) (fun f => ((f, wasOf old f) : Item)) (fun xs => some ((xs, ()), ())) ?_ ?_ (by omega)
  · intro rec acc i hi ha
    simp only [spec_ViewNews.l0.step]
    rw [decLt (by omega : (i : Int) < (List.length now : Int)), idx_get hi, wr_succ i (by omega)]
    simp only [cond_true, Option.bind_some]
    obtain ⟨o, hf, h1⟩ := find_s K old now[i].1 ho hK
    rw [h1]
    simp only [Option.bind_some]
    cases hf with
    | at_ j hj e =>
      simp only
      rw [decide_eq_false (by omega : ¬ ((j : Nat) : Int) < 0), idx_get hj]
      simp only [cond_false, Option.bind_some]
      rw [show Ty.eqv t2 old[j] now[i] = decide (old[j] = now[i]) from eqv_t2 _ _]
      by_cases h : old[j] = now[i]
      · rw [decide_eq_true h, show newB old now[i] = false by unfold newB; rw [decide_eq_true (h ▸ List.getElem_mem hj)]; rfl]
        rfl
      · rw [decide_eq_false h, show newB old now[i] = true by
          unfold newB
          rw [decide_eq_false (fun hm => h (uniq hT.2 (List.getElem_mem hj) hm e))]
          rfl]
        simp only [Bool.not_false, cond_true]
        rw [app_ok (by simp; omega), wasOf_at hT.2 (List.getElem_mem hj) e]
    | no h =>
      simp only
      rw [decide_eq_true (by omega : (-1 : Int) < 0), show newB old now[i] = true by
        unfold newB
        rw [decide_eq_false (fun hm => h _ hm rfl)]
        rfl]
      simp only [cond_true]
      rw [wasOf_no h]
      show (bif decide ((acc.length + 1) * 40 ≤ sizeK) then rec (acc ++ [((now[i], (0 : Int)) : Item)], ((i + 1 : Nat) : Int)) else none) = _
      rw [decide_eq_true (show (acc.length + 1) * 40 ≤ sizeK by simp only [sizeK]; omega)]
      rfl
  · intro rec acc _
    simp only [spec_ViewNews.l0.step, decNl]
    rfl
theorem news_loop_i (K : Nat) (old now : List Fact) (ho : old.length ≤ 1048576) (hn : now.length ≤ 1048576) (hT : TableP old) (hK : 1048577 < K) : impl_ViewNews.l0 K (old, now, ()) ([], 0) = some ((newsOf old now, ()), ()) := by
  refine gather_all (step := fun rec a => impl_ViewNews.l0.step K (old, now, ()) rec a) now (newB old) (fun f => ((f, wasOf old f) : Item)) (fun xs => some ((xs, ()), ())) ?_ ?_ (by omega)
  · intro rec acc i hi ha
    simp only [impl_ViewNews.l0.step]
    rw [decLt (by omega : (i : Int) < (List.length now : Int)), idx_get hi, wr_succ i (by omega)]
    simp only [cond_true, Option.bind_some]
    have hw : ∃ g : Fact, ∃ b, impl_TableOf.f K (old, now[i].1, ()) = some ((g, b, ()), ()) ∧ g.2.2.1 = wasOf old now[i] := by
      rcases tableOf_i K old now[i].1 ho hK with ⟨h, _⟩ | ⟨_, ⟨g, hg, e, h⟩ | ⟨h0, h⟩⟩
      · exact absurd hT h
      · exact ⟨g, _, h, (wasOf_at hT.2 hg e).symm⟩
      · exact ⟨_, _, h, (wasOf_no h0).symm⟩
    obtain ⟨g, b, h1, h2⟩ := hw
    rw [h1, contains_i K old now[i] ho hK]
    simp only [Option.bind_some, h2, newB]
    cases decide (now[i] ∈ old) with
    | true => rfl
    | false =>
      simp only [Bool.not_false, cond_true]
      rw [app_ok (by simp; omega)]
  · intro rec acc _
    simp only [impl_ViewNews.l0.step, decNl]
    rfl
end Go.Proofs.YtdjmnbdicpgmiaaEv
namespace Go.Proofs.YtdjmnbdicpgmiaaEv
open Go
def putL {α : Type} (k : α → Int) (x : α) (xs : List α) : List α := xs.filter (fun y => decide (k y < k x)) ++ x :: xs.filter (fun y => decide (k x < k y))
theorem filt_take {α : Type} {k : α → Int} {xs : List α} {v : Int} {m : Nat} (hm : m ≤ xs.length) (lo : ∀ i, (hi : i < xs.length) → i < m → k xs[i] < v) (hi : ∀ i, (h : i < xs.length) → m ≤ i → v ≤ k xs[i]) : xs.filter (fun y => decide (k y < v)) = xs.take m := by
  conv => lhs; rw [← List.take_append_drop m xs]
  rw [List.filter_append]
  have h1 : (xs.take m).filter (fun y => decide (k y < v)) = xs.take m := by
    rw [List.filter_eq_self]
    intro y hy
    obtain ⟨i, h1, rfl⟩ := List.getElem_of_mem hy
    rw [List.length_take] at h1
    rw [List.getElem_take]
    exact decide_eq_true (lo i (by omega) (by omega))
  have h2 : (xs.drop m).filter (fun y => decide (k y < v)) = [] := by
    rw [List.filter_eq_nil_iff]
    intro y hy
    obtain ⟨i, h1, rfl⟩ := List.getElem_of_mem hy
    rw [List.length_drop] at h1
    rw [List.getElem_drop]
    have := hi (m + i) (by omega) (by omega)
    simp only [decide_eq_true_eq]
    omega
  rw [h1, h2, List.append_nil]
theorem filt_drop {α : Type} {k : α → Int} {xs : List α} {v : Int} {m : Nat} (hm : m ≤ xs.length) (lo : ∀ i, (hi : i < xs.length) → i < m → k xs[i] ≤ v) (hi : ∀ i, (h : i < xs.length) → m ≤ i → v < k xs[i]) : xs.filter (fun y => decide (v < k y)) = xs.drop m := by
  conv => lhs; rw [← List.take_append_drop m xs]
  rw [List.filter_append]
  have h1 : (xs.take m).filter (fun y => decide (v < k y)) = [] := by
    rw [List.filter_eq_nil_iff]
    intro y hy
    obtain ⟨i, h1, rfl⟩ := List.getElem_of_mem hy
    rw [List.length_take] at h1
    rw [List.getElem_take]
    have := lo i (by omega) (by omega)
    simp only [decide_eq_true_eq]
    omega
  have h2 : (xs.drop m).filter (fun y => decide (v < k y)) = xs.drop m := by
    rw [List.filter_eq_self]
    intro y hy
    obtain ⟨i, h1, rfl⟩ := List.getElem_of_mem hy
    rw [List.length_drop] at h1
    rw [List.getElem_drop]
    exact decide_eq_true (hi (m + i) (by omega) (by omega))
  rw [h1, h2, List.nil_append]
theorem putL_set {α : Type} {k : α → Int} {xs : List α} {x : α} {m : Nat} (h : Asc k xs) (hm : m < xs.length) (e : k xs[m] = k x) : xs.set m x = putL k x xs := by
  have hg := asc_get.1 h
  have lt : ∀ i, (hi : i < xs.length) → i < m → k xs[i] < k x := fun i hi hlt => by rw [← e]; exact hg i m hi hm hlt
  have gt : ∀ i, (hi : i < xs.length) → m < i → k x < k xs[i] := fun i hi hlt => by rw [← e]; exact hg m i hm hi hlt
  rw [putL, filt_take (m := m) (by omega) lt (fun i hi hmi => by
      rcases Nat.lt_or_eq_of_le hmi with h1 | h1
      · exact Int.le_of_lt (gt i hi h1)
      · subst h1; omega),
    filt_drop (m := m + 1) (by omega) (fun i hi hmi => by
      rcases Nat.lt_or_eq_of_le (Nat.le_of_lt_succ hmi) with h1 | h1
      · exact Int.le_of_lt (lt i hi h1)
      · subst h1; omega) (fun i hi hmi => gt i hi hmi),
    List.set_eq_take_append_cons_drop, if_pos hm]
theorem putL_ins {α : Type} {k : α → Int} {xs : List α} {x : α} {m : Nat} (hm : m ≤ xs.length) (lo : ∀ i, (hi : i < xs.length) → i < m → k xs[i] < k x) (hi : ∀ i, (h : i < xs.length) → m ≤ i → k x < k xs[i]) : xs.take m ++ [x] ++ xs.drop m = putL k x xs := by
  rw [putL, filt_take hm lo (fun i h1 h2 => Int.le_of_lt (hi i h1 h2)), filt_drop hm (fun i h1 h2 => Int.le_of_lt (lo i h1 h2)) hi, List.append_assoc]
  rfl
theorem mem_putL {α : Type} {k : α → Int} {xs : List α} {x y : α} : y ∈ putL k x xs ↔ y = x ∨ (y ∈ xs ∧ k y ≠ k x) := by
  simp only [putL, List.mem_append, List.mem_cons, List.mem_filter, decide_eq_true_eq]
  constructor
  · rintro (⟨h1, h2⟩ | rfl | ⟨h1, h2⟩)
    · exact .inr ⟨h1, by omega⟩
    · exact .inl rfl
    · exact .inr ⟨h1, by omega⟩
  · rintro (rfl | ⟨h1, h2⟩)
    · exact .inr (.inl rfl)
    · rcases Int.lt_or_gt_of_ne h2 with h3 | h3
      · exact .inl ⟨h1, h3⟩
      · exact .inr (.inr ⟨h1, h3⟩)
theorem putL_asc {α : Type} {k : α → Int} {xs : List α} {x : α} (h : Asc k xs) : Asc k (putL k x xs) := by
  unfold Asc putL
  rw [List.pairwise_append, List.pairwise_cons]
  refine ⟨h.filter _, ⟨fun y hy => ?_, h.filter _⟩, fun y hy z hz => ?_⟩
  · simpa using (List.mem_filter.1 hy).2
  · have h1 : k y < k x := by simpa using (List.mem_filter.1 hy).2
    rcases List.mem_cons.1 hz with rfl | hz
    · exact h1
    · have h2 : k x < k z := by simpa using (List.mem_filter.1 hz).2
      omega
theorem putL_len {α : Type} {k : α → Int} {xs : List α} {x : α} : (putL k x xs).length ≤ xs.length + 1 := by
  have : ∀ l : List α, (l.filter (fun y => decide (k y < k x))).length + (l.filter (fun y => decide (k x < k y))).length ≤ l.length := by
    intro l
    induction l with
    | nil => simp
    | cons y l ih =>
      simp only [List.filter_cons, List.length_cons]
      by_cases h1 : k y < k x
      · rw [if_pos (decide_eq_true h1), if_neg (by simp; omega)]; simp only [List.length_cons]; omega
      · rw [if_neg (by simpa using h1)]
        split <;> (try simp only [List.length_cons]) <;> omega
  have := this xs
  simp only [putL, List.length_append, List.length_cons]
  omega
theorem find_asc {α : Type} {k : α → Int} {xs : List α} (h : Asc k xs) {i : Nat} (hi : i < xs.length) {v : Int} (e : k xs[i] = v) : xs.find? (fun y => k y == v) = some xs[i] := by
  cases h1 : xs.find? (fun y => k y == v) with
  | none =>
    have := List.find?_eq_none.1 h1 xs[i] (List.getElem_mem hi)
    simp [e] at this
  | some y =>
    have h2 : k y = v := by simpa using List.find?_some h1
    obtain ⟨j, hj, rfl⟩ := List.getElem_of_mem (List.mem_of_find?_eq_some h1)
    have := asc_uniq h hj hi (by rw [h2, e])
    subst this
    rfl
theorem find_no {α : Type} {k : α → Int} {xs : List α} {v : Int} (h : ∀ y ∈ xs, k y ≠ v) : xs.find? (fun y => k y == v) = none := by
  rw [List.find?_eq_none]
  intro y hy
  simpa using h y hy
end Go.Proofs.YtdjmnbdicpgmiaaEv
namespace Go.Proofs.YtdjmnbdicpgmiaaEv
open Go
end Go.Proofs.YtdjmnbdicpgmiaaEv
namespace Go.Proofs.YtdjmnbdicpgmiaaEv
open Go
end Go.Proofs.YtdjmnbdicpgmiaaEv
namespace Go.Proofs.YtdjmnbdicpgmiaaEv
open Go
theorem szb (a b c : Nat) (hc : c ≤ 64) (h : a + b ≤ 2097152) : decide ((a + b) * c ≤ sizeK) = true := by
  have := Nat.mul_le_mul h hc
  exact decide_eq_true (by unfold sizeK; omega)
end Go.Proofs.YtdjmnbdicpgmiaaEv
namespace Go.Proofs.YtdjmnbdicpgmiaaEv
open Go
instance (f g : Fact) : Decidable (Over f g) := by unfold Over; infer_instance
theorem over_b (K : Nat) (f g : Fact) : spec_l3Over.f K (f, g, ()) = rb (decide (Over f g)) := by
  obtain ⟨b, h1, h2⟩ := over_s K f g
  rw [h1, show b = decide (Over f g) by rw [Bool.eq_iff_iff, h2]; simp]
def putOf (t : List Fact) (f : Fact) : List Fact × Bool :=
  match t.find? (fun g => g.1 == f.1) with
  | some g => if Over f g then (putL (fun g => g.1) f t, true) else (t, false)
  | none => (putL (fun g => g.1) f t, true)
theorem putOf_at {t : List Fact} {f : Fact} (hA : Asc (fun g : Fact => g.1) t) {i : Nat} (hi : i < t.length) (e : t[i].1 = f.1) : putOf t f = if Over f t[i] then (putL (fun g => g.1) f t, true) else (t, false) := by
  unfold putOf
  rw [show t.find? (fun g => g.1 == f.1) = some t[i] from find_asc hA hi e]
theorem putOf_no {t : List Fact} {f : Fact} (h : ∀ g ∈ t, g.1 ≠ f.1) : putOf t f = (putL (fun g => g.1) f t, true) := by
  unfold putOf
  rw [show t.find? (fun g => g.1 == f.1) = none from find_no h]
theorem insert_ok {e : Ty} {b : Nat} {xs : List e.den} {m : Nat} {v : e.den} (hm : m ≤ xs.length) (hb : b ≤ 64) (hx : xs.length ≤ 1048576) : insertM e b xs (m : Int) [v] = some ((xs.take m ++ [v] ++ xs.drop m, ()), ()) := by
  unfold insertM
  have : (xs.length + [v].length) * b ≤ 140737488355328 := Nat.le_trans (Nat.mul_le_mul (show xs.length + [v].length ≤ 1048577 by simp; omega) hb) (by decide)
  rw [if_pos ⟨by omega, by omega, by simp, by simpa only [sizeK] using this⟩, Int.toNat_natCast]
theorem put_i (K : Nat) (t : List Fact) (f : Fact) (ht : t.length ≤ 1048576) (hA : Asc (fun g : Fact => g.1) t) (hK : 1048577 < K) : impl_put.f K (t, f, ()) = some (((putOf t f).1, (putOf t f).2, ()), ()) := by
  simp only [impl_put.f, impl_put.pre, m_slices_Clone_impl_Fact_impl_Fact.f, m_slices_Insert_impl_Fact_impl_Fact.f]
  rw [clone_ok (by omega)]
  simp only [Option.bind_some]
  obtain ⟨m, hm, h1⟩ := find_i K t f.1 ht hA hK
  rw [h1]
  simp only [Option.bind_some]
  by_cases he : ∃ h : m < t.length, t[m].1 = f.1
  · obtain ⟨h2, h3⟩ := he
    rw [decide_eq_true ⟨h2, h3⟩, putOf_at hA h2 h3]
    simp only [Bool.not_true, cond_false, idx_get h2, Option.bind_some, Int.toNat_natCast]
    rw [compare_i K f t[m] hK]
    simp only [Option.bind_some]
    by_cases ho : Over f t[m]
    · rw [decide_eq_true ((cmpF_over h3.symm).2 ho), if_pos ho, putL_set (k := fun g : Fact => g.1) hA h2 h3]
      rfl
    · rw [decide_eq_false (fun h => ho ((cmpF_over h3.symm).1 h)), if_neg ho]
      rfl
  · rw [decide_eq_false he, putOf_no (fun g hg e => by
      obtain ⟨i, hi, rfl⟩ := List.getElem_of_mem hg
      rcases Nat.lt_trichotomy i m with h | h | h
      · have := hm.lo i hi h; omega
      · subst h; exact he ⟨hi, e⟩
      · have h5 := hm.hi m (by omega) (Nat.le_refl _)
        have h6 := asc_get.1 hA m i (by omega) hi h
        omega)]
    simp only [Bool.not_false, cond_true]
    rw [insert_ok hm.le (by omega) ht]
    simp only [Option.bind_some]
    rw [putL_ins (k := fun g : Fact => g.1) hm.le hm.lo (fun i hi hmi => by
      have := hm.hi i hi hmi
      rcases Nat.lt_or_eq_of_le hmi with h6 | h6
      · have h5 := hm.hi m (by omega) (Nat.le_refl _)
        have h7 := asc_get.1 hA m i (by omega) hi h6
        omega
      · subst h6
        have : t[m].1 ≠ f.1 := fun e => he ⟨hi, e⟩
        omega)]
end Go.Proofs.YtdjmnbdicpgmiaaEv
namespace Go.Proofs.YtdjmnbdicpgmiaaEv
open Go
theorem len8 {α : Type} {k : α → Int} {xs : List α} (h : Asc k xs) (h7 : ∀ x ∈ xs, InP (k x) 0 7) : xs.length ≤ 8 := by
  have := (asc_sub (xs.map k) [0, 1, 2, 3, 4, 5, 6, 7] (by unfold Asc at h; rw [List.pairwise_map]; exact h) (by decide) (fun y hy => by
    obtain ⟨x, hx, rfl⟩ := List.mem_map.1 hy
    obtain ⟨h1, h2⟩ := h7 x hx
    simp only [List.mem_cons, List.not_mem_nil, or_false]
    omega)).1
  rw [List.length_map] at this
  exact this
theorem putOf_cases (t : List Fact) (f : Fact) : (putOf t f).1 = t ∨ (putOf t f).1 = putL (fun g => g.1) f t := by
  unfold putOf
  split
  · split
    · exact .inr rfl
    · exact .inl rfl
  · exact .inr rfl
theorem putOf_ok {t : List Fact} {f : Fact} (h : TableP t) (hf : FactP f) : TableP (putOf t f).1 := by
  rcases putOf_cases t f with e | e
  · rw [e]; exact h
  · rw [e]
    refine ⟨fun g hg => ?_, putL_asc h.2⟩
    rcases mem_putL.1 hg with rfl | ⟨h1, _⟩
    · exact hf
    · exact h.1 g h1
end Go.Proofs.YtdjmnbdicpgmiaaEv
