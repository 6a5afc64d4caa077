/- The marks that a law writes into what was answered, and the look whether they still stand. -/
import Derived.Test.YthgnfidnmnkeaaaGreatP1
import Derived.Test.YthgnfidnmnkeaaaGreatE0
namespace Go.Proofs.YthgnfidnmnkeaaaGreatEv
open Go
end Go.Proofs.YthgnfidnmnkeaaaGreatEv
namespace Go.Proofs.YthgnfidnmnkeaaaGreatEv
open Go
theorem nneg {a : Int} (h : 0 ≤ a) : decide (a < 0) = false := decide_eq_false (by omega)
end Go.Proofs.YthgnfidnmnkeaaaGreatEv
namespace Go.Proofs.YthgnfidnmnkeaaaGreatEv
open Go
theorem gather_loop {α β R : Type} (t : List α) (p : α → Bool) (g : α → β) (n : Nat) (fin : List β → Option R) {step : (List β × Int → Option R) → List β × Int → Option R}
    (h : ∀ (rec : List β × Int → Option R) (acc : List β) (i : Nat) (hi : i < t.length), acc.length ≤ i → acc.length < n → step rec (acc, (i : Int)) = rec (bif p t[i] then acc ++ [g t[i]] else acc, ((i + 1 : Nat) : Int)))
    (hn : ∀ (rec : List β × Int → Option R) (acc : List β) (i : Nat), i < t.length → acc.length ≤ i → n ≤ acc.length → step rec (acc, (i : Int)) = fin acc)
    (hend : ∀ (rec : List β × Int → Option R) (acc : List β), acc.length ≤ t.length → step rec (acc, (t.length : Int)) = fin acc) :
    ∀ (d i k : Nat) (acc : List β), i + d = t.length → d < k → acc.length ≤ i → acc.length ≤ n → iterate step k (acc, (i : Int)) = fin (acc ++ (((t.drop i).filter p).map g).take (n - acc.length)) := by
  intro d
  induction d with
  | zero =>
    intro i k acc hi hk ha _
    obtain ⟨k, rfl⟩ : ∃ k', k = k' + 1 := ⟨k - 1, by omega⟩
    have : i = t.length := by omega
    subst this
    show step (iterate step k) _ = _
    rw [hend _ _ ha]
    simp
  | succ d ih =>
    intro i k acc hi hk ha hle
    obtain ⟨k, rfl⟩ : ∃ k', k = k' + 1 := ⟨k - 1, by omega⟩
    have hlt : i < t.length := by omega
    show step (iterate step k) _ = _
    by_cases hc : acc.length < n
    · rw [h _ _ _ hlt ha hc, List.drop_eq_getElem_cons hlt, List.filter_cons]
      cases hp : p t[i] with
      | true =>
        simp only [cond_true, if_true, List.map_cons]
        rw [ih (i + 1) k _ (by omega) (by omega) (by simp; omega) (by simp; omega)]
        congr 1
        obtain ⟨m, hm⟩ : ∃ m, n - acc.length = m + 1 := ⟨n - acc.length - 1, by omega⟩
        rw [hm, List.take_succ_cons, List.append_assoc]
        simp only [List.length_append, List.length_cons, List.length_nil]
        rw [show n - (acc.length + (0 + 1)) = m by omega]
        rfl
      | false =>
        simp only [cond_false]
        rw [ih (i + 1) k _ (by omega) (by omega) (by omega) (by omega)]
        rfl
    · rw [hn _ _ _ hlt ha (by omega)]
      rw [show n - acc.length = 0 by omega]
      simp
theorem gather_all {α β R : Type} (t : List α) (p : α → Bool) (g : α → β) (fin : List β → Option R) {step : (List β × Int → Option R) → List β × Int → Option R}
    (h : ∀ (rec : List β × Int → Option R) (acc : List β) (i : Nat) (hi : i < t.length), acc.length ≤ i → step rec (acc, (i : Int)) = rec (bif p t[i] then acc ++ [g t[i]] else acc, ((i + 1 : Nat) : Int)))
    (hend : ∀ (rec : List β × Int → Option R) (acc : List β), acc.length ≤ t.length → step rec (acc, (t.length : Int)) = fin acc) {k : Nat} (hk : t.length < k) :
    iterate step k ([], 0) = fin ((t.filter p).map g) := by
  have := gather_loop t p g (t.length + 1) fin (fun rec acc i hi ha _ => h rec acc i hi ha) (fun rec acc i hi ha hn => by omega) hend t.length 0 k [] (by omega) hk (Nat.le_refl _) (by simp)
  refine this.trans ?_
  congr 1
  simp only [List.nil_append, List.length_nil, List.drop_zero]
  exact List.take_of_length_le (by have := List.length_filter_le p t; simp; omega)
theorem clone_ok {e : Ty} {b : Nat} {xs : List e.den} (h : xs.length * b ≤ 140737488355328) : cloneM e b xs = some ((xs, ()), ()) := by
  unfold cloneM
  rw [decide_eq_true (by simpa [sizeK] using h)]
  rfl
theorem app_ok {α β : Type} {xs ys : List α} {b : Nat} {x y : β} (h : (xs.length + ys.length) * b ≤ 140737488355328) : (bif decide ((List.length xs + List.length ys) * b ≤ sizeK) then x else y) = x := by
  rw [decide_eq_true (by simpa [sizeK] using h)]
  rfl
theorem nodes_i (K : Nat) (t : List Fact) (φ : Fact × Unit → Option Bool) (p : Fact → Bool) (ht : t.length ≤ 1048576) (hK : 1048577 < K) (hφ : ∀ f ∈ t, φ (f, ()) = some (p f)) :
    impl_nodes.f K (t, φ, ()) = some (((t.filter p).map (·.1), ()), ()) := by
  refine gather_all (step := fun rec a => impl_nodes.l0.step K (t, φ, ()) rec a) t p (fun f => f.1) (fun xs => some ((xs, ()), ())) ?_ ?_ (by omega)
  · intro rec acc i hi ha
    simp only [impl_nodes.l0.step]
    rw [decLt (by omega : (i : Int) < (List.length t : Int)), idx_get hi, wr_succ i (by omega)]
    simp only [cond_true, Option.bind_some]
    rw [hφ _ (List.getElem_mem hi)]
    simp only [Option.bind_some]
    cases p t[i] with
    | true => simp only [cond_true]; rw [app_ok (by simp; omega)]
    | false => rfl
  · intro rec acc _
    simp only [impl_nodes.l0.step, decNl]
    rfl
end Go.Proofs.YthgnfidnmnkeaaaGreatEv
namespace Go.Proofs.YthgnfidnmnkeaaaGreatEv
open Go
def insR {α : Type} (lt : α → α → Bool) (x : α) : List α → List α → List α
  | [], B => x :: B
  | y :: A, B => bif lt x y then insR lt x A (y :: B) else (y :: A).reverse ++ x :: B
def sortR {α : Type} (lt : α → α → Bool) : List α → List α → List α
  | done, [] => done
  | done, x :: xs => sortR lt (insR lt x done.reverse []) xs
theorem insR_app {α : Type} (lt : α → α → Bool) (x : α) : ∀ (A B C : List α), insR lt x A (B ++ C) = insR lt x A B ++ C
  | [], B, C => rfl
  | y :: A, B, C => by
    simp only [insR]
    cases lt x y with
    | true => exact insR_app lt x A (y :: B) C
    | false => simp
theorem insR_len {α : Type} (lt : α → α → Bool) (x : α) : ∀ (A B : List α), (insR lt x A B).length = A.length + B.length + 1
  | [], B => by simp [insR]
  | y :: A, B => by
    simp only [insR]
    cases lt x y with
    | true => simp only [cond_true]; rw [insR_len lt x A (y :: B)]; simp; omega
    | false => simp; omega
theorem insR_perm {α : Type} (lt : α → α → Bool) (x : α) : ∀ (A B : List α), (insR lt x A B).Perm (x :: (A.reverse ++ B))
  | [], B => by simp [insR]
  | y :: A, B => by
    simp only [insR]
    cases lt x y with
    | true => exact (insR_perm lt x A (y :: B)).trans (by simp)
    | false => simp only [cond_false]; exact List.perm_middle
theorem sortR_perm {α : Type} (lt : α → α → Bool) : ∀ (xs done : List α), (sortR lt done xs).Perm (done ++ xs)
  | [], done => by simp [sortR]
  | x :: xs, done => by
    simp only [sortR]
    refine (sortR_perm lt xs _).trans ?_
    have := insR_perm lt x done.reverse []
    simp only [List.reverse_reverse, List.append_nil] at this
    exact (this.append_right xs).trans (by simpa using (List.perm_middle (a := x) (l₁ := done) (l₂ := xs)).symm)
def NoLt {α : Type} (lt : α → α → Bool) (xs : List α) : Prop := xs.Pairwise fun a b => lt b a = false
theorem insR_filter {α : Type} (lt : α → α → Bool) (ht : ∀ a b c, lt a b = false → lt b c = false → lt a c = false) (x : α) :
    ∀ (A B : List α), NoLt lt A.reverse → insR lt x A B = (A.reverse.filter fun y => !lt x y) ++ x :: ((A.reverse.filter fun y => lt x y) ++ B)
  | [], B, _ => rfl
  | y :: A, B, h => by
    simp only [insR]
    have hA : NoLt lt A.reverse := by
      unfold NoLt at h ⊢
      rw [List.reverse_cons, List.pairwise_append] at h
      exact h.1
    cases hl : lt x y with
    | true =>
      simp only [cond_true]
      rw [insR_filter lt ht x A (y :: B) hA]
      simp [hl, List.filter_append]
    | false =>
      have hy : ∀ a ∈ A.reverse, lt x a = false := fun a ha => by
        unfold NoLt at h
        rw [List.reverse_cons, List.pairwise_append] at h
        exact ht x y a hl (h.2.2 a ha y (by simp))
      simp only [cond_false]
      have e1 : (y :: A).reverse.filter (fun y => !lt x y) = (y :: A).reverse := List.filter_eq_self.2 fun a ha => by
        rw [List.reverse_cons, List.mem_append, List.mem_singleton] at ha
        rcases ha with ha | rfl
        · rw [hy a ha]; rfl
        · rw [hl]; rfl
      have e2 : (y :: A).reverse.filter (fun y => lt x y) = [] := List.filter_eq_nil_iff.2 fun a ha => by
        rw [List.reverse_cons, List.mem_append, List.mem_singleton] at ha
        rcases ha with ha | rfl
        · rw [hy a ha]; simp
        · rw [hl]; simp
      rw [e1, e2]
      rfl
theorem ins_sorted {α : Type} (lt : α → α → Bool) (ht : ∀ a b c, lt a b = false → lt b c = false → lt a c = false) (has : ∀ a b, lt a b = true → lt b a = false) (x : α) (A : List α) (h : NoLt lt A) : NoLt lt (insR lt x A.reverse []) := by
  rw [insR_filter lt ht x A.reverse [] (by rwa [List.reverse_reverse])]
  unfold NoLt at h ⊢
  simp only [List.reverse_reverse, List.append_nil]
  rw [List.pairwise_append]
  refine ⟨h.filter _, ?_, ?_⟩
  · rw [List.pairwise_cons]
    refine ⟨fun a ha => ?_, h.filter _⟩
    exact has _ _ (by simpa using (List.mem_filter.1 ha).2)
  · intro a ha b hb
    have h1 : lt x a = false := by simpa using (List.mem_filter.1 ha).2
    rcases List.mem_cons.1 hb with rfl | hb
    · exact h1
    · have h2 : lt x b = true := by simpa using (List.mem_filter.1 hb).2
      exact ht b x a (has _ _ h2) h1
theorem sortR_sorted {α : Type} (lt : α → α → Bool) (ht : ∀ a b c, lt a b = false → lt b c = false → lt a c = false) (has : ∀ a b, lt a b = true → lt b a = false) : ∀ (xs done : List α), NoLt lt done → NoLt lt (sortR lt done xs)
  | [], done, h => h
  | x :: xs, done, h => sortR_sorted lt ht has xs _ (ins_sorted lt ht has x done h)
theorem sorted_uniq {α : Type} (lt : α → α → Bool) : ∀ {ys zs : List α}, ys.Perm zs → NoLt lt ys → zs.Pairwise (fun a b => lt a b = true) → ys = zs
  | ys, [], hp, _, _ => hp.eq_nil
  | [], z :: zs, hp, _, _ => absurd hp.symm.eq_nil (by simp)
  | y :: ys, z :: zs, hp, h1, h2 => by
    unfold NoLt at h1
    rw [List.pairwise_cons] at h1 h2
    have e : y = z := by
      rcases List.mem_cons.1 (hp.mem_iff.1 (List.mem_cons_self ..)) with h | h
      · exact h
      · have h3 := h2.1 y h
        rcases List.mem_cons.1 (hp.symm.mem_iff.1 (List.mem_cons_self ..)) with h4 | h4
        · exact h4.symm
        · rw [h1.1 z h4] at h3; cases h3
    subst e
    rw [sorted_uniq lt hp.cons_inv h1.2 h2.2]
abbrev SoR (α : Type) := Unit × (List α × Unit)
theorem ins_rounds {α R : Type} (lt : α → α → Bool) (i : Int) (fin : List α × Int → Option R) {step : (List α × Int × Int → Option R) → List α × Int × Int → Option R}
    (h : ∀ (rec : List α × Int × Int → Option R) (A : List α) (y x : α) (B : List α), A.length + B.length ≤ 1048576 → step rec (A ++ y :: x :: B, i, ((A.length + 1 : Nat) : Int)) = bif lt x y then rec (A ++ x :: y :: B, i, (A.length : Int)) else fin (A ++ y :: x :: B, wr .i64 (i + 1)))
    (h0 : ∀ (rec : List α × Int × Int → Option R) (ys : List α), step rec (ys, i, 0) = fin (ys, wr .i64 (i + 1))) :
    ∀ (A B : List α) (x : α) (k : Nat), A.length + B.length ≤ 1048576 → A.length < k → iterate step k (A.reverse ++ x :: B, i, (A.length : Int)) = fin (insR lt x A B, wr .i64 (i + 1)) := by
  intro A
  induction A with
  | nil =>
    intro B x k hl hk
    obtain ⟨k, rfl⟩ : ∃ k', k = k' + 1 := ⟨k - 1, by simp at hk; omega⟩
    exact h0 (iterate step k) (x :: B)
  | cons y A ih =>
    intro B x k hl hk
    simp only [List.length_cons] at hk hl
    obtain ⟨k, rfl⟩ : ∃ k', k = k' + 1 := ⟨k - 1, by omega⟩
    have h1 := h (iterate step k) A.reverse y x B (by simp; omega)
    simp only [List.length_reverse] at h1
    show step (iterate step k) _ = _
    rw [List.reverse_cons, List.append_assoc]
    simp only [List.length_cons, List.cons_append, List.nil_append, insR]
    rw [h1]
    cases lt x y with
    | true => exact ih (y :: B) x k (by simp; omega) (by omega)
    | false => simp
theorem sort_rounds {α : Type} (lt : α → α → Bool) {step : (List α × Int → Option (SoR α)) → List α × Int → Option (SoR α)} (n : Nat) (hn : n ≤ 1048576)
    (h : ∀ (rec : List α × Int → Option (SoR α)) (done : List α) (x : α) (xs : List α), done.length + 1 + xs.length = n → step rec (done ++ x :: xs, (done.length : Int)) = rec (insR lt x done.reverse xs, wr .i64 ((done.length : Int) + 1)))
    (h0 : ∀ (rec : List α × Int → Option (SoR α)) (ys : List α) (i : Int), (n : Int) ≤ i → step rec (ys, i) = some ((), (ys, ()))) :
    ∀ (xs done : List α) (k : Nat), done.length + xs.length = n → xs.length < k → iterate step k (done ++ xs, (done.length : Int)) = some ((), (sortR lt done xs, ())) := by
  intro xs
  induction xs with
  | nil =>
    intro done k hl hk
    obtain ⟨k, rfl⟩ : ∃ k', k = k' + 1 := ⟨k - 1, by omega⟩
    show step (iterate step k) _ = _
    rw [h0 _ _ _ (by simp at hl; omega)]
    simp [sortR]
  | cons x xs ih =>
    intro done k hl hk
    simp only [List.length_cons] at hk hl
    obtain ⟨k, rfl⟩ : ∃ k', k = k' + 1 := ⟨k - 1, by omega⟩
    show step (iterate step k) _ = _
    rw [h _ _ _ _ (by omega), wr_succ _ (by omega)]
    have e : insR lt x done.reverse xs = insR lt x done.reverse [] ++ xs := insR_app lt x done.reverse [] xs
    have e2 : (insR lt x done.reverse []).length = done.length + 1 := by rw [insR_len]; simp
    rw [e, ← e2]
    exact ih _ k (by rw [e2]; omega) (by omega)
theorem sort_all {α : Type} (lt : α → α → Bool) {step : (List α × Int → Option (SoR α)) → List α × Int → Option (SoR α)} (xs : List α) (hn : xs.length ≤ 1048576)
    (h : ∀ (rec : List α × Int → Option (SoR α)) (done : List α) (x : α) (r : List α), done.length + 1 + r.length = xs.length → step rec (done ++ x :: r, (done.length : Int)) = rec (insR lt x done.reverse r, wr .i64 ((done.length : Int) + 1)))
    (h0 : ∀ (rec : List α × Int → Option (SoR α)) (ys : List α) (i : Int), (xs.length : Int) ≤ i → step rec (ys, i) = some ((), (ys, ()))) {k : Nat} (hk : xs.length < k) :
    iterate step k (xs, 1) = some ((), (sortR lt [] xs, ())) := by
  cases xs with
  | nil =>
    obtain ⟨k, rfl⟩ : ∃ k', k = k' + 1 := ⟨k - 1, by simp at hk; omega⟩
    exact h0 (iterate step k) [] 1 (by simp)
  | cons x xs =>
    simp only [List.length_cons] at hk
    have := sort_rounds lt (xs.length + 1) (by simpa using hn) h h0 xs [x] k (by simp; omega) (by omega)
    exact this
theorem idx_mid {α : Type} (A B : List α) (x : α) : idx (A ++ x :: B) (A.length : Int) = some x := by
  rw [idx_nat]; simp
theorem idx_mid1 {α : Type} (A B : List α) (y x : α) : idx (A ++ y :: x :: B) ((A.length + 1 : Nat) : Int) = some x := by
  rw [idx_nat]; simp [List.getElem?_append_right]
theorem set_mid {α : Type} (A B : List α) (x v : α) : (A ++ x :: B).set A.length v = A ++ v :: B := by simp
theorem set_mid1 {α : Type} (A B : List α) (y x v : α) : (A ++ y :: x :: B).set (A.length + 1) v = A ++ y :: v :: B := by
  simp [List.set_append_right]
end Go.Proofs.YthgnfidnmnkeaaaGreatEv
namespace Go.Proofs.YthgnfidnmnkeaaaGreatEv
open Go
theorem isortFact (K : Nat) (xs : List Fact) (φ : Fact × Fact × Unit → Option Int) (lt : Fact → Fact → Bool) (hφ : ∀ y z, ∃ c, φ (y, z, ()) = some c ∧ decide (c < 0) = lt y z) (hx : xs.length ≤ 1048576) (hK : 1048577 < K) :
    slices_insertionSortCmpFunc_impl_Fact.f K (xs, 0, (xs.length : Int), φ, ()) = some ((), (sortR lt [] xs, ())) := by
  refine sort_all (step := fun rec a => slices_insertionSortCmpFunc_impl_Fact.l0.step K (xs, 0, (xs.length : Int), φ, ()) (slices_insertionSortCmpFunc_impl_Fact.l1 K (xs, 0, (xs.length : Int), φ, ()) rec) rec a) lt xs hx ?_ ?_ (by omega)
  · intro rec done x r hl
    simp only [slices_insertionSortCmpFunc_impl_Fact.l0.step]
    rw [decide_eq_true (by omega : ((done.length : Int)) < (xs.length : Int))]
    simp only [cond_true]
    have := ins_rounds lt (done.length : Int) rec (step := fun rec1 a => slices_insertionSortCmpFunc_impl_Fact.l1.step K (xs, 0, (xs.length : Int), φ, ()) rec rec1 a) ?_ ?_ done.reverse r x K (by simp; omega) (by simp; omega)
    · rw [List.reverse_reverse, List.length_reverse] at this
      exact this
    · intro rec1 A y z B hl2
      simp only [slices_insertionSortCmpFunc_impl_Fact.l1.step]
      have e1 : wr .i64 (((A.length + 1 : Nat) : Int) - 1) = (A.length : Int) := (wr64 (by omega) (by omega)).trans (by omega)
      rw [decide_eq_true (by omega : ((A.length + 1 : Nat) : Int) > 0)]
      obtain ⟨c, hc, hd⟩ := hφ z y
      simp only [cond_true, e1, Int.toNat_natCast, idx_mid1, idx_mid, Option.bind_some, hc, hd, set_mid1, set_mid]
    · intro rec1 ys
      simp only [slices_insertionSortCmpFunc_impl_Fact.l1.step]
      rw [decide_eq_false (by omega : ¬ (0 : Int) > 0)]
      rfl
  · intro rec ys i hi
    simp only [slices_insertionSortCmpFunc_impl_Fact.l0.step]
    rw [decide_eq_false (by omega : ¬ i < (xs.length : Int))]
    rfl
theorem sortFact (K : Nat) (xs : List Fact) (φ : Fact × Fact × Unit → Option Int) (lt : Fact → Fact → Bool) (hφ : ∀ y z, ∃ c, φ (y, z, ()) = some c ∧ decide (c < 0) = lt y z) (hx : xs.length ≤ 12) (hK : 1048577 < K) :
    slices_SortFunc_impl_Fact_impl_Fact.f K (xs, φ, ()) = some ((), (sortR lt [] xs, ())) := by
  simp only [slices_SortFunc_impl_Fact_impl_Fact.f, slices_SortFunc_impl_Fact_impl_Fact.pre, math_bits_Len.f, math_bits_Len.pre]
  obtain ⟨l, hl⟩ : ∃ l : Int, math_bits_Len64.f K (wr .u64 (xs.length : Int), ()) = some ((l, ()), ()) := by
    have e : wr .u64 (xs.length : Int) = (xs.length : Int) := by
      show IntKind.u64.wrap _ = _
      have hw : IntKind.u64.wrap (xs.length : Int) = (xs.length : Int) % 18446744073709551616 := by simp [IntKind.wrap, IntKind.bits, IntKind.signed]
      rw [hw]; omega
    rw [e]
    generalize hn : xs.length = n at hx
    have : n = 0 ∨ n = 1 ∨ n = 2 ∨ n = 3 ∨ n = 4 ∨ n = 5 ∨ n = 6 ∨ n = 7 ∨ n = 8 ∨ n = 9 ∨ n = 10 ∨ n = 11 ∨ n = 12 := by omega
    rcases this with rfl | rfl | rfl | rfl | rfl | rfl | rfl | rfl | rfl | rfl | rfl | rfl | rfl
    · exact ⟨0, by kernel_rfl⟩
    · exact ⟨1, by kernel_rfl⟩
    · exact ⟨2, by kernel_rfl⟩
    · exact ⟨2, by kernel_rfl⟩
    · exact ⟨3, by kernel_rfl⟩
    · exact ⟨3, by kernel_rfl⟩
    · exact ⟨3, by kernel_rfl⟩
    · exact ⟨3, by kernel_rfl⟩
    · exact ⟨4, by kernel_rfl⟩
    · exact ⟨4, by kernel_rfl⟩
    · exact ⟨4, by kernel_rfl⟩
    · exact ⟨4, by kernel_rfl⟩
    · exact ⟨4, by kernel_rfl⟩
  rw [hl]
  simp only [Option.bind_some]
  have : slices_pdqsortCmpFunc_impl_Fact.f K (xs, 0, (xs.length : Int), l, φ, ()) = some ((), (sortR lt [] xs, ())) := by
    obtain ⟨k, rfl⟩ : ∃ k', K = k' + 1 := ⟨K - 1, by omega⟩
    have hs : ∀ (rec : slices_pdqsortCmpFunc_impl_Fact.A_l0 → Option slices_pdqsortCmpFunc_impl_Fact.Res) (a : slices_pdqsortCmpFunc_impl_Fact.A_l0), slices_pdqsortCmpFunc_impl_Fact.l0.step (k + 1) (xs, 0, (xs.length : Int), l, φ, ()) rec a = some ((), (sortR lt [] xs, ())) := by
      intro rec a
      simp only [slices_pdqsortCmpFunc_impl_Fact.l0.step]
      have e : wr .i64 ((xs.length : Int) - 0) = (xs.length : Int) := (wr64 (by omega) (by omega)).trans (by omega)
      rw [e, decide_eq_true (by omega : (xs.length : Int) ≤ 12)]
      simp only [cond_true]
      rw [isortFact (k + 1) xs φ lt hφ (by omega) hK]
      rfl
    exact hs (fun _ => none) ()
  rw [this]
  rfl
end Go.Proofs.YthgnfidnmnkeaaaGreatEv
namespace Go.Proofs.YthgnfidnmnkeaaaGreatEv
open Go
abbrev Flight := Int × ByteArray × Bool
abbrev World' := List Node × List Flight × List Int × List Fact
abbrev World'.nodes (w : World') : List Node := w.1
abbrev World'.radio (w : World') : List Flight := w.2.1
abbrev World'.sides (w : World') : List Int := w.2.2.1
abbrev World'.born (w : World') : List Fact := w.2.2.2
structure WM (w : World') : Prop where
  nodes : (World'.nodes w).length ≤ 9223372036854775807
  node : ∀ n ∈ World'.nodes w, NM n
  radio : (World'.radio w).length ≤ 9223372036854775807
  text : ∀ f ∈ World'.radio w, f.2.1.size ≤ 9223372036854775807
  sides : (World'.sides w).length ≤ 9223372036854775807
  born : (World'.born w).length ≤ 9223372036854775807
structure WB (w : World') : Prop where
  nodes : (World'.nodes w).length ≤ 1048576
  node : ∀ n ∈ World'.nodes w, NB n
  radio : (World'.radio w).length ≤ 1048576
  text : ∀ f ∈ World'.radio w, f.2.1.size ≤ 1048576
  sides : (World'.sides w).length ≤ 1048576
  born : (World'.born w).length ≤ 1048576
theorem szNodeS_ok (K : Nat) (xs : List Node) (left : Int) (h0 : 0 ≤ left) (h1 : left ≤ 1048576) (hx : xs.length ≤ 9223372036854775807) (hy : ∀ y ∈ xs, NM y) (hK : 1048577 < K) : Szd (laws_szNodeS.f K (xs, left, ())) left (xs.length ≤ 1048576 ∧ ∀ y ∈ xs, NB y) := by
  refine Szd.sub left xs.length h0 h1 hx (g := laws_szNodeS.l0 K (xs, left, ()) (wr .i64 (left - (List.length xs : Int)), 0)) fun e h2 => ?_
  rw [e]
  refine szd_loop xs (step := fun rec a => laws_szNodeS.l0.step K (xs, left, ()) rec a) (fun y => NB y) (by omega) ?_ ?_ (by omega) (by omega) hK
  · intro rec i l hi h3 h4
    simp only [laws_szNodeS.l0.step]
    rw [decide_eq_true (by omega : (i : Int) < (List.length xs : Int)), idx_get hi, wr_succ i (by omega)]
    simp only [cond_true, Option.bind_some]
    obtain ⟨r, h5, h6⟩ := szNode_ok K xs[i] (hy _ (List.getElem_mem hi)) l h3 h4 hK
    rw [h5, Option.bind_some]
    rcases h6 with h6 | ⟨h6, h7, h8⟩
    · rw [decide_eq_true h6]; exact .inl rfl
    · rw [decide_eq_false (show ¬ r < 0 by omega)]; exact .inr ⟨r, h6, h7, h8, rfl⟩
  · intro rec l
    simp only [laws_szNodeS.l0.step, decNl]
    rfl
theorem szFlight_ok (K : Nat) (y : Flight) (left : Int) (h0 : 0 ≤ left) (h1 : left ≤ 1048576) (hy : y.2.1.size ≤ 9223372036854775807) : Szd (laws_szFlight.f K (y, left, ())) left (y.2.1.size ≤ 1048576) := by
  refine (Szd.sub left y.2.1.size h0 h1 hy (g := some ((wr .i64 (left - (y.2.1.size : Int)), ()), ())) (Q := True) fun e h2 => ?_).iff fun h => h.1
  rw [e]
  exact Szd.ret _ (by omega)
theorem szFlightS_ok (K : Nat) (xs : List Flight) (left : Int) (h0 : 0 ≤ left) (h1 : left ≤ 1048576) (hx : xs.length ≤ 9223372036854775807) (hy : ∀ y ∈ xs, y.2.1.size ≤ 9223372036854775807) (hK : 1048577 < K) : Szd (laws_szFlightS.f K (xs, left, ())) left (xs.length ≤ 1048576 ∧ ∀ y ∈ xs, y.2.1.size ≤ 1048576) := by
  refine Szd.sub left xs.length h0 h1 hx (g := laws_szFlightS.l0 K (xs, left, ()) (wr .i64 (left - (List.length xs : Int)), 0)) fun e h2 => ?_
  rw [e]
  refine szd_loop xs (step := fun rec a => laws_szFlightS.l0.step K (xs, left, ()) rec a) (fun y => y.2.1.size ≤ 1048576) (by omega) ?_ ?_ (by omega) (by omega) hK
  · intro rec i l hi h3 h4
    simp only [laws_szFlightS.l0.step]
    rw [decide_eq_true (by omega : (i : Int) < (List.length xs : Int)), idx_get hi, wr_succ i (by omega)]
    simp only [cond_true, Option.bind_some]
    obtain ⟨r, h5, h6⟩ := szFlight_ok K xs[i] l h3 h4 (hy _ (List.getElem_mem hi))
    rw [h5, Option.bind_some]
    rcases h6 with h6 | ⟨h6, h7, h8⟩
    · rw [decide_eq_true h6]; exact .inl rfl
    · rw [decide_eq_false (show ¬ r < 0 by omega)]; exact .inr ⟨r, h6, h7, h8, rfl⟩
  · intro rec l
    simp only [laws_szFlightS.l0.step, decNl]
    rfl
theorem szWorld_ok (K : Nat) (w : World') (hw : WM w) (left : Int) (h0 : 0 ≤ left) (h1 : left ≤ 1048576) (hK : 1048577 < K) : Szd (laws_szWorld.f K (w, left, ())) left (WB w) := by
  refine Szd.iff (Szd.bind (szNodeS_ok K (World'.nodes w) left h0 h1 hw.nodes hw.node hK) fun r1 a1 b1 _ => Szd.bind (szFlightS_ok K (World'.radio w) r1 a1 (by omega) hw.radio hw.text hK) fun r2 a2 b2 _ => Szd.bind (szIntS_ok K (World'.sides w) r2 a2 (by omega) hw.sides) fun r3 a3 b3 _ =>
    Szd.bind (szFactS_ok K (World'.born w) r3 a3 (by omega) hw.born) (G := fun y5 => some ((y5.1.1, ()), ())) fun r5 a5 _ _ => Szd.ret r5 a5) ?_
  rintro ⟨⟨h1, h2⟩, ⟨h3, h4⟩, h5, h6, _⟩
  exact ⟨h1, h2, h3, h4, h5, h6⟩
theorem toNodeS_ok (K : Nat) (xs : List Node) (hx : xs.length ≤ 1048576) (hb : ∀ y ∈ xs, NB y) (hK : 1048577 < K) : laws_toNodeS.f K (xs, ()) = some ((xs, ()), ()) := by
  have hl : laws_toNodeS.l0 K (xs, ()) (List.replicate xs.length (0, (false, (false, (false, (0, (0, (0, (0, ([], ([], ((0, (0, (0, false))), ([], ((0, (0, (0, 0))), ([], [])))))))))))))), 0) = some ((xs, ()), ()) := by
    refine to_loop (step := fun rec a => laws_toNodeS.l0.step K (xs, ()) rec a) xs _ hx ?_ ?_ hK
    · intro rec i out hi ho
      simp only [laws_toNodeS.l0.step]
      rw [decide_eq_true (by omega : (i : Int) < (List.length xs : Int)), idx_get hi, idx_get (show i < out.length by omega), wr_succ i (by omega), Int.toNat_natCast, idx_get (show i < out.length by omega)]
      simp only [cond_true, Option.bind_some]
      rw [toNode_ok K _ (hb _ (List.getElem_mem hi)) hK]
      rfl
    · intro rec out
      simp only [laws_toNodeS.l0.step, decNl]
      rfl
  simp only [laws_toNodeS.f, laws_toNodeS.pre]
  rw [decide_eq_true (by omega : (0 : Int) ≤ (List.length xs : Int)), show decide ((List.length xs : Int) * (232 : Nat) ≤ sizeK) = true from decide_eq_true (by simp only [sizeK]; omega), Int.toNat_natCast]
  simp only [decide_true, Bool.and_self, cond_true]
  exact hl
theorem toFlight_ok (K : Nat) (y : Flight) : laws_toFlight.f K (y, ()) = some ((y, ()), ()) := rfl
theorem toFlightS_ok (K : Nat) (xs : List Flight) (hx : xs.length ≤ 1048576) (hK : 1048577 < K) : laws_toFlightS.f K (xs, ()) = some ((xs, ()), ()) := by
  have hl : laws_toFlightS.l0 K (xs, ()) (List.replicate xs.length (0, (ByteArray.empty, false)), 0) = some ((xs, ()), ()) := by
    refine to_loop (step := fun rec a => laws_toFlightS.l0.step K (xs, ()) rec a) xs _ hx ?_ ?_ hK
    · intro rec i out hi ho
      simp only [laws_toFlightS.l0.step]
      rw [decide_eq_true (by omega : (i : Int) < (List.length xs : Int)), idx_get hi, idx_get (show i < out.length by omega), wr_succ i (by omega), Int.toNat_natCast, idx_get (show i < out.length by omega)]
      simp only [cond_true, Option.bind_some]
      rw [toFlight_ok]
      rfl
    · intro rec out
      simp only [laws_toFlightS.l0.step, decNl]
      rfl
  simp only [laws_toFlightS.f, laws_toFlightS.pre]
  rw [decide_eq_true (by omega : (0 : Int) ≤ (List.length xs : Int)), show decide ((List.length xs : Int) * (32 : Nat) ≤ sizeK) = true from decide_eq_true (by simp only [sizeK]; omega), Int.toNat_natCast]
  simp only [decide_true, Bool.and_self, cond_true]
  exact hl
theorem toWorld_ok (K : Nat) (w : World') (hw : WB w) (hK : 1048577 < K) : laws_toWorld.f K (w, ()) = some ((w, ()), ()) := by
  simp only [laws_toWorld.f, laws_toWorld.pre]
  rw [toNodeS_ok K _ hw.nodes hw.node hK, Option.bind_some, toFlightS_ok K _ hw.radio hK, Option.bind_some, toIntS_ok K _ hw.sides hK, Option.bind_some, toFactS_ok K _ hw.born hK]
  rfl
theorem eqNodeS_refl (K : Nat) (xs : List Node) (hx : xs.length ≤ 1048576) (hb : ∀ y ∈ xs, NB y) (hK : 1048577 < K) : laws_eqNodeS.f K (xs, xs, ()) = rb true := by
  have hl : laws_eqNodeS.l0 K (xs, xs, ()) 0 = rb true := by
    refine iter_go (step := fun rec a => laws_eqNodeS.l0.step K (xs, xs, ()) rec a) xs.length (fun i => (i : Int)) (rb true) ?_ ?_ (by omega)
    · intro rec i hi
      simp only [laws_eqNodeS.l0.step]
      rw [decide_eq_true (by omega : (i : Int) < (List.length xs : Int)), idx_get hi, wr_succ i (by omega)]
      simp only [cond_true, Option.bind_some]
      rw [eqNode_refl K _ (hb _ (List.getElem_mem hi)) hK]
      rfl
    · intro rec
      simp only [laws_eqNodeS.l0.step, decNl]
      rfl
  simp only [laws_eqNodeS.f, laws_eqNodeS.pre, bne_self_eq_false, cond_false]
  exact hl
theorem eqFlight_refl (K : Nat) (y : Flight) : laws_eqFlight.f K (y, y, ()) = rb true := by simp [laws_eqFlight.f, laws_eqFlight.pre]
theorem eqFlightS_refl (K : Nat) (xs : List Flight) (hx : xs.length ≤ 1048576) (hK : 1048577 < K) : laws_eqFlightS.f K (xs, xs, ()) = rb true := by
  have hl : laws_eqFlightS.l0 K (xs, xs, ()) 0 = rb true := by
    refine iter_go (step := fun rec a => laws_eqFlightS.l0.step K (xs, xs, ()) rec a) xs.length (fun i => (i : Int)) (rb true) ?_ ?_ (by omega)
    · intro rec i hi
      simp only [laws_eqFlightS.l0.step]
      rw [decide_eq_true (by omega : (i : Int) < (List.length xs : Int)), idx_get hi, wr_succ i (by omega)]
      simp only [cond_true, Option.bind_some]
      rw [eqFlight_refl]
      rfl
    · intro rec
      simp only [laws_eqFlightS.l0.step, decNl]
      rfl
  simp only [laws_eqFlightS.f, laws_eqFlightS.pre, bne_self_eq_false, cond_false]
  exact hl
theorem eqWorld_refl (K : Nat) (w : World') (hw : WB w) (hK : 1048577 < K) : laws_eqWorld.f K (w, w, ()) = rb true := by
  simp only [laws_eqWorld.f, laws_eqWorld.pre]
  rw [eqNodeS_refl K _ hw.nodes hw.node hK, eqFlightS_refl K _ hw.radio hK, eqIntS_refl K _ hw.sides hK, eqFactS_refl K _ hw.born hK]
  simp
end Go.Proofs.YthgnfidnmnkeaaaGreatEv
namespace Go.Proofs.YthgnfidnmnkeaaaGreatEv
open Go
def LessP (f g : Fact) : Prop := if f.1 ≠ g.1 then f.1 < g.1 else Over g f
theorem less_s (K : Nat) (f g : Fact) : Ret (spec_l51Less.f K (f, g, ())) (LessP f g) := by
  simp only [spec_l51Less.f, spec_l51Less.pre, LessP]
  by_cases h : f.1 = g.1
  · rw [show (f.1 != g.1) = false by simpa using h, if_neg (fun h2 => h2 h)]
    exact (over_s K g f).id
  · rw [show (f.1 != g.1) = true by simpa using h, if_pos h]
    exact Ret.dec
theorem cmpF_less (f g : Fact) : ¬ cmpF f g ≥ 0 ↔ LessP f g := by
  unfold cmpF LessP
  by_cases h0 : f.1 = g.1
  · rw [orI_zero ((cmp_zero f.1 g.1).2 h0), if_neg (show ¬ f.1 ≠ g.1 from fun h => h h0)]
    unfold Over
    by_cases h1 : f.2.1 = g.2.1
    · rw [orI_zero ((cmp_zero f.2.1 g.2.1).2 h1), if_neg (show ¬ g.2.1 ≠ f.2.1 from fun h => h h1.symm)]
      by_cases h2 : f.2.2.1 = g.2.2.1
      · rw [orI_zero ((cmp_zero f.2.2.1 g.2.2.1).2 h2), if_neg (show ¬ g.2.2.1 ≠ f.2.2.1 from fun h => h h2.symm)]
        cases f.2.2.2 <;> cases g.2.2.2 <;> simp [orI]
      · rw [orI_pos (fun h => h2 ((cmp_zero f.2.2.1 g.2.2.1).1 h)), if_pos (show g.2.2.1 ≠ f.2.2.1 from fun h => h2 h.symm)]
        have := cmp_sign f.2.2.1 g.2.2.1
        omega
    · rw [orI_pos (fun h => h1 ((cmp_zero f.2.1 g.2.1).1 h)), if_pos (show g.2.1 ≠ f.2.1 from fun h => h1 h.symm)]
      have := cmp_sign f.2.1 g.2.1
      omega
  · rw [orI_pos (fun h => h0 ((cmp_zero f.1 g.1).1 h)), if_pos (show f.1 ≠ g.1 from h0)]
    have := cmp_sign f.1 g.1
    omega
def gateB (i : Nat) : Bool := decide (Int.tmod (i : Int) 4 < 3)
theorem gate_s (K i : Nat) : spec_l51Gate.f K ((i : Int), ()) = rb (gateB i) := rfl
theorem gate_i (K i : Nat) : impl_mayGate.f K ((i : Int), ()) = rb (gateB i) := by
  simp only [impl_mayGate.f, impl_mayGate.pre, gateB]
  rw [Int.tmod_eq_emod_of_nonneg (by omega)]
  have : ((i : Int) % 4 != 3) = decide ((i : Int) % 4 < 3) := by
    rw [Bool.eq_iff_iff]
    simp only [bne_iff_ne, ne_eq, decide_eq_true_eq]
    omega
  rw [this]
def NodeAt (w : World') (i : Nat) (hi : i < (World'.nodes w).length) : Prop := (World'.nodes w)[i].1 = (i : Int) ∧ (World'.nodes w)[i].2.2.2.1 = gateB i ∧ NodeP (World'.nodes w)[i] ∧ (∀ h : i < (World'.sides w).length, InP (World'.sides w)[i] 0 2)
def FlightP (f : Flight) : Prop := InP f.1 0 7 ∧ ¬ (f.2.1.size : Int) > 300
def BornP (l : List Fact) : Prop := ∀ i (hi : i < l.length), FactP l[i] ∧ (0 < i → LessP (l[i - 1]'(by omega)) l[i])
def WorldP (w : World') : Prop := (World'.nodes w).length = 8 ∧ (World'.sides w).length = 8 ∧ (World'.radio w).length ≤ 60 ∧ (∀ i hi, NodeAt w i hi) ∧ (∀ f ∈ World'.radio w, FlightP f) ∧ BornP (World'.born w)
theorem born_s (K : Nat) (w : World') (hw : WB w) (hK : 1048577 < K) : Ret (spec_WorldOk.l2 K (w, ()) 0) (BornP (World'.born w)) := by
  have hl := hw.born
  refine (ret_loop (World'.born w) (step := fun rec a => spec_WorldOk.l2.step K (w, ()) rec a) (fun i hi => FactP (World'.born w)[i] ∧ (0 < i → LessP ((World'.born w)[i - 1]'(by omega)) (World'.born w)[i]) ∧ True) hl ?_ ?_ hK (fun _ => Ret.yes trivial)).iff (true_and'.trans ?_)
  · intro rec i hi
    simp only [spec_WorldOk.l2.step]
    rw [decide_eq_true (by omega : (i : Int) < (List.length (World'.born w) : Int))]
    simp only [cond_true]
    refine Rnd.ix (idx_get hi) (Rnd.nx (factOk_s K _) fun _ => Rnd.two (fun h0 => ?_) Rnd.end_)
    rw [wr_pred i h0 (by omega)]
    exact Rnd.ix (idx_get (show i - 1 < (World'.born w).length by omega)) (Rnd.ix (idx_get hi) (Rnd.nx (less_s K _ _) fun _ => Rnd.end_))
  · intro rec
    simp only [spec_WorldOk.l2.step, decNl]
    rfl
  · exact ⟨fun h i hi => ⟨(h i hi).1, (h i hi).2.1⟩, fun h i hi => ⟨(h i hi).1, (h i hi).2, trivial⟩⟩
theorem worldOk_s (K : Nat) (w : World') (hw : WB w) (hK : 1048577 < K) : Ret (spec_WorldOk.f K (w, ())) (WorldP w) := by
  refine (Ret.cndN (b := (List.length (World'.nodes w) : Int) != 8) (P := (World'.nodes w).length ≠ 8) (Q := ¬ (World'.sides w).length ≠ (World'.nodes w).length ∧ ¬ (World'.radio w).length > 60 ∧ (∀ i hi, NodeAt w i hi) ∧ (∀ i (hi : i < (World'.radio w).length), FlightP (World'.radio w)[i]) ∧ BornP (World'.born w)) (by simp; omega) fun h1 =>
    Ret.cndN (b := (List.length (World'.sides w) : Int) != (List.length (World'.nodes w) : Int)) (P := (World'.sides w).length ≠ (World'.nodes w).length) (by simp; omega) fun h2 => Ret.cndN (b := decide ((List.length (World'.radio w) : Int) > 60)) (P := (World'.radio w).length > 60) (by simp; omega) fun h3 => ?_).iff ?_
  · show Ret (spec_WorldOk.l0 K (w, ()) 0) _
    refine ret_loop (World'.nodes w) (step := fun rec a => spec_WorldOk.l0.step K (w, ()) (spec_WorldOk.l1 K (w, ())) rec a) (fun i hi => NodeAt w i hi) hw.nodes ?_ (rt := spec_WorldOk.l1 K (w, ()) 0) ?_ hK fun _ => ?_
    · intro rec i hi
      have hi2 : i < (World'.sides w).length := by omega
      simp only [spec_WorldOk.l0.step]
      rw [decide_eq_true (by omega : (i : Int) < (List.length (World'.nodes w) : Int))]
      simp only [cond_true]
      refine (Rnd.ix (idx_get hi) (Rnd.cndN (b := (World'.nodes w)[i].1 != (i : Int)) (P := ¬ (World'.nodes w)[i].1 = (i : Int)) (by simp) fun _ => Rnd.ix (idx_get hi) (Rnd.vl (gate_s K i) (Rnd.cndN (b := (World'.nodes w)[i].2.2.2.1 != gateB i) (P := ¬ (World'.nodes w)[i].2.2.2.1 = gateB i) (by simp) fun _ => Rnd.ix (idx_get hi) (Rnd.nx (nodeOk_s K _ (hw.node _ (List.getElem_mem hi)) hK) fun _ =>
        Rnd.ix (idx_get hi2) (Rnd.nx (in_s K _ _ _) fun _ => Rnd.end_)))))).iff ?_
      unfold NodeAt
      constructor
      · rintro ⟨a, b, c, d, _⟩; exact ⟨Classical.not_not.1 a, Classical.not_not.1 b, c, fun _ => d⟩
      · rintro ⟨a, b, c, d⟩; exact ⟨fun h => h a, fun h => h b, c, d hi2, trivial⟩
    · intro rec
      simp only [spec_WorldOk.l0.step, decNl]
      rfl
    · refine ret_loop (World'.radio w) (step := fun rec a => spec_WorldOk.l1.step K (w, ()) (spec_WorldOk.l2 K (w, ())) rec a) (fun i hi => FlightP (World'.radio w)[i]) hw.radio ?_ (rt := spec_WorldOk.l2 K (w, ()) 0) ?_ hK fun _ => born_s K w hw hK
      · intro rec i hi
        have hl := hw.radio
        simp only [spec_WorldOk.l1.step]
        rw [decide_eq_true (by omega : (i : Int) < (List.length (World'.radio w) : Int))]
        simp only [cond_true]
        refine Rnd.iff (P := InP (World'.radio w)[i].1 0 7 ∧ ¬ ((World'.radio w)[i].2.1.size : Int) > 300 ∧ True) (Rnd.ix (idx_get hi) (Rnd.nx (in_s K _ _ _) fun _ => Rnd.ix (idx_get hi) (Rnd.cndN (b := decide (((World'.radio w)[i].2.1.size : Int) > 300)) (by simp) fun _ => Rnd.end_))) ⟨fun h => ⟨h.1, h.2.1⟩, fun h => ⟨h.1, h.2, trivial⟩⟩
      · intro rec
        simp only [spec_WorldOk.l1.step, decNl]
        rfl
  · unfold WorldP
    rw [← all_get (p := FlightP)]
    constructor
    · rintro ⟨h1, h2, h3, h4⟩; exact ⟨by omega, by omega, by omega, h4⟩
    · rintro ⟨h1, h2, h3, h4⟩; exact ⟨by omega, by omega, by omega, h4⟩
theorem idxFlight_i (K : Nat) (t : List Flight) (φ : Flight × Unit → Option Bool) (p : Flight → Prop) (ht : t.length ≤ 1048576) (hK : 1048577 < K) (hφ : ∀ f ∈ t, ∃ b, φ (f, ()) = some b ∧ (b = true ↔ p f)) :
    Ret (slices_ContainsFunc_impl_Flight_impl_Flight.f K (t, φ, ())) (∃ f ∈ t, p f) := by
  have hi := iter_first (step := fun rec a => slices_IndexFunc_impl_Flight_impl_Flight.l0.step K (t, φ, ()) rec a) t.length (fun i => (i : Int)) (fun j => ∃ h : j < t.length, p t[j]) (some ((-1, ()), ())) (fun j => some ((((j : Nat) : Int), ()), ())) (by
    intro rec i hi
    simp only [slices_IndexFunc_impl_Flight_impl_Flight.l0.step]
    rw [decide_eq_true (show (i : Int) < (List.length t : Int) by omega), idx_get hi, wr_succ i (by omega)]
    simp only [cond_true, Option.bind_some]
    obtain ⟨b, h1, h2⟩ := hφ _ (List.getElem_mem hi)
    rw [h1]
    cases b with
    | true => exact .inr ⟨⟨hi, h2.1 rfl⟩, rfl⟩
    | false => exact .inl ⟨fun ⟨_, h⟩ => by simpa using h2.2 h, rfl⟩) (by
    intro rec
    simp only [slices_IndexFunc_impl_Flight_impl_Flight.l0.step, decNl]
    rfl) t.length K 0 (by omega) (by omega)
  simp only [slices_ContainsFunc_impl_Flight_impl_Flight.f, slices_ContainsFunc_impl_Flight_impl_Flight.pre]
  rcases hi with ⟨i1, i2⟩ | ⟨j, _, j1, ⟨j2, j3⟩, _, j4⟩
  · rw [show slices_IndexFunc_impl_Flight_impl_Flight.f K (t, φ, ()) = some ((-1, ()), ()) from i2]
    refine Ret.no ?_
    rintro ⟨f, hf, hp⟩
    obtain ⟨i, hi, e⟩ := List.getElem_of_mem hf
    subst e
    exact i1 i (Nat.zero_le _) hi ⟨hi, hp⟩
  · rw [show slices_IndexFunc_impl_Flight_impl_Flight.f K (t, φ, ()) = some ((((j : Nat) : Int), ()), ()) from j4]
    simp only [Option.bind_some]
    rw [show decide (((j : Nat) : Int) ≥ 0) = true from decide_eq_true (by omega)]
    exact Ret.yes ⟨_, List.getElem_mem j2, j3⟩
theorem flightBad_i (K : Nat) (f : Flight) : Ret (impl_WorldOk_1.f K (f, ())) (¬ FlightP f) := by
  simp only [impl_WorldOk_1.f, impl_WorldOk_1.pre, FlightP]
  obtain ⟨b, h1, h2⟩ := isNode_i K f.1
  rw [h1]
  cases b with
  | false => exact Ret.yes fun h => by simpa using h2.2 h.1
  | true =>
    have h3 := h2.1 rfl
    refine (Ret.dec (P := (f.2.1.size : Int) > 300)).iff ⟨fun h4 h5 => h5.2 h4, fun h => ?_⟩
    exact Classical.byContradiction fun h4 => h ⟨h3, h4⟩
theorem worldOk_i (K : Nat) (w : World') (hw : WB w) (hK : 1048577 < K) : Ret (impl_WorldOk.f K (w, ())) (WorldP w) := by
  refine (Ret.cndN (b := (List.length (World'.nodes w) : Int) != 8) (P := (World'.nodes w).length ≠ 8) (Q := ¬ (World'.sides w).length ≠ 8 ∧ ¬ (World'.radio w).length > 60 ∧ (∀ i hi, NodeAt w i hi) ∧ (∀ i (hi : i < (World'.born w).length), FactP (World'.born w)[i] ∧ (0 < i → ¬ cmpF ((World'.born w)[i - 1]'(by omega)) (World'.born w)[i] ≥ 0) ∧ True) ∧ ¬ ∃ f ∈ World'.radio w, ¬ FlightP f) (by simp; omega) fun h1 =>
    Ret.cndN (b := (List.length (World'.sides w) : Int) != 8) (P := (World'.sides w).length ≠ 8) (by simp; omega) fun h2 => Ret.cndN (b := decide ((List.length (World'.radio w) : Int) > 60)) (P := (World'.radio w).length > 60) (by simp; omega) fun h3 => ?_).iff ?_
  · show Ret (impl_WorldOk.l0 K (w, ()) 0) _
    refine ret_loop (World'.nodes w) (step := fun rec a => impl_WorldOk.l0.step K (w, ()) (impl_WorldOk.l1 K (w, ())) rec a) (fun i hi => NodeAt w i hi) hw.nodes ?_ (rt := impl_WorldOk.l1 K (w, ()) 0) ?_ hK fun _ => ?_
    · intro rec i hi
      have hi2 : i < (World'.sides w).length := by omega
      simp only [impl_WorldOk.l0.step]
      rw [decide_eq_true (by omega : (i : Int) < (List.length (World'.nodes w) : Int))]
      simp only [cond_true]
      refine (Rnd.ix (idx_get hi) (Rnd.nx (nodeOk_i K _ (hw.node _ (List.getElem_mem hi)) hK) fun _ => Rnd.cndN (b := (World'.nodes w)[i].1 != (i : Int)) (P := ¬ (World'.nodes w)[i].1 = (i : Int)) (by simp) fun _ => Rnd.vl (gate_i K i) (Rnd.cndN (b := (World'.nodes w)[i].2.2.2.1 != gateB i) (P := ¬ (World'.nodes w)[i].2.2.2.1 = gateB i) (by simp) fun _ =>
        Rnd.ix (idx_get hi2) (Rnd.nx (in_i K _ _ _) fun _ => Rnd.end_)))).iff ?_
      unfold NodeAt
      constructor
      · rintro ⟨c, a, b, d, _⟩; exact ⟨Classical.not_not.1 a, Classical.not_not.1 b, c, fun _ => d⟩
      · rintro ⟨a, b, c, d⟩; exact ⟨c, fun h => h a, fun h => h b, d hi2, trivial⟩
    · intro rec
      simp only [impl_WorldOk.l0.step, decNl]
      rfl
    · refine ret_loop (World'.born w) (step := fun rec a => impl_WorldOk.l1.step K (w, ()) rec a) (fun i hi => FactP (World'.born w)[i] ∧ (0 < i → ¬ cmpF ((World'.born w)[i - 1]'(by omega)) (World'.born w)[i] ≥ 0) ∧ True) hw.born ?_
        (rt := (slices_ContainsFunc_impl_Flight_impl_Flight.f K (World'.radio w, fun y10 => (impl_WorldOk_1.f K (y10.1, ())).map fun y => y.1.1, ())).bind fun y11 => some ((!y11.1.1, ()), ())) ?_ hK fun _ => ?_
      · intro rec i hi
        have hl := hw.born
        simp only [impl_WorldOk.l1.step]
        rw [decide_eq_true (by omega : (i : Int) < (List.length (World'.born w) : Int))]
        simp only [cond_true]
        refine Rnd.ix (idx_get hi) (Rnd.nx (factOk_i K _) fun _ => Rnd.two (fun h0 => ?_) Rnd.end_)
        rw [wr_pred i h0 (by omega)]
        exact Rnd.ix (idx_get (show i - 1 < (World'.born w).length by omega)) (Rnd.vl (compare_i K _ _ hK) (Rnd.cndN (b := decide (cmpF ((World'.born w)[i - 1]'(by omega)) (World'.born w)[i] ≥ 0)) decide_eq_true_iff fun _ => Rnd.end_))
      · intro rec
        simp only [impl_WorldOk.l1.step, decNl]
        rfl
      · exact (idxFlight_i K _ _ (fun f => ¬ FlightP f) hw.radio hK (fun f _ => (flightBad_i K f).fn)).neg
  · unfold WorldP BornP
    constructor
    · rintro ⟨h1, h2, h3, h4, h5, h6⟩
      exact ⟨by omega, by omega, by omega, h4, fun f hf => Classical.byContradiction fun h => h6 ⟨f, hf, h⟩, fun i hi => ⟨(h5 i hi).1, fun h0 => (cmpF_less _ _).1 ((h5 i hi).2.1 h0)⟩⟩
    · rintro ⟨h1, h2, h3, h4, h5, h6⟩
      exact ⟨by omega, by omega, by omega, h4, fun i hi => ⟨(h6 i hi).1, fun h0 => (cmpF_less _ _).2 ((h6 i hi).2 h0), trivial⟩, fun ⟨f, hf, h⟩ => h (h5 f hf)⟩
end Go.Proofs.YthgnfidnmnkeaaaGreatEv
namespace Go.Proofs.YthgnfidnmnkeaaaGreatEv
open Go
def bI (b : Bool) : Int := if b = true then 1 else 0
theorem bI_lt (a b : Bool) : bI a < bI b ↔ b = true ∧ a = false := by cases a <;> cases b <;> simp [bI]
theorem lessP_iff (f g : Fact) : LessP f g ↔ f.1 < g.1 ∨ f.1 = g.1 ∧ (f.2.1 < g.2.1 ∨ f.2.1 = g.2.1 ∧ (f.2.2.1 < g.2.2.1 ∨ f.2.2.1 = g.2.2.1 ∧ bI f.2.2.2 < bI g.2.2.2)) := by
  unfold LessP Over
  rw [bI_lt]
  by_cases h0 : f.1 = g.1
  · rw [if_neg (fun h => h h0)]
    by_cases h1 : g.2.1 = f.2.1
    · rw [if_neg (fun h => h h1)]
      by_cases h2 : g.2.2.1 = f.2.2.1
      · rw [if_neg (fun h => h h2)]
        constructor
        · intro h; exact .inr ⟨h0, .inr ⟨h1.symm, .inr ⟨h2.symm, h⟩⟩⟩
        · rintro (h | ⟨_, h | ⟨_, h | ⟨_, h⟩⟩⟩)
          · omega
          · omega
          · omega
          · exact h
      · rw [if_pos h2]
        constructor
        · intro h; exact .inr ⟨h0, .inr ⟨h1.symm, .inl h⟩⟩
        · rintro (h | ⟨_, h | ⟨_, h | ⟨_, h⟩⟩⟩) <;> omega
    · rw [if_pos h1]
      constructor
      · intro h; exact .inr ⟨h0, .inl h⟩
      · rintro (h | ⟨_, h | ⟨_, h | ⟨_, h⟩⟩⟩) <;> omega
  · rw [if_pos h0]
    constructor
    · intro h; exact .inl h
    · rintro (h | ⟨_, h⟩)
      · exact h
      · omega
def ltF (f g : Fact) : Bool := decide (cmpF f g < 0)
theorem ltF_iff (f g : Fact) : ltF f g = true ↔ LessP f g := by
  unfold ltF
  rw [decide_eq_true_iff, ← cmpF_less]
  omega
theorem ltF_false (f g : Fact) : ltF f g = false ↔ ¬ LessP f g := by
  rw [← ltF_iff]; cases ltF f g <;> simp
theorem ltF_trans (a b c : Fact) (h1 : ltF a b = false) (h2 : ltF b c = false) : ltF a c = false := by
  rw [ltF_false, lessP_iff] at *
  generalize bI a.2.2.2 = x at *
  generalize bI b.2.2.2 = y at *
  generalize bI c.2.2.2 = z at *
  omega
theorem ltF_asymm (a b : Fact) (h : ltF a b = true) : ltF b a = false := by
  rw [ltF_false]
  rw [ltF_iff] at h
  rw [lessP_iff] at *
  generalize bI a.2.2.2 = x at *
  generalize bI b.2.2.2 = y at *
  omega
def allOf (n : Node) : List Fact := Node.table n ++ (Node.others n).flatMap (·.2)
theorem flat_app {α β : Type} (xs : List α) (f : α → List β) (i : Nat) (h : i < xs.length) : (xs.take (i + 1)).flatMap f = (xs.take i).flatMap f ++ f xs[i] := by
  rw [List.take_succ_eq_append_getElem h, List.flatMap_append]
  simp only [List.flatMap_cons, List.flatMap_nil, List.append_nil]
theorem flat_len {α β : Type} (xs : List α) (f : α → List β) (i : Nat) : ((xs.take i).flatMap f).length ≤ (xs.flatMap f).length := by
  have : xs.flatMap f = (xs.take i).flatMap f ++ (xs.drop i).flatMap f := (congrArg (List.flatMap f) (List.take_append_drop i xs).symm).trans List.flatMap_append
  rw [this]; simp
theorem compare_fn (K : Nat) (hK : 1048577 < K) (y z : Fact) : ∃ c, (impl_Fact_compare.f K (y, z, ())).map (fun r => r.1.1) = some c ∧ decide (c < 0) = ltF y z := by
  rw [compare_i K y z hK]
  exact ⟨_, rfl, rfl⟩
theorem view_i (K : Nat) (n : Node) (hn : NB n) (hs : (allOf n).length ≤ 12) (hK : 1048577 < K) : impl_Node_view.f K (n, ()) = some ((sortR ltF [] (allOf n), ()), ()) := by
  have hl := hn.others
  have hs' : (Node.table n).length + ((Node.others n).flatMap (·.2)).length ≤ 12 := by rw [← List.length_append]; exact hs
  simp only [impl_Node_view.f, impl_Node_view.pre, m_slices_Clone_impl_Fact_impl_Fact.f]
  rw [clone_ok (Nat.le_trans (Nat.mul_le_mul_right _ hn.table) (by decide))]
  simp only [Option.bind_some]
  have hloop : ∀ (d i k : Nat), i + d = (Node.others n).length → d < k → iterate (fun rec a => impl_Node_view.l0.step K (n, ()) rec a) k (Node.table n ++ ((Node.others n).take i).flatMap (·.2), (i : Int)) = some ((sortR ltF [] (allOf n), ()), ()) := by
    intro d
    induction d with
    | zero =>
      intro i k hi hk
      obtain ⟨k, rfl⟩ : ∃ k', k = k' + 1 := ⟨k - 1, by omega⟩
      have : i = (Node.others n).length := by omega
      subst this
      show impl_Node_view.l0.step K (n, ()) _ _ = _
      rw [List.take_length]
      simp only [impl_Node_view.l0.step, decNl, cond_false]
      have e := sortFact K (allOf n) (fun y3 => (impl_Fact_compare.f K (y3.1, y3.2.1, ())).map fun y => y.1.1) ltF (fun y z => compare_fn K hK y z) hs hK
      unfold allOf at e ⊢
      rw [e]
      simp only [Option.bind_some, slices_Clip_impl_Fact_impl_Fact.f, slices_Clip_impl_Fact_impl_Fact.pre]
      simp
    | succ d ih =>
      intro i k hi hk
      obtain ⟨k, rfl⟩ : ∃ k', k = k' + 1 := ⟨k - 1, by omega⟩
      have hlt : i < (Node.others n).length := by omega
      show impl_Node_view.l0.step K (n, ()) _ _ = _
      simp only [impl_Node_view.l0.step]
      rw [decLt (by omega : (i : Int) < (List.length (Node.others n) : Int)), idx_get hlt, wr_succ i (by omega)]
      simp only [cond_true, Option.bind_some]
      have h1 := flat_len (Node.others n) (·.2) (i + 1)
      rw [flat_app _ _ _ hlt, List.length_append] at h1
      rw [app_ok (by simp only [List.length_append]; omega), List.append_assoc, ← flat_app _ (·.2) _ hlt]
      exact ih (i + 1) k (by omega) (by omega)
  have := hloop (Node.others n).length 0 K (by omega) (by omega)
  simp only [List.take_zero, List.flatMap_nil, List.append_nil] at this
  exact this
theorem siteI_of {n : Int} (h : InP n 0 7) : siteI n = n / 4 := by
  obtain ⟨h1, h2⟩ := h
  unfold siteI
  rw [Int.tdiv_eq_ediv_of_nonneg h1, wr64 (by omega) (by omega)]
theorem asc_far {α : Type} {k : α → Int} {xs : List α} (h : Asc k xs) : ∀ i (hi : i < xs.length), k (xs[0]'(by omega)) + i ≤ k xs[i] := by
  rw [asc_adj] at h
  intro i
  induction i with
  | zero => intro hi; simp
  | succ i ih =>
    intro hi
    have h1 := ih (by omega)
    have h2 := h (i + 1) hi (by omega)
    simp only [Nat.add_sub_cancel] at h2
    omega
theorem table_short {t : List Fact} {s : Int} (hT : TableP t) (hS : SiteP t s) : t.length ≤ 4 := by
  cases h : t.length with
  | zero => omega
  | succ m =>
    have hlt : m < t.length := by omega
    have h0 : 0 < t.length := by omega
    have h1 := asc_far hT.2 m hlt
    have a1 := hS _ (List.getElem_mem hlt)
    have a2 := hS _ (List.getElem_mem h0)
    have b1 := (hT.1 _ (List.getElem_mem hlt)).1
    have b2 := (hT.1 _ (List.getElem_mem h0)).1
    rw [siteI_of b1] at a1
    rw [siteI_of b2] at a2
    omega
theorem others_short {me : Int} {l : List Foreign} (hm : InP me 0 7) (h : OthersP me l) : l = [] ∨ ∃ x, l = [x] := by
  match l, h with
  | [], _ => exact .inl rfl
  | [x], _ => exact .inr ⟨x, rfl⟩
  | x :: y :: r, h =>
    exfalso
    have h1 := h.1 x (by simp)
    have h2 := h.1 y (by simp)
    have h3 : x.1 < y.1 := by
      have := h.2
      unfold Asc at this
      rw [List.pairwise_cons] at this
      exact this.1 y (by simp)
    have e := siteI_of hm
    obtain ⟨⟨a1, a2⟩, a3, _⟩ := h1
    obtain ⟨⟨b1, b2⟩, b3, _⟩ := h2
    obtain ⟨m1, m2⟩ := hm
    rw [e] at a3 b3
    omega
theorem lens_down {n : Node} (hn : NB n) (h : DownP n) : Node.table n = [] ∧ Node.cast n = [] ∧ Node.doubts n = [] ∧ Node.places n = [] ∧ Node.others n = [] := by
  obtain ⟨_, _, _, _, _, h, _⟩ := h
  have h1 := hn.table; have h2 := hn.cast; have h3 := hn.doubts; have h4 := hn.places; have h5 := hn.others
  rw [wr64 (n := (List.length (Node.table n) : Int) + (List.length (Node.cast n) : Int)) (by omega) (by omega)] at h
  rw [wr64 (n := (List.length (Node.table n) : Int) + (List.length (Node.cast n) : Int) + (List.length (Node.doubts n) : Int)) (by omega) (by omega)] at h
  rw [wr64 (n := (List.length (Node.table n) : Int) + (List.length (Node.cast n) : Int) + (List.length (Node.doubts n) : Int) + (List.length (Node.places n) : Int)) (by omega) (by omega)] at h
  rw [wr64 (by omega) (by omega)] at h
  refine ⟨List.eq_nil_of_length_eq_zero ?_, List.eq_nil_of_length_eq_zero ?_, List.eq_nil_of_length_eq_zero ?_, List.eq_nil_of_length_eq_zero ?_, List.eq_nil_of_length_eq_zero ?_⟩ <;> omega
theorem all_short {n : Node} (hn : NB n) (hP : NodeP n) : (allOf n).length ≤ 8 ∧ (Node.others n).length ≤ 1 := by
  have hm := hP.1
  cases hu : n.2.1 with
  | false =>
    have hD : DownP n := by have := hP.2.2.2.2.2; rwa [if_neg (by rw [hu]; simp)] at this
    obtain ⟨h1, _, _, _, h5⟩ := lens_down hn hD
    unfold allOf
    rw [h1, h5]
    simp
  | true =>
    have hU : UpP n := by have := hP.2.2.2.2.2; rwa [if_pos hu] at this
    obtain ⟨hT, hS, _, _, _, _, _, _, hO⟩ := hU
    have ht := table_short hT hS
    unfold allOf
    rcases others_short hm hO with h | ⟨x, h⟩
    · rw [h]; simp; omega
    · have hx := hO.1 x (by rw [h]; simp)
      have := table_short hx.2.2.2.1 hx.2.2.2.2
      rw [h]; simp; omega
end Go.Proofs.YthgnfidnmnkeaaaGreatEv
namespace Go.Proofs.YthgnfidnmnkeaaaGreatEv
open Go
theorem nodeOk_both (K : Nat) (n : Node) (hn : NB n) (hK : 1048577 < K) : ∃ b, spec_NodeOk.f K (n, ()) = rb b ∧ impl_NodeOk.f K (n, ()) = rb b ∧ (b = true ↔ NodeP n) := by
  obtain ⟨b, h1, h2⟩ := nodeOk_s K n hn hK
  obtain ⟨b', h3, h4⟩ := nodeOk_i K n hn hK
  have : b = b' := by rw [Bool.eq_iff_iff, h2, h4]
  subst this
  exact ⟨b, h1, h3, h2⟩
theorem NodeP.up {n : Node} (h : NodeP n) (hu : n.2.1 = true) : UpP n := by
  have := h.2.2.2.2.2
  rwa [if_pos hu] at this
end Go.Proofs.YthgnfidnmnkeaaaGreatEv
namespace Go.Proofs.YthgnfidnmnkeaaaGreatEv
open Go
def ofSite (l : List Foreign) (s : Int) : List Fact := (l.filter fun x => x.1 == s).flatMap (·.2)
def partOf (n : Node) (s : Int) : List Fact := (bif s == siteI n.1 then Node.table n else []) ++ ofSite (Node.others n) s
theorem ofSite_len (l : List Foreign) (s : Int) : (ofSite l s).length ≤ (l.flatMap (·.2)).length := by
  unfold ofSite
  induction l with
  | nil => simp
  | cons x l ih =>
    rw [List.filter_cons]
    split
    · simp only [List.flatMap_cons, List.length_append]; omega
    · simp only [List.flatMap_cons, List.length_append]; omega
theorem view_l1 (K : Nat) (n : Node) (hn : NB n) (hs : ((Node.others n).flatMap (·.2)).length ≤ 12) (s : Int) (rec0 : spec_NodeView.A_l0 → Option spec_NodeView.Res) : ∀ (d i k : Nat) (acc : List Fact), i + d = (Node.others n).length → d < k → acc.length ≤ 1048576 →
    iterate (fun rec a => spec_NodeView.l1.step K (n, ()) rec0 rec a) k (acc ++ ofSite ((Node.others n).take i) s, s, (i : Int)) = rec0 (acc ++ ofSite (Node.others n) s, wr .i64 (s + 1)) := by
  have hl := hn.others
  intro d
  induction d with
  | zero =>
    intro i k acc hi hk ha
    obtain ⟨k, rfl⟩ : ∃ k', k = k' + 1 := ⟨k - 1, by omega⟩
    have : i = (Node.others n).length := by omega
    subst this
    show spec_NodeView.l1.step K (n, ()) _ _ _ = _
    simp only [spec_NodeView.l1.step, decNl, cond_false, List.take_length]
  | succ d ih =>
    intro i k acc hi hk ha
    obtain ⟨k, rfl⟩ : ∃ k', k = k' + 1 := ⟨k - 1, by omega⟩
    have hlt : i < (Node.others n).length := by omega
    show spec_NodeView.l1.step K (n, ()) _ _ _ = _
    simp only [spec_NodeView.l1.step]
    rw [decLt (by omega : (i : Int) < (List.length (Node.others n) : Int)), idx_get hlt, wr_succ i (by omega)]
    simp only [cond_true, Option.bind_some]
    have e : ofSite ((Node.others n).take (i + 1)) s = ofSite ((Node.others n).take i) s ++ (bif (Node.others n)[i].1 == s then (Node.others n)[i].2 else []) := by
      unfold ofSite
      rw [List.take_succ_eq_append_getElem hlt, List.filter_append, List.flatMap_append]
      congr 1
      rw [List.filter_cons]
      cases (Node.others n)[i].1 == s <;> simp
    cases hc : (Node.others n)[i].1 == s with
    | true =>
      simp only [cond_true]
      have h1 := ofSite_len ((Node.others n).take (i + 1)) s
      have h2 := flat_len (Node.others n) (·.2) (i + 1)
      rw [e, hc] at h1
      simp only [cond_true, List.length_append] at h1
      rw [app_ok (by simp only [List.length_append]; omega), List.append_assoc]
      have e' : ofSite ((Node.others n).take (i + 1)) s = ofSite ((Node.others n).take i) s ++ (Node.others n)[i].2 := by rw [e, hc]; rfl
      rw [← e']
      exact ih (i + 1) k acc (by omega) (by omega) ha
    | false =>
      simp only [cond_false]
      have e' : ofSite ((Node.others n).take (i + 1)) s = ofSite ((Node.others n).take i) s := by rw [e, hc]; simp
      rw [← e']
      exact ih (i + 1) k acc (by omega) (by omega) ha
theorem view_s (K : Nat) (n : Node) (hn : NB n) (hP : NodeP n) (hu : n.2.1 = true) (hK : 1048577 < K) : spec_NodeView.f K (n, ()) = some ((partOf n 0 ++ partOf n 1, ()), ()) := by
  obtain ⟨b, h1, _, h3⟩ := nodeOk_both K n hn hK
  have hb := h3.2 hP
  subst hb
  simp only [spec_NodeView.f, spec_NodeView.pre]
  rw [h1]
  simp only [Option.bind_some, Bool.not_true, cond_false, hu]
  have hs := (all_short hn hP).1
  unfold allOf at hs
  rw [List.length_append] at hs
  have hl := hn.others
  have round : ∀ (rec : spec_NodeView.A_l0 → Option spec_NodeView.Res) (acc : List Fact) (s : Int), acc.length ≤ 1000 → s ≤ 1 → spec_NodeView.l0.step K (n, ()) (spec_NodeView.l1 K (n, ()) rec) rec (acc, s) = rec (acc ++ partOf n s, wr .i64 (s + 1)) := by
    intro rec acc s ha hs1
    simp only [spec_NodeView.l0.step]
    rw [decide_eq_true hs1, site_s K n.1]
    simp only [cond_true, Option.bind_some]
    unfold partOf
    cases hc : s == siteI n.1 with
    | true =>
      simp only [cond_true]
      rw [app_ok (by show (acc.length + (Node.table n).length) * 32 ≤ _; omega)]
      have := view_l1 K n hn (by omega) s rec (Node.others n).length 0 K (acc ++ Node.table n) (by omega) (by omega) (by simp; omega)
      rw [List.take_zero, show ofSite [] s = [] from rfl, List.append_nil, List.append_assoc] at this
      exact this
    | false =>
      simp only [cond_false, List.nil_append]
      have := view_l1 K n hn (by omega) s rec (Node.others n).length 0 K acc (by omega) (by omega) (by omega)
      rw [List.take_zero, show ofSite [] s = [] from rfl, List.append_nil] at this
      exact this
  have hlen : (partOf n 0).length ≤ 12 := by
    have := ofSite_len (Node.others n) 0
    unfold partOf
    rw [List.length_append]
    cases (0 : Int) == siteI n.1 <;> simp only [cond_true, cond_false, List.length_nil] <;> omega
  obtain ⟨k, rfl⟩ : ∃ k', K = k' + 3 := ⟨K - 3, by omega⟩
  show iterate (fun rec a => spec_NodeView.l0.step (k + 3) (n, ()) (spec_NodeView.l1 (k + 3) (n, ()) rec) rec a) (k + 3) ([], 0) = _
  have e0 : ∀ j (a : spec_NodeView.A_l0), iterate (fun rec a => spec_NodeView.l0.step (k + 3) (n, ()) (spec_NodeView.l1 (k + 3) (n, ()) rec) rec a) (j + 1) a = spec_NodeView.l0.step (k + 3) (n, ()) (spec_NodeView.l1 (k + 3) (n, ()) (iterate (fun rec a => spec_NodeView.l0.step (k + 3) (n, ()) (spec_NodeView.l1 (k + 3) (n, ()) rec) rec a) j)) (iterate (fun rec a => spec_NodeView.l0.step (k + 3) (n, ()) (spec_NodeView.l1 (k + 3) (n, ()) rec) rec a) j) a := fun _ _ => rfl
  rw [e0 (k + 2), round _ _ _ (by simp) (by omega), wr64 (by omega) (by omega), e0 (k + 1), round _ _ _ (by simp; omega) (by omega), wr64 (by omega) (by omega), e0 k]
  simp only [spec_NodeView.l0.step]
  rfl
theorem asc_less {t : List Fact} (h : Asc (fun f : Fact => f.1) t) : t.Pairwise fun a b => ltF a b = true :=
  h.imp fun {a b} h => by rw [ltF_iff, lessP_iff]; exact .inl h
theorem view_sorted {n : Node} (hn : NB n) (hP : NodeP n) (hu : n.2.1 = true) : sortR ltF [] (allOf n) = partOf n 0 ++ partOf n 1 := by
  have hm := hP.1
  obtain ⟨hT, hS, _, _, _, _, _, _, hO⟩ := hP.up hu
  have hp : (sortR ltF [] (allOf n)).Perm (allOf n) := by simpa using sortR_perm ltF (allOf n) []
  have hsrt : NoLt ltF (sortR ltF [] (allOf n)) := sortR_sorted ltF ltF_trans ltF_asymm _ _ List.Pairwise.nil
  have hsite : siteI n.1 = 0 ∨ siteI n.1 = 1 := by
    rw [siteI_of hm]; obtain ⟨m1, m2⟩ := hm; omega
  have across : ∀ (t u : List Fact) (s : Int), TableP t → SiteP t s → TableP u → SiteP u (s + 1) → (t ++ u).Pairwise fun a b => ltF a b = true := by
    intro t u s ht hts hu hus
    rw [List.pairwise_append]
    refine ⟨asc_less ht.2, asc_less hu.2, fun a ha b hb => ?_⟩
    rw [ltF_iff, lessP_iff]
    have h1 := hts a ha; have h2 := hus b hb
    rw [siteI_of (ht.1 a ha).1] at h1
    rw [siteI_of (hu.1 b hb).1] at h2
    exact .inl (by omega)
  rcases others_short hm hO with h | ⟨x, h⟩
  · rw [show partOf n 0 ++ partOf n 1 = Node.table n by
      unfold partOf ofSite
      rw [h]
      rcases hsite with e | e <;> rw [e] <;> simp]
    refine sorted_uniq ltF ?_ hsrt (asc_less hT.2)
    unfold allOf at hp ⊢
    rw [h] at hp ⊢
    simpa using hp
  · obtain ⟨⟨x1, x2⟩, x3, _, x4, x5⟩ := hO.1 x (by rw [h]; simp)
    rcases hsite with e | e
    · have ex : x.1 = 1 := by omega
      have e2 : partOf n 0 ++ partOf n 1 = Node.table n ++ x.2 := by
        unfold partOf ofSite
        rw [h, e]
        simp [ex]
      rw [e2]
      refine sorted_uniq ltF ?_ hsrt (across _ _ 0 hT (by rw [e] at hS; exact hS) x4 (by rw [ex] at x5; exact x5))
      unfold allOf at hp ⊢
      rw [h] at hp ⊢
      simpa using hp
    · have ex : x.1 = 0 := by omega
      have e2 : partOf n 0 ++ partOf n 1 = x.2 ++ Node.table n := by
        unfold partOf ofSite
        rw [h, e]
        simp [ex]
      rw [e2]
      refine sorted_uniq ltF ?_ hsrt (across _ _ 0 x4 (by rw [ex] at x5; exact x5) hT (by rw [e] at hS; exact hS))
      unfold allOf at hp ⊢
      rw [h] at hp ⊢
      have : (Node.table n ++ x.2).Perm (x.2 ++ Node.table n) := List.perm_append_comm
      have hp2 : (sortR ltF [] (Node.table n ++ [x].flatMap (·.2))).Perm (Node.table n ++ x.2) := by simpa using hp
      exact hp2.trans this
def viewOf (n : Node) : List Fact := sortR ltF [] (allOf n)
theorem viewOf_len {n : Node} (hn : NB n) (hP : NodeP n) : (viewOf n).length ≤ 8 := by
  have hp : (viewOf n).Perm (allOf n) := by unfold viewOf; simpa using sortR_perm ltF (allOf n) []
  rw [hp.length_eq]
  exact (all_short hn hP).1
theorem viewOf_i (K : Nat) (n : Node) (hn : NB n) (hP : NodeP n) (hK : 1048577 < K) : impl_Node_view.f K (n, ()) = some ((viewOf n, ()), ()) :=
  view_i K n hn (by have := (all_short hn hP).1; omega) hK
theorem viewOf_s (K : Nat) (n : Node) (hn : NB n) (hP : NodeP n) (hu : n.2.1 = true) (hK : 1048577 < K) : spec_NodeView.f K (n, ()) = some ((viewOf n, ()), ()) := by
  rw [view_s K n hn hP hu hK, ← view_sorted hn hP hu]
  rfl
end Go.Proofs.YthgnfidnmnkeaaaGreatEv
