/- The marks that a law writes into what was answered, and the look whether they still stand. -/
import Derived.Test.YtdjmnbdicpgmiaaP1
import Derived.Test.YtdjmnbdicpgmiaaE0
namespace Go.Proofs.YtdjmnbdicpgmiaaEv
open Go
theorem idx_set {α : Type} {xs : List α} {i : Nat} {v : α} (h : i < xs.length) : idx (xs.set i v) (i : Int) = some v := by
  rw [idx_nat, List.getElem?_set]
  simp [h]
theorem wrp {a : Int} (h0 : 0 ≤ a) (h1 : a ≤ 9223372036854775806) : wr .i64 (a + 1) = a + 1 := wr64 (by omega) (by omega)
def mks {α : Type} (mk : α → Int → α × Int) : List α → Int → List α × Int
  | [], m => ([], m)
  | x :: xs, m => ((mk x m).1 :: (mks mk xs (mk x m).2).1, (mks mk xs (mk x m).2).2)
theorem mks_next {α : Type} {mk : α → Int → α × Int} {W : α → Nat} (hW : ∀ x m, (mk x m).2 = m + W x) : ∀ (xs : List α) (m : Int), (mks mk xs m).2 = m + ((xs.map W).sum : Nat)
  | [], m => by simp [mks]
  | x :: xs, m => by
    simp only [mks, List.map_cons, List.sum_cons]
    rw [mks_next hW xs, hW]
    omega
theorem mks_len {α : Type} {mk : α → Int → α × Int} : ∀ (xs : List α) (m : Int), (mks mk xs m).1.length = xs.length
  | [], _ => rfl
  | x :: xs, m => by simp [mks, mks_len xs]
abbrev MkR (α : Type) := (Int × Unit) × (List α × Unit)
theorem mark_loop {α : Type} (mk : α → Int → α × Int) (W : α → Nat) (P : α → Prop) (hW : ∀ x m, (mk x m).2 = m + W x) {step : (List α × Int × Int → Option (MkR α)) → List α × Int × Int → Option (MkR α)}
    (h : ∀ (rec : List α × Int × Int → Option (MkR α)) (ys : List α) (m : Int) (i : Nat) (hi : i < ys.length), ys.length ≤ 1048576 → P ys[i] → 0 ≤ m → m + W ys[i] ≤ 4611686018427387904 → step rec (ys, m, (i : Int)) = rec (ys.set i (mk ys[i] m).1, (mk ys[i] m).2, ((i + 1 : Nat) : Int)))
    (hend : ∀ (rec : List α × Int × Int → Option (MkR α)) (ys : List α) (m : Int), step rec (ys, m, (ys.length : Int)) = some ((m, ()), (ys, ()))) :
    ∀ (xs pre : List α) (m : Int) (k : Nat), pre.length + xs.length ≤ 1048576 → xs.length < k → (∀ x ∈ xs, P x) → 0 ≤ m → m + ((xs.map W).sum : Nat) ≤ 4611686018427387904 →
      iterate step k (pre ++ xs, m, ((pre.length : Nat) : Int)) = some (((mks mk xs m).2, ()), (pre ++ (mks mk xs m).1, ())) := by
  intro xs
  induction xs with
  | nil =>
    intro pre m k hl hk _ _ _
    obtain ⟨k, rfl⟩ : ∃ k', k = k' + 1 := ⟨k - 1, by omega⟩
    show step (iterate step k) _ = _
    rw [List.append_nil, hend]
    simp [mks]
  | cons x xs ih =>
    intro pre m k hl hk hP h0 hm
    simp only [List.length_cons] at hl hk
    obtain ⟨k, rfl⟩ : ∃ k', k = k' + 1 := ⟨k - 1, by omega⟩
    have hi : pre.length < (pre ++ x :: xs).length := by simp
    have e : (pre ++ x :: xs)[pre.length] = x := by simp
    simp only [List.map_cons, List.sum_cons] at hm
    have h1 := h (iterate step k) (pre ++ x :: xs) m pre.length hi (by simp; omega) (e.symm ▸ hP x (List.mem_cons_self ..)) h0 (by rw [e]; omega)
    rw [e] at h1
    show step (iterate step k) _ = _
    rw [h1]
    have e2 : (pre ++ x :: xs).set pre.length (mk x m).1 = (pre ++ [(mk x m).1]) ++ xs := by simp
    rw [e2]
    have h2 := ih (pre ++ [(mk x m).1]) (mk x m).2 k (by simp; omega) (by omega) (fun y hy => hP y (List.mem_cons_of_mem _ hy)) (by rw [hW]; omega) (by rw [hW]; omega)
    simp only [List.length_append, List.length_cons, List.length_nil, Nat.zero_add] at h2
    rw [h2]
    simp [mks]
theorem held_loop {α : Type} (mk : α → Int → α × Int) (W : α → Nat) (P : α → Prop) (hW : ∀ x m, (mk x m).2 = m + W x) (ys : List α) {step : (Int × Int → Option ((Int × Unit) × Unit)) → Int × Int → Option ((Int × Unit) × Unit)} (hys : ys.length ≤ 1048576)
    (h : ∀ (rec : Int × Int → Option ((Int × Unit) × Unit)) (x : α) (m : Int) (i : Nat) (hi : i < ys.length), ys[i] = (mk x m).1 → P x → 0 ≤ m → m + W x ≤ 4611686018427387904 → step rec (m, (i : Int)) = rec ((mk x m).2, ((i + 1 : Nat) : Int)))
    (hend : ∀ (rec : Int × Int → Option ((Int × Unit) × Unit)) (m : Int), step rec (m, (ys.length : Int)) = some ((m, ()), ())) :
    ∀ (xs pre : List α) (m : Int) (k : Nat), ys = pre ++ (mks mk xs m).1 → xs.length < k → (∀ x ∈ xs, P x) → 0 ≤ m → m + ((xs.map W).sum : Nat) ≤ 4611686018427387904 →
      iterate step k (m, ((pre.length : Nat) : Int)) = some (((mks mk xs m).2, ()), ()) := by
  intro xs
  induction xs with
  | nil =>
    intro pre m k e hk _ _ _
    obtain ⟨k, rfl⟩ : ∃ k', k = k' + 1 := ⟨k - 1, by omega⟩
    have e' : pre.length = ys.length := by rw [e]; simp [mks]
    show step (iterate step k) _ = _
    rw [e', hend]
    rfl
  | cons x xs ih =>
    intro pre m k e hk hP h0 hm
    simp only [List.length_cons] at hk
    obtain ⟨k, rfl⟩ : ∃ k', k = k' + 1 := ⟨k - 1, by omega⟩
    simp only [List.map_cons, List.sum_cons] at hm
    have hi : pre.length < ys.length := by rw [e]; simp [mks]
    have e1 : ys[pre.length] = (mk x m).1 := by subst e; simp [mks]
    have h1 := h (iterate step k) x m pre.length hi e1 (hP x (List.mem_cons_self ..)) h0 (by omega)
    show step (iterate step k) _ = _
    rw [h1]
    have h2 := ih (pre ++ [(mk x m).1]) (mk x m).2 k (by rw [e]; simp [mks]) (by omega) (fun y hy => hP y (List.mem_cons_of_mem _ hy)) (by rw [hW]; omega) (by rw [hW]; omega)
    simp only [List.length_append, List.length_cons, List.length_nil, Nat.zero_add] at h2
    rw [h2]
    rfl
def mkFact (_ : Fact) (m : Int) : Fact × Int := ((m, m + 1, m + 1 + 1, (Int.tmod (m + 1 + 1 + 1) 3 == 0)), m + 1 + 1 + 1 + 1)
def mkItem (x : Item) (m : Int) : Item × Int := (((mkFact x.1 m).1, m + 1 + 1 + 1 + 1), m + 1 + 1 + 1 + 1 + 1)
def wFact (_ : Fact) : Nat := 4
def wItem (_ : Item) : Nat := 5
theorem wFact_ok (x : Fact) (m : Int) : (mkFact x m).2 = m + wFact x := by simp only [mkFact, wFact]; omega
theorem wItem_ok (x : Item) (m : Int) : (mkItem x m).2 = m + wItem x := by simp only [mkItem, wItem]; omega
theorem markFactS_ok (K : Nat) (xs : List Fact) (m : Int) (hx : xs.length ≤ 1048576) (h0 : 0 ≤ m) (hm : m + ((xs.map wFact).sum : Nat) ≤ 4611686018427387904) (hK : 1048577 < K) :
    laws_markFactS.f K (xs, m, ()) = some (((mks mkFact xs m).2, ()), ((mks mkFact xs m).1, ())) := by
  refine mark_loop (step := fun rec a => laws_markFactS.l0.step K (xs, m, ()) rec a) mkFact wFact (fun _ => True) wFact_ok ?_ ?_ xs [] m K (by simpa using hx) (by omega) (fun _ _ => trivial) h0 hm
  · intro rec ys m i hi hl _ h0 hm
    simp only [wFact] at hm
    simp only [laws_markFactS.l0.step]
    rw [decLt (by omega : (i : Int) < (List.length ys : Int)), idx_get hi, wr_succ i (by omega)]
    simp (disch := omega) only [wrp, cond_true, Option.bind_some, Int.toNat_natCast, List.set_set, idx_set hi, idx_get hi]
    rfl
  · intro rec ys m
    simp only [laws_markFactS.l0.step, decNl]
    rfl
end Go.Proofs.YtdjmnbdicpgmiaaEv
namespace Go.Proofs.YtdjmnbdicpgmiaaEv
open Go
theorem nneg {a : Int} (h : 0 ≤ a) : decide (a < 0) = false := decide_eq_false (by omega)
theorem sum_le {α : Type} {W : α → Nat} {c : Nat} : ∀ {xs : List α}, (∀ x ∈ xs, W x ≤ c) → (xs.map W).sum ≤ xs.length * c
  | [], _ => by simp
  | x :: xs, h => by
    have h1 := h x (List.mem_cons_self ..)
    have h2 := sum_le (xs := xs) (fun y hy => h y (List.mem_cons_of_mem _ hy))
    simp only [List.map_cons, List.sum_cons, List.length_cons, Nat.succ_mul]
    omega
theorem wFacts_le {xs : List Fact} (h : xs.length ≤ 1048576) : (xs.map wFact).sum ≤ 4194304 := by
  have := sum_le (W := wFact) (c := 4) (xs := xs) (fun _ _ => Nat.le_refl _)
  omega
end Go.Proofs.YtdjmnbdicpgmiaaEv
namespace Go.Proofs.YtdjmnbdicpgmiaaEv
open Go
theorem gather_loop {α β R : Type} (t : List α) (p : α → Bool) (g : α → β) (n : Nat) (fin : List β → Option R) {step : (List β × Int → Option R) → List β × Int → Option R}
    (h : ∀ (rec : List β × Int → Option R) (acc : List β) (i : Nat) (hi : i < t.length), acc.length ≤ i → acc.length < n → step rec (acc, (i : Int)) = rec (bif p t[i] then acc ++ [g t[i]] else acc, ((i + 1 : Nat) : Int)))
    (hn : ∀ (rec : List β × Int → Option R) (acc : List β) (i : Nat), i < t.length → acc.length ≤ i → n ≤ acc.length → step rec (acc, (i : Int)) = fin acc)
    (hend : ∀ (rec : List β × Int → Option R) (acc : List β), acc.length ≤ t.length → step rec (acc, (t.length : Int)) = fin acc) :
    ∀ (d i k : Nat) (acc : List β), i + d = t.length → d < k → acc.length ≤ i → acc.length ≤ n → iterate step k (acc, (i : Int)) = fin (acc ++ (((t.drop i).filter p).map g).take (n - acc.length)) := by
  intro d
  induction d with
  | zero =>
    intro i k acc hi hk ha _
    obtain ⟨k, rfl⟩ : ∃ k', k = k' + 1 := ⟨k - 1, by omega⟩
    have : i = t.length := by omega
    subst this
    show step (iterate step k) _ = _
    rw [hend _ _ ha]
    simp
  | succ d ih =>
    intro i k acc hi hk ha hle
    obtain ⟨k, rfl⟩ : ∃ k', k = k' + 1 := ⟨k - 1, by omega⟩
    have hlt : i < t.length := by omega
    show step (iterate step k) _ = _
    by_cases hc : acc.length < n
    · rw [h _ _ _ hlt ha hc, List.drop_eq_getElem_cons hlt, List.filter_cons]
      cases hp : p t[i] with
      | true =>
        simp only [cond_true, if_true, List.map_cons]
        rw [ih (i + 1) k _ (by omega) (by omega) (by simp; omega) (by simp; omega)]
        congr 1
        obtain ⟨m, hm⟩ : ∃ m, n - acc.length = m + 1 := ⟨n - acc.length - 1, by omega⟩
        rw [hm, List.take_succ_cons, List.append_assoc]
        simp only [List.length_append, List.length_cons, List.length_nil]
        rw [show n - (acc.length + (0 + 1)) = m by omega]
        rfl
      | false =>
        simp only [cond_false]
        rw [ih (i + 1) k _ (by omega) (by omega) (by omega) (by omega)]
        rfl
    · rw [hn _ _ _ hlt ha (by omega)]
      rw [show n - acc.length = 0 by omega]
      simp
theorem gather_all {α β R : Type} (t : List α) (p : α → Bool) (g : α → β) (fin : List β → Option R) {step : (List β × Int → Option R) → List β × Int → Option R}
    (h : ∀ (rec : List β × Int → Option R) (acc : List β) (i : Nat) (hi : i < t.length), acc.length ≤ i → step rec (acc, (i : Int)) = rec (bif p t[i] then acc ++ [g t[i]] else acc, ((i + 1 : Nat) : Int)))
    (hend : ∀ (rec : List β × Int → Option R) (acc : List β), acc.length ≤ t.length → step rec (acc, (t.length : Int)) = fin acc) {k : Nat} (hk : t.length < k) :
    iterate step k ([], 0) = fin ((t.filter p).map g) := by
  have := gather_loop t p g (t.length + 1) fin (fun rec acc i hi ha _ => h rec acc i hi ha) (fun rec acc i hi ha hn => by omega) hend t.length 0 k [] (by omega) hk (Nat.le_refl _) (by simp)
  refine this.trans ?_
  congr 1
  simp only [List.nil_append, List.length_nil, List.drop_zero]
  exact List.take_of_length_le (by have := List.length_filter_le p t; simp; omega)
theorem app_ok {α β : Type} {xs ys : List α} {b : Nat} {x y : β} (h : (xs.length + ys.length) * b ≤ 140737488355328) : (bif decide ((List.length xs + List.length ys) * b ≤ sizeK) then x else y) = x := by
  rw [decide_eq_true (by simpa [sizeK] using h)]
  rfl
end Go.Proofs.YtdjmnbdicpgmiaaEv
