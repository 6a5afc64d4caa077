/- Plain lemmas on loops: a loop over a list comes to a fold that may stop. -/
import Derived.Test.YthgnfidnmnkeaaaGreatEv0
import Derived.Laws.MakeOwn
namespace Go.Proofs.YthgnfidnmnkeaaaGreatEv
open Go

theorem wr64 {n : Int} (h0 : -9223372036854775808 ≤ n) (h1 : n ≤ 9223372036854775807) : wr .i64 n = n := by
  show IntKind.i64.wrap n = n
  rw [IntKind.wrap_i64]
  omega

theorem idx_nat {α : Type} (xs : List α) (i : Nat) : idx xs (i : Int) = xs[i]? := by
  unfold idx
  rw [if_neg (by omega)]
  simp

theorem idx_get {α : Type} {xs : List α} {i : Nat} (h : i < xs.length) : idx xs (i : Int) = some xs[i] := by
  rw [idx_nat, List.getElem?_eq_getElem h]

theorem idx_neg {α : Type} {xs : List α} {i : Int} (h : i < 0) : idx xs i = none := by
  unfold idx
  rw [if_pos h]

theorem wr_succ (i : Nat) (h : i < 9223372036854775807) : wr .i64 ((i : Int) + 1) = ((i + 1 : Nat) : Int) := by
  rw [wr64 (by omega) (by omega)]; omega

theorem wr_pred (i : Nat) (h0 : 0 < i) (h : i < 9223372036854775807) : wr .i64 ((i : Int) - 1) = ((i - 1 : Nat) : Int) := by
  rw [wr64 (by omega) (by omega)]; omega

/-- What a round says: go on with this, or end so. -/
inductive Go1 (σ R : Type) where
  | go (s : σ)
  | ends (r : Option R)

/-- The rounds over the rest of a list. -/
def runL {α σ R : Type} (body : Nat → α → σ → Go1 σ R) (fin : σ → Option R) : Nat → List α → σ → Option R
  | _, [], s => fin s
  | i, x :: xs, s => match body i x s with
    | .go s' => runL body fin (i + 1) xs s'
    | .ends r => r

/-- A loop over a list. -/
theorem iter_list {A R σ α : Type} {step : (A → Option R) → A → Option R} (xs : List α) (S : Nat → σ → A) (body : Nat → α → σ → Go1 σ R) (fin : σ → Option R) (Inv : Nat → σ → Prop)
    (h1 : ∀ (rec : A → Option R) (i : Nat) (s : σ) (hi : i < xs.length), Inv i s → step rec (S i s) = match body i xs[i] s with | .go s' => rec (S (i + 1) s') | .ends r => r)
    (hI : ∀ (i : Nat) (s s' : σ) (hi : i < xs.length), Inv i s → body i xs[i] s = .go s' → Inv (i + 1) s')
    (h2 : ∀ (rec : A → Option R) (s : σ), Inv xs.length s → step rec (S xs.length s) = fin s) :
    ∀ (n k i : Nat) (s : σ), i + n = xs.length → n < k → Inv i s → iterate step k (S i s) = runL body fin i (xs.drop i) s := by
  intro n
  induction n with
  | zero =>
    intro k i s hi hk hinv
    obtain ⟨k, rfl⟩ : ∃ k', k = k' + 1 := ⟨k - 1, by omega⟩
    have hi' : i = xs.length := by omega
    subst hi'
    rw [List.drop_length]
    exact h2 (iterate step k) s hinv
  | succ n ih =>
    intro k i s hi hk hinv
    obtain ⟨k, rfl⟩ : ∃ k', k = k' + 1 := ⟨k - 1, by omega⟩
    have hlt : i < xs.length := by omega
    show step (iterate step k) (S i s) = _
    rw [h1 (iterate step k) i s hlt hinv, List.drop_eq_getElem_cons hlt]
    simp only [runL]
    have hb := hI i s
    cases hbody : body i xs[i] s with
    | go s' => exact ih k (i + 1) s' (by omega) (by omega) (hb s' hlt hinv hbody)
    | ends r => rfl

/-- The rounds that look for one that fails. -/
theorem runL_all {α σ R : Type} {body : Nat → α → σ → Go1 σ R} {fin : σ → Option R} {p : Nat → α → Bool} {r : Option R} {s : σ} (hb : ∀ i x, body i x s = bif p i x then .go s else .ends r) :
    ∀ (xs : List α) (i : Nat), runL body fin i xs s = bif (xs.zipIdx i).all (fun y => p y.2 y.1) then fin s else r
  | [], _ => rfl
  | x :: xs, i => by
    simp only [runL, hb, List.zipIdx_cons, List.all_cons]
    cases p i x with
    | true => simp only [cond_true, Bool.true_and]; exact runL_all hb xs (i + 1)
    | false => rfl

end Go.Proofs.YthgnfidnmnkeaaaGreatEv
