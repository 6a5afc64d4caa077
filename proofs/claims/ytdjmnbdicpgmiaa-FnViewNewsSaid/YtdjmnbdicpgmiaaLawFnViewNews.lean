/- FnViewNews: the plain law. -/
import Derived.Test.YtdjmnbdicpgmiaaP2
namespace Go.Proofs.YtdjmnbdicpgmiaaEv
open Go
theorem xor_nn {a b : Int} (ha : 0 ≤ a) (ha' : a < 4611686018427387904) (hb : 0 ≤ b) (hb' : b < 4611686018427387904) : 0 ≤ xorI .i64 a b := by
  obtain ⟨m, rfl⟩ := Int.eq_ofNat_of_zero_le ha
  obtain ⟨n, rfl⟩ := Int.eq_ofNat_of_zero_le hb
  have h : (BitVec.ofInt 64 (m : Int) ^^^ BitVec.ofInt 64 (n : Int)).toNat = m ^^^ n := by
    rw [BitVec.toNat_xor, BitVec.toNat_ofInt, BitVec.toNat_ofInt]
    congr 1
    · omega
    · omega
  have h2 : m ^^^ n < 2 ^ 62 := Nat.xor_lt_two_pow (by omega) (by omega)
  show 0 ≤ IntKind.i64.wrap (((BitVec.ofInt 64 (m : Int) ^^^ BitVec.ofInt 64 (n : Int)).toNat : Nat) : Int)
  rw [h, IntKind.wrap_i64]
  omega
structure RdOk (b : List Int) : Prop where
  byte : ∀ y ∈ b, 0 ≤ y ∧ y ≤ 255
  len : b.length ≤ 2000
theorem pick_ok (K : Nat) (b : List Int) (q : Nat) (n : Int) (h : RdOk b) (hq : q ≤ 1000) (hn : 1 ≤ n) : ∃ v : Int, spec_l1Rd_pick.f K ((b, (q : Int)), n, ()) = some ((v, ()), ((b, ((q + 1 : Nat) : Int)), ())) ∧ 0 ≤ v ∧ v < n := by
  have w1 : wr .i64 ((q : Int) + 1) = ((q + 1 : Nat) : Int) := wr_succ q (by omega)
  have w2 : wr .i64 (((q + 1 : Nat) : Int) - 1) = (q : Int) := by rw [wr64 (n := ((q + 1 : Nat) : Int) - 1) (by omega) (by omega)]; omega
  have hl := h.len
  have hn0 : decide (n = 0) = false := decide_eq_false (by omega)
  have mods : ∀ x : Int, 0 ≤ x → 0 ≤ Int.tmod x n ∧ Int.tmod x n < n := fun x hx => ⟨Int.tmod_nonneg _ hx, Int.tmod_lt_of_pos _ (by omega)⟩
  simp only [spec_l1Rd_pick.f, spec_l1Rd_pick.pre]
  rw [decide_eq_false (by omega : ¬ n < 1)]
  simp only [cond_false, w1, w2, hn0]
  by_cases h0 : b.length = 0
  · rw [show ((b.length : Int) == 0) = true by simpa using h0]
    exact ⟨0, rfl, by omega, by omega⟩
  · rw [show ((b.length : Int) == 0) = false by simpa using h0]
    simp only [cond_false]
    by_cases hlt : q < b.length
    · rw [decide_eq_true (by omega : (q : Int) < (b.length : Int)), idx_get hlt]
      simp only [cond_true, Option.bind_some]
      obtain ⟨y0, y1⟩ := h.byte b[q] (List.getElem_mem hlt)
      rw [wr64 (n := b[q]) (by omega) (by omega)]
      exact ⟨_, rfl, mods _ y0⟩
    · rw [decide_eq_false (by omega : ¬ (q : Int) < (b.length : Int)), decide_eq_false (by omega : ¬ (b.length : Int) = 0)]
      simp only [cond_false]
      have t1 : Int.tmod (q : Int) (b.length : Int) = ((q % b.length : Nat) : Int) := by rw [Int.tmod_eq_emod_of_nonneg (by omega)]; rfl
      have t2 : wr .i64 (wr .i64 ((q : Int) * 7) + 3) = ((q * 7 + 3 : Nat) : Int) := by rw [wr64 (n := (q : Int) * 7) (by omega) (by omega), wr64 (n := (q : Int) * 7 + 3) (by omega) (by omega)]; omega
      have t3 : Int.tmod (((q * 7 + 3 : Nat)) : Int) (b.length : Int) = (((q * 7 + 3) % b.length : Nat) : Int) := by rw [Int.tmod_eq_emod_of_nonneg (by omega)]; rfl
      have l1 : q % b.length < b.length := Nat.mod_lt _ (by omega)
      have l2 : (q * 7 + 3) % b.length < b.length := Nat.mod_lt _ (by omega)
      rw [t1, t2, t3, idx_get l1, idx_get l2]
      simp only [Option.bind_some]
      obtain ⟨y0, y1⟩ := h.byte b[q % b.length] (List.getElem_mem l1)
      obtain ⟨z0, z1⟩ := h.byte b[(q * 7 + 3) % b.length] (List.getElem_mem l2)
      generalize b[q % b.length] = y at y0 y1 ⊢
      generalize b[(q * 7 + 3) % b.length] = z at z0 z1 ⊢
      have d1 : 0 ≤ Int.tdiv (q : Int) (b.length : Int) ∧ Int.tdiv (q : Int) (b.length : Int) ≤ q := ⟨Int.tdiv_nonneg (by omega) (by omega), Int.tdiv_le_self _ (by omega)⟩
      generalize Int.tdiv (q : Int) (b.length : Int) = e at d1 ⊢
      have x1 : wr .i64 (wr .i64 (wr .i64 (wr .i64 (wr .i64 y * 131) + wr .i64 (wr .i64 z * 1117)) + wr .i64 ((q : Int) * 29)) + wr .i64 (wr .i64 e * 53)) = y * 131 + z * 1117 + q * 29 + e * 53 := by
        rw [wr64 (n := y) (by omega) (by omega), wr64 (n := z) (by omega) (by omega), wr64 (n := e) (by omega) (by omega), wr64 (n := y * 131) (by omega) (by omega), wr64 (n := z * 1117) (by omega) (by omega), wr64 (n := (q : Int) * 29) (by omega) (by omega), wr64 (n := e * 53) (by omega) (by omega),
          wr64 (n := y * 131 + z * 1117) (by omega) (by omega), wr64 (n := y * 131 + z * 1117 + (q : Int) * 29) (by omega) (by omega), wr64 (n := y * 131 + z * 1117 + (q : Int) * 29 + e * 53) (by omega) (by omega)]
      rw [x1]
      have hx : 0 ≤ y * 131 + z * 1117 + q * 29 + e * 53 ∧ y * 131 + z * 1117 + q * 29 + e * 53 ≤ 1000000 := by omega
      generalize y * 131 + z * 1117 + (q : Int) * 29 + e * 53 = X at hx ⊢
      have d2 : 0 ≤ Int.tdiv X 64 ∧ Int.tdiv X 64 ≤ X := ⟨Int.tdiv_nonneg hx.1 (by omega), Int.tdiv_le_self _ hx.1⟩
      rw [wr64 (n := Int.tdiv X 64) (by omega) (by omega)]
      exact ⟨_, rfl, mods _ (xor_nn hx.1 (by omega) d2.1 (by omega))⟩
theorem put_o (K : Nat) (t : List Fact) (f : Fact) (ht : t.length ≤ 1048576) (hA : Asc (fun g : Fact => g.1) t) (hK : 1048577 < K) : spec_l3Put.f K (t, f, ()) = some (((putOf t f).1, (putOf t f).2, ()), ()) := by
  simp only [spec_l3Put.f, spec_l3Put.pre]
  obtain ⟨o, ho, h1⟩ := find_s K t f.1 ht hK
  rw [h1]
  simp only [Option.bind_some]
  cases ho with
  | at_ i hi e =>
    simp only
    rw [putOf_at hA hi e, decide_eq_true (by omega : ((i : Nat) : Int) ≥ 0), idx_get hi]
    simp only [cond_true, Option.bind_some, Int.toNat_natCast, idx_get hi]
    rw [show spec_l3Over.f K (f, t[i], ()) = _ from over_b K f t[i]]
    simp only [Option.bind_some]
    by_cases ho : Over f t[i]
    · rw [decide_eq_true ho, if_pos ho]
      simp only [Bool.not_true, cond_false]
      rw [szb _ _ _ (by omega) (by show (List.length ([] : List Fact)) + t.length ≤ _; simp; omega)]
      simp only [cond_true, List.nil_append, idx_get hi, Option.bind_some, Int.toNat_natCast]
      rw [putL_set (k := fun g : Fact => g.1) hA hi e]
    · rw [decide_eq_false ho, if_neg ho]
      rfl
  | no h =>
    simp only
    rw [putOf_no h, decide_eq_false (by omega : ¬ (-1 : Int) ≥ 0)]
    simp only [cond_false]
    have fit : ∀ m : Nat, m ≤ t.length → (bif decide ((0 : Int) ≤ 0) && decide ((0 : Int) ≤ (m : Int)) && decide ((m : Int) ≤ (List.length t : Int)) && true then (bif decide ((List.length ([] : List Fact) + List.length ((t.take (Int.toNat (m : Int))).drop (Int.toNat 0))) * 32 ≤ sizeK) then (bif decide ((List.length ([] ++ ((t.take (Int.toNat (m : Int))).drop (Int.toNat 0))) + List.length ([f])) * 32 ≤ sizeK) then (bif decide ((0 : Int) ≤ (m : Int)) && decide ((m : Int) ≤ (List.length t : Int)) && decide ((List.length t : Int) ≤ (List.length t : Int)) && true then (bif decide ((List.length (([] ++ ((t.take (Int.toNat (m : Int))).drop (Int.toNat 0))) ++ ([f])) + List.length ((t.take (Int.toNat (List.length t : Int))).drop (Int.toNat (m : Int)))) * 32 ≤ sizeK) then (some (((([] ++ ((t.take (Int.toNat (m : Int))).drop (Int.toNat 0))) ++ ([f])) ++ ((t.take (Int.toNat (List.length t : Int))).drop (Int.toNat (m : Int))), true, ()), ())) else none) else none) else none) else none) else (none : Option ((List Fact × Bool × Unit) × Unit))) = some ((t.take m ++ [f] ++ t.drop m, true, ()), ()) := by
      intro m hm
      rw [decide_eq_true (by omega : (0 : Int) ≤ 0), decide_eq_true (by omega : (0 : Int) ≤ (m : Int)), decide_eq_true (by omega : (m : Int) ≤ (List.length t : Int)), decide_eq_true (by omega : (List.length t : Int) ≤ (List.length t : Int))]
      simp only [Int.toNat_natCast, Int.toNat_zero, List.drop_zero, List.nil_append, List.take_length, Bool.and_self, cond_true]
      have h1 : (t.take m).length = m := by rw [List.length_take]; omega
      have h2 : (t.drop m).length = t.length - m := List.length_drop
      rw [szb _ _ _ (by omega) (by simp only [List.length_nil]; omega), szb _ _ _ (by omega) (by simp only [List.length_cons, List.length_nil]; omega), szb _ _ _ (by omega) (by simp only [List.length_append, List.length_cons, List.length_nil]; omega)]
      rfl
    have := iter_first (step := fun rec a => spec_l3Put.l0.step K (t, f, ()) rec a) t.length (fun i => (i : Int)) (fun j => ∃ h : j < t.length, ¬ t[j].1 < f.1) (some ((t.take t.length ++ [f] ++ t.drop t.length, true, ()), ())) (fun j => some ((t.take j ++ [f] ++ t.drop j, true, ()), ())) ?_ ?_ t.length K 0 (by omega) (by omega)
    · have fin : ∀ m, m ≤ t.length → (∀ i, (hi : i < t.length) → i < m → t[i].1 < f.1) → (∀ i, (hi : i < t.length) → m ≤ i → f.1 < t[i].1) → t.take m ++ [f] ++ t.drop m = putL (fun g => g.1) f t := fun m hm lo hi => putL_ins (k := fun g : Fact => g.1) hm lo hi
      rcases this with ⟨h1, h2⟩ | ⟨j, _, h1, ⟨h3, h4⟩, h5, h2⟩
      · rw [fin t.length (Nat.le_refl _) (fun i hi _ => by
          have := h1 i (Nat.zero_le _) hi
          exact Classical.not_not.1 fun h => this ⟨hi, h⟩) (fun i hi h => by omega)] at h2
        exact h2
      · rw [fin j (by omega) (fun i hi hij => by
          have := h5 i (Nat.zero_le _) hij
          exact Classical.not_not.1 fun h => this ⟨hi, h⟩) (fun i hi hij => by
          have hne := h t[i] (List.getElem_mem hi)
          rcases Nat.lt_or_eq_of_le hij with h6 | h6
          · have := asc_get.1 hA j i h3 hi h6
            omega
          · subst h6; omega)] at h2
        exact h2
    · intro rec i hi
      simp only [spec_l3Put.l0.step]
      rw [decLt (by omega : (i : Int) < (List.length t : Int)), idx_get hi, wr_succ i (by omega)]
      simp only [cond_true, Option.bind_some]
      rw [show idx t ((Int.toNat (i : Int) : Nat) : Int) = some t[i] by rw [Int.toNat_natCast]; exact idx_get hi]
      simp only [Option.bind_some]
      by_cases hlt : t[i].1 < f.1
      · exact .inl ⟨fun ⟨_, h⟩ => h hlt, by rw [decide_eq_true hlt]; rfl⟩
      · exact .inr ⟨⟨hi, hlt⟩, by rw [decide_eq_false hlt]; exact fit i (by omega)⟩
    · intro rec
      simp only [spec_l3Put.l0.step, decNl, cond_false]
      exact fit t.length (Nat.le_refl _)
theorem idx3 {a b c v : Int} (h0 : 0 ≤ v) (h1 : v < 3) : ∃ y, idx [a, b, c] v = some y ∧ idx [a, b, c] ((Int.toNat v : Nat) : Int) = some y ∧ (y = a ∨ y = b ∨ y = c) := by
  have : v = 0 ∨ v = 1 ∨ v = 2 := by omega
  rcases this with rfl | rfl | rfl
  · exact ⟨a, rfl, rfl, .inl rfl⟩
  · exact ⟨b, rfl, rfl, .inr (.inl rfl)⟩
  · exact ⟨c, rfl, rfl, .inr (.inr rfl)⟩
theorem idx2 {α : Type} {a b : α} {v : Int} (h0 : 0 ≤ v) (h1 : v < 2) : ∃ y, idx [a, b] v = some y ∧ idx [a, b] ((Int.toNat v : Nat) : Int) = some y := by
  have : v = 0 ∨ v = 1 := by omega
  rcases this with rfl | rfl
  · exact ⟨a, rfl, rfl⟩
  · exact ⟨b, rfl, rfl⟩
theorem fact_ok (K : Nat) (b : List Int) (q : Nat) (site : Int) (h : RdOk b) (hq : q ≤ 900) (h0 : 0 ≤ site) (h1 : site ≤ 1) : ∃ f : Fact, spec_l61Fact.f K ((b, (q : Int)), site, ()) = some ((f, ()), ((b, ((q + 5 : Nat) : Int)), ())) ∧ FactP f := by
  simp only [spec_l61Fact.f, spec_l61Fact.pre]
  obtain ⟨v1, e1, a1, b1⟩ := pick_ok K b q 4 h (by omega) (by omega)
  obtain ⟨v2, e2, a2, b2⟩ := pick_ok K b (q + 1) 3 h (by omega) (by omega)
  obtain ⟨v3, e3, a3, b3⟩ := pick_ok K b (q + 1 + 1) 12 h (by omega) (by omega)
  obtain ⟨v4, e4, a4, b4⟩ := pick_ok K b (q + 1 + 1 + 1) 3 h (by omega) (by omega)
  obtain ⟨v5, e5, a5, b5⟩ := pick_ok K b (q + 1 + 1 + 1 + 1) 4 h (by omega) (by omega)
  obtain ⟨y, i1, i2, i3⟩ := idx3 (a := v2) (b := v3) (c := 999) a4 b4
  rw [e1]
  simp only [Option.bind_some]
  rw [e2]
  simp only [Option.bind_some]
  rw [e3]
  simp only [Option.bind_some]
  rw [e4]
  simp only [Option.bind_some]
  rw [i1, i2]
  simp only [Option.bind_some]
  rw [e5]
  simp only [Option.bind_some, spec_l51Gate.f, spec_l51Gate.pre]
  rw [wr64 (n := site * 4) (by omega) (by omega), wr64 (n := site * 4 + v1) (by omega) (by omega), wr64 (n := 1 + v5) (by omega) (by omega)]
  refine ⟨_, rfl, ?_, ?_, ?_⟩
  · exact ⟨show (0 : Int) ≤ site * 4 + v1 by omega, show site * 4 + v1 ≤ 7 by omega⟩
  · exact ⟨show (0 : Int) ≤ y by omega, show y ≤ 999 by omega⟩
  · exact ⟨show (1 : Int) ≤ 1 + v5 by omega, show 1 + v5 ≤ 4 by omega⟩
theorem anyFact_ok (K : Nat) (b : List Int) (q : Nat) (h : RdOk b) (hq : q ≤ 800) : ∃ f : Fact, ∃ q' : Nat, spec_l61AnyFact.f K ((b, (q : Int)), ()) = some ((f, ()), ((b, (q' : Int)), ())) ∧ q' ≤ q + 8 := by
  simp only [spec_l61AnyFact.f, spec_l61AnyFact.pre]
  obtain ⟨v1, e1, a1, b1⟩ := pick_ok K b q 2 h (by omega) (by omega)
  obtain ⟨f, e2, _⟩ := fact_ok K b (q + 1) v1 h (by omega) a1 (by omega)
  obtain ⟨v3, e3, a3, b3⟩ := pick_ok K b (q + 1 + 5) 12 h (by omega) (by omega)
  obtain ⟨v4, e4, a4, b4⟩ := pick_ok K b (q + 1 + 5 + 1) 2 h (by omega) (by omega)
  rw [e1]
  simp only [Option.bind_some]
  rw [e2]
  simp only [Option.bind_some]
  rw [e3]
  simp only [Option.bind_some]
  rw [e4]
  simp only [Option.bind_some]
  obtain ⟨y1, i1, i2⟩ := idx2 (a := (-1 : Int)) (b := 8) a4 b4
  obtain ⟨y2, i3, i4⟩ := idx2 (a := (-1 : Int)) (b := 1000) a4 b4
  obtain ⟨y3, i5, i6⟩ := idx2 (a := (0 : Int)) (b := 5) a4 b4
  rw [i1, i2, i3, i4, i5, i6]
  simp only [Option.bind_some]
  cases v3 == 0 with
  | true => exact ⟨_, q + 1 + 5 + 1 + 1, rfl, by omega⟩
  | false =>
    cases v3 == 1 with
    | true => exact ⟨_, q + 1 + 5 + 1 + 1, rfl, by omega⟩
    | false =>
      cases v3 == 2 with
      | true => exact ⟨_, q + 1 + 5 + 1 + 1, rfl, by omega⟩
      | false =>
        cases v3 == 3 with
        | true => exact ⟨_, q + 1 + 5 + 1, rfl, by omega⟩
        | false => exact ⟨_, q + 1 + 5 + 1, rfl, by omega⟩
theorem table_ok (K : Nat) (b : List Int) (x : Args spec_l61Table.ps) (hx : x.2.1 = -1) (h : RdOk b) (hK : 1048577 < K) : ∀ (m k q : Nat) (t : List Fact), m < k → TableP t → t.length + m ≤ 6 → q + 6 * m ≤ 800 →
    ∃ t' : List Fact, ∃ q' : Nat, iterate (fun rec a => spec_l61Table.l0.step K x rec a) k (t, (m : Int), b, (q : Int)) = some ((t', ()), ((b, (q' : Int)), ())) ∧ TableP t' ∧ t'.length ≤ 6 ∧ q' ≤ q + 6 * m := by
  intro m
  induction m with
  | zero =>
    intro k q t hk hT hl hq
    obtain ⟨k, rfl⟩ : ∃ k', k = k' + 1 := ⟨k - 1, by omega⟩
    exact ⟨t, q, rfl, hT, by omega, by omega⟩
  | succ m ih =>
    intro k q t hk hT hl hq
    obtain ⟨k, rfl⟩ : ∃ k', k = k' + 1 := ⟨k - 1, by omega⟩
    have ih' : ∀ (q : Nat) (t : List Fact), TableP t → t.length + m ≤ 6 → q + 6 * m ≤ 800 →
        ∃ t' : List Fact, ∃ q' : Nat, iterate (fun rec a => spec_l61Table.l0.step K x rec a) k (t, (m : Int), b, (q : Int)) = some ((t', ()), ((b, (q' : Int)), ())) ∧ TableP t' ∧ t'.length ≤ 6 ∧ q' ≤ q + 6 * m := fun q t h1 h2 h3 => ih k q t (by omega) h1 h2 h3
    show ∃ t' : List Fact, ∃ q' : Nat, spec_l61Table.l0.step K x (iterate (fun rec a => spec_l61Table.l0.step K x rec a) k) (t, ((m + 1 : Nat) : Int), b, (q : Int)) = _ ∧ _
    generalize iterate (fun rec a => spec_l61Table.l0.step K x rec a) k = REC at ih' ⊢
    simp only [spec_l61Table.l0.step]
    rw [decide_eq_true (by omega : ((m + 1 : Nat) : Int) > 0), hx]
    obtain ⟨v1, e1, a1, b1⟩ := pick_ok K b q 2 h (by omega) (by omega)
    obtain ⟨f, e2, hf⟩ := fact_ok K b (q + 1) v1 h (by omega) a1 (by omega)
    simp only [cond_true, show decide ((-1 : Int) < 0) = true from rfl]
    rw [e1]
    simp only [Option.bind_some]
    rw [e2]
    simp only [Option.bind_some]
    rw [put_o K t f (by omega) hT.2 hK]
    simp only [Option.bind_some]
    rw [show wr .i64 (((m + 1 : Nat) : Int) - 1) = (m : Int) by rw [wr64 (by omega) (by omega)]; omega]
    have hlen : (putOf t f).1.length ≤ t.length + 1 := by
      rcases putOf_cases t f with e | e
      · rw [e]; omega
      · rw [e]; exact putL_len
    obtain ⟨t', q', h1, h2, h3, h4⟩ := ih' (q + 1 + 5) (putOf t f).1 (putOf_ok hT hf) (by omega) (by omega)
    exact ⟨t', q', h1, h2, h3, by omega⟩
theorem anyTable_ok (K : Nat) (b : List Int) (q : Nat) (h : RdOk b) (hq : q ≤ 300) (hK : 1048577 < K) : ∃ t : List Fact, ∃ q' : Nat, spec_l61AnyTable.f K ((b, (q : Int)), ()) = some ((t, ()), ((b, (q' : Int)), ())) ∧ t.length ≤ 7 ∧ q' ≤ q + 60 := by
  simp only [spec_l61AnyTable.f, spec_l61AnyTable.pre]
  obtain ⟨v, e, a0, b0⟩ := pick_ok K b q 6 h (by omega) (by omega)
  obtain ⟨m, rfl⟩ := Int.eq_ofNat_of_zero_le a0
  obtain ⟨t, q1, e1, hT, hl, hq1⟩ := table_ok K b ((b, (q : Int)), -1, ()) rfl h hK m K (q + 1) [] (by omega) ⟨by simp, List.Pairwise.nil⟩ (by simp; omega) (by omega)
  have ht : spec_l61Table.f K ((b, (q : Int)), -1, ()) = some ((t, ()), ((b, (q1 : Int)), ())) := by
    simp only [spec_l61Table.f, spec_l61Table.pre]
    rw [e]
    exact e1
  rw [ht]
  simp only [Option.bind_some]
  by_cases h0 : t.length = 0
  · rw [decide_eq_false (by omega : ¬ (t.length : Int) > 0)]
    exact ⟨t, q1, rfl, by omega, by omega⟩
  · rw [decide_eq_true (by omega : (t.length : Int) > 0)]
    simp only [cond_true]
    obtain ⟨v2, e2, a2, b2⟩ := pick_ok K b q1 12 h (by omega) (by omega)
    rw [e2]
    simp only [Option.bind_some]
    cases v2 == 0 with
    | false => exact ⟨t, q1 + 1, rfl, by omega, by omega⟩
    | true =>
      simp only [cond_true]
      obtain ⟨v3, e3, a3, b3⟩ := pick_ok K b (q1 + 1) (t.length : Int) h (by omega) (by omega)
      obtain ⟨i, rfl⟩ := Int.eq_ofNat_of_zero_le a3
      have hi : i < t.length := by omega
      obtain ⟨v4, e4, a4, b4⟩ := pick_ok K b (q1 + 1 + 1) 3 h (by omega) (by omega)
      obtain ⟨f, q2, e5, hq2⟩ := anyFact_ok K b (q1 + 1 + 1 + 1) h (by omega)
      rw [e3]
      simp only [Option.bind_some]
      rw [e4]
      simp only [Option.bind_some]
      rw [e5]
      simp only [Option.bind_some]
      rw [idx_get hi, Int.toNat_natCast, idx_get hi]
      simp only [Option.bind_some]
      cases v4 == 0 with
      | true => exact ⟨_, q2, rfl, by rw [List.length_set]; omega, by omega⟩
      | false =>
        cases v4 == 1 with
        | true =>
          simp only [cond_true, cond_false]
          rw [szb _ _ _ (by omega) (by simp; omega)]
          exact ⟨_, q1 + 1 + 1 + 1, rfl, by simp; omega, by omega⟩
        | false => exact ⟨_, q1 + 1 + 1 + 1, rfl, by rw [List.length_set]; omega, by omega⟩
def putAll (t : List Fact) (fs : List Fact) : List Fact := fs.foldl (fun t f => (putOf t f).1) t
theorem putAll_ok : ∀ {fs t : List Fact}, TableP t → (∀ f ∈ fs, FactP f) → TableP (putAll t fs)
  | [], _, h, _ => h
  | f :: fs, t, h, hf => putAll_ok (fs := fs) (putOf_ok h (hf f (by simp))) (fun g hg => hf g (by simp [hg]))
theorem tlen {t : List Fact} (h : TableP t) : t.length ≤ 1048576 := Nat.le_trans (len8 h.2 (fun g hg => (h.1 g hg).1)) (by decide)
theorem putAll_loop {R : Type} (a fs : List Fact) (ha : TableP a) (hf : ∀ f ∈ fs, FactP f) (fin : List Fact → Option R) {step : (List Fact × Int → Option R) → List Fact × Int → Option R}
    (h : ∀ (rec : List Fact × Int → Option R) (t : List Fact) (i : Nat) (hi : i < fs.length), TableP t → step rec (t, (i : Int)) = rec ((putOf t fs[i]).1, ((i + 1 : Nat) : Int)))
    (hend : ∀ (rec : List Fact × Int → Option R) (t : List Fact), step rec (t, (fs.length : Int)) = fin t) {k : Nat} (hk : fs.length < k) : iterate step k (a, 0) = fin (putAll a fs) := by
  have : ∀ (d i k : Nat) (t : List Fact), i + d = fs.length → d < k → TableP t → iterate step k (t, (i : Int)) = fin (putAll t (fs.drop i)) := by
    intro d
    induction d with
    | zero =>
      intro i k t hi hk _
      obtain ⟨k, rfl⟩ : ∃ k', k = k' + 1 := ⟨k - 1, by omega⟩
      have : i = fs.length := by omega
      subst this
      show step (iterate step k) _ = _
      rw [hend, List.drop_length]
      rfl
    | succ d ih =>
      intro i k t hi hk ht
      obtain ⟨k, rfl⟩ : ∃ k', k = k' + 1 := ⟨k - 1, by omega⟩
      have hlt : i < fs.length := by omega
      show step (iterate step k) _ = _
      rw [h _ _ _ hlt ht, List.drop_eq_getElem_cons hlt]
      exact ih (i + 1) k _ (by omega) (by omega) (putOf_ok ht (hf _ (List.getElem_mem hlt)))
  have := this fs.length 0 k a (by omega) hk ha
  rwa [List.drop_zero] at this
theorem join_s (K : Nat) (a b : List Fact) (ha : a.length ≤ 1048576) (hb : b.length ≤ 1048576) (hK : 1048577 < K) : ∃ r : List Fact, spec_TableJoin.f K (a, b, ()) = some ((r, ()), ()) ∧ r.length ≤ 1048576 := by
  simp only [spec_TableJoin.f, spec_TableJoin.pre]
  obtain ⟨b1, s1, s2⟩ := tableOk_s K a ha hK
  obtain ⟨b2, s3, s4⟩ := tableOk_s K b hb hK
  rw [s1, s3]
  cases b1 with
  | false => exact ⟨[], rfl, by simp⟩
  | true =>
    cases b2 with
    | false => exact ⟨[], rfl, by simp⟩
    | true =>
      have hA := s2.1 rfl
      have hB := s4.1 rfl
      simp only [Option.bind_some, Bool.not_true, cond_false]
      rw [szb _ _ _ (by omega) (by show (List.length ([] : List Fact)) + a.length ≤ _; simp; omega)]
      refine ⟨putAll a b, ?_, tlen (putAll_ok hA hB.1)⟩
      simp only [cond_true, List.nil_append]
      refine putAll_loop a b hA hB.1 (step := fun rec x => spec_TableJoin.l0.step K (a, b, ()) rec x) (fun t => some ((t, ()), ())) ?_ ?_ (by omega)
      · intro rec t i hi ht
        simp only [spec_TableJoin.l0.step]
        rw [decLt (by omega : (i : Int) < (List.length b : Int)), idx_get hi, wr_succ i (by omega)]
        simp only [cond_true, Option.bind_some]
        rw [put_o K t _ (tlen ht) ht.2 hK]
        rfl
      · intro rec t
        simp only [spec_TableJoin.l0.step, decNl]
        rfl
theorem join_i (K : Nat) (a b : List Fact) (hA : TableP a) (hB : TableP b) (hK : 1048577 < K) : impl_TableJoin.f K (a, b, ()) = some ((putAll a b, ()), ()) := by
  simp only [impl_TableJoin.f, impl_TableJoin.pre, m_slices_Clone_impl_Fact_impl_Fact.f]
  obtain ⟨b1, s1, s2⟩ := tableOk_i K a (tlen hA) hK
  obtain ⟨b2, s3, s4⟩ := tableOk_i K b (tlen hB) hK
  have e1 := s2.2 hA
  have e2 := s4.2 hB
  subst e1 e2
  have hbl := tlen hB
  rw [s1, s3]
  simp only [Option.bind_some, Bool.not_true, cond_false]
  rw [clone_ok (by have := tlen hA; omega)]
  simp only [Option.bind_some]
  refine putAll_loop a b hA hB.1 (step := fun rec x => impl_TableJoin.l0.step K (a, b, ()) rec x) (fun t => some ((t, ()), ())) ?_ ?_ (by omega)
  · intro rec t i hi ht
    simp only [impl_TableJoin.l0.step]
    rw [decLt (by omega : (i : Int) < (List.length b : Int)), idx_get hi, wr_succ i (by omega)]
    simp only [cond_true, Option.bind_some]
    rw [put_i K t _ (tlen ht) ht.2 hK]
    rfl
  · intro rec t
    simp only [impl_TableJoin.l0.step, decNl]
    rfl
theorem draw_ok (K : Nat) (code : List Int) (hb : ∀ y ∈ code, 0 ≤ y ∧ y ≤ 255) (hl : code.length ≤ 9223372036854775807) (hK : 1048577 < K) : ∃ a b : List Fact, spec_DrawViewNews.f K (code, ()) = some ((a, b, ()), ()) ∧ a.length ≤ 1048576 ∧ b.length ≤ 1048576 := by
  have hopen : ∃ bs : List Int, RdOk bs ∧ spec_l1Open.f K (code, ()) = some (((bs, (0 : Int)), ()), ()) := by
    simp only [spec_l1Open.f, spec_l1Open.pre]
    by_cases h : (code.length : Int) > 2000
    · rw [decide_eq_true h, decide_eq_true (by omega : (2000 : Int) ≤ (code.length : Int))]
      exact ⟨(code.take 2000).drop 0, ⟨fun y hy => hb y (List.mem_of_mem_take (by simpa using hy)), by simp; omega⟩, rfl⟩
    · rw [decide_eq_false h]
      exact ⟨code, ⟨hb, by omega⟩, rfl⟩
  obtain ⟨bs, hR, e0⟩ := hopen
  simp only [spec_DrawViewNews.f, spec_DrawViewNews.pre]
  rw [e0]
  simp only [Option.bind_some]
  obtain ⟨a, q1, e1, hla, hq1⟩ := anyTable_ok K bs 0 hR (by omega) hK
  rw [show spec_l61AnyTable.f K ((bs, (0 : Int)), ()) = _ from e1]
  simp only [Option.bind_some]
  obtain ⟨b, q2, e2, hlb, hq2⟩ := anyTable_ok K bs q1 hR (by omega) hK
  rw [e2]
  simp only [Option.bind_some]
  obtain ⟨v, e3, _, _⟩ := pick_ok K bs q2 2 hR (by omega) (by omega)
  rw [e3]
  simp only [Option.bind_some]
  obtain ⟨r, e4, hr⟩ := join_s K a b (by omega) (by omega) hK
  rw [e4]
  cases v == 0 with
  | true => exact ⟨a, r, rfl, by omega, hr⟩
  | false => exact ⟨a, b, rfl, by omega, by omega⟩
theorem over_self (f : Fact) : ¬ Over f f := by
  unfold Over
  simp
theorem putAll_news (a : List Fact) : ∀ (b t : List Fact), Asc (fun f : Fact => f.1) b → Asc (fun f : Fact => f.1) t → (∀ f ∈ b, ∀ g : Fact, g.1 = f.1 → (g ∈ t ↔ g ∈ a)) → putAll t (b.filter (newB a)) = putAll t b
  | [], _, _, _, _ => rfl
  | f :: b, t, hb, ht, h => by
    have hb' := (List.pairwise_cons.1 hb).2
    have hlt := (List.pairwise_cons.1 hb).1
    by_cases hf : f ∈ a
    · have hft : f ∈ t := (h f (by simp) f rfl).2 hf
      obtain ⟨i, hi, e⟩ := List.getElem_of_mem hft
      have hp : (putOf t f).1 = t := by
        rw [putOf_at ht hi (by rw [e]), e, if_neg (over_self f)]
      rw [List.filter_cons, if_neg (by unfold newB; rw [decide_eq_true hf]; simp)]
      show _ = putAll (putOf t f).1 b
      rw [hp]
      exact putAll_news a b t hb' ht (fun f' hf' => h f' (by simp [hf']))
    · rw [List.filter_cons, if_pos (by unfold newB; rw [decide_eq_false hf]; rfl)]
      show putAll (putOf t f).1 _ = putAll (putOf t f).1 b
      refine putAll_news a b _ hb' ?_ fun f' hf' g hg => ?_
      · rcases putOf_cases t f with e | e
        · rw [e]; exact ht
        · rw [e]; exact putL_asc ht
      · have hne : f.1 < f'.1 := hlt f' hf'
        have hg : g.1 = f'.1 := hg
        have h0 := h f' (by simp [hf']) g hg
        rcases putOf_cases t f with e | e
        · rw [e]; exact h0
        · rw [e, mem_putL, ← h0]
          constructor
          · rintro (h1 | ⟨h1, _⟩)
            · rw [h1] at hg; omega
            · exact h1
          · exact fun h1 => .inr ⟨h1, by show g.1 ≠ f.1; omega⟩
theorem viewNews_cases (K : Nat) (old now : List Fact) (ho : old.length ≤ 1048576) (hn : now.length ≤ 1048576) (hK : 1048577 < K) :
    ∃ r : List Item, ((TableP old ∧ TableP now ∧ r = newsOf old now) ∨ (¬ (TableP old ∧ TableP now) ∧ r = [])) ∧ spec_ViewNews.f K (old, now, ()) = some ((r, ()), ()) ∧ impl_ViewNews.f K (old, now, ()) = some ((r, ()), ()) := by
  obtain ⟨b1, s1, s2⟩ := tableOk_s K old ho hK
  obtain ⟨b2, i1, i2⟩ := tableOk_i K old ho hK
  obtain ⟨b3, s3, s4⟩ := tableOk_s K now hn hK
  obtain ⟨b4, i3, i4⟩ := tableOk_i K now hn hK
  have e1 : b2 = b1 := by rw [Bool.eq_iff_iff, s2, i2]
  have e2 : b4 = b3 := by rw [Bool.eq_iff_iff, s4, i4]
  subst e1 e2
  simp only [spec_ViewNews.f, spec_ViewNews.pre, impl_ViewNews.f, impl_ViewNews.pre]
  rw [s1, i1]
  cases b2 with
  | false => exact ⟨[], .inr ⟨fun h => by have := s2.2 h.1; simp at this, rfl⟩, rfl, rfl⟩
  | true =>
    simp only [Option.bind_some, Bool.not_true, cond_false]
    rw [s3, i3]
    cases b4 with
    | false => exact ⟨[], .inr ⟨fun h => by have := s4.2 h.2; simp at this, rfl⟩, rfl, rfl⟩
    | true =>
      simp only [Option.bind_some, Bool.not_true, cond_false]
      exact ⟨newsOf old now, .inl ⟨s2.1 rfl, s4.1 rfl, rfl⟩, news_loop_s K old now ho hn (s2.1 rfl) hK, news_loop_i K old now ho hn (s2.1 rfl) hK⟩
theorem news_self (a : List Fact) : newsOf a a = [] := by
  unfold newsOf
  rw [List.filter_eq_nil_iff.2 (fun f hf => by unfold newB; rw [decide_eq_true hf]; simp)]
  rfl
theorem tablePut_i (K : Nat) (t : List Fact) (f : Fact) (hT : TableP t) (hf : FactP f) (hK : 1048577 < K) : impl_TablePut.f K (t, f, ()) = some (((putOf t f).1, (putOf t f).2, ()), ()) := by
  simp only [impl_TablePut.f, impl_TablePut.pre]
  obtain ⟨b1, e1, e2⟩ := tableOk_i K t (tlen hT) hK
  have h1 := e2.2 hT
  subst h1
  obtain ⟨b2, e3, e4⟩ := factOk_i K f
  have h2 := e4.2 hf
  subst h2
  rw [e1]
  simp only [Option.bind_some, Bool.not_true, cond_false]
  rw [e3]
  simp only [Option.bind_some, Bool.not_true, cond_false]
  rw [put_i K t f (tlen hT) hT.2 hK]
  rfl
theorem lhFacts_refl (K : Nat) (xs : List Fact) (hx : xs.length ≤ 1048576) (hK : 1048577 < K) : laws_lhFacts.f K (xs, xs, ()) = rb true := by
  have hl : laws_lhFacts.l0 K (xs, xs, ()) 0 = rb true := by
    refine iter_go (step := fun rec a => laws_lhFacts.l0.step K (xs, xs, ()) rec a) xs.length (fun i => (i : Int)) (rb true) ?_ ?_ (by omega)
    · intro rec i hi
      simp only [laws_lhFacts.l0.step]
      rw [decide_eq_true (by omega : (i : Int) < (List.length xs : Int)), idx_get hi, wr_succ i (by omega)]
      simp only [cond_true, Option.bind_some]
      rw [show Ty.eqv t2 xs[i] xs[i] = decide (xs[i] = xs[i]) from eqv_t2 _ _, decide_eq_true rfl]
      rfl
    · intro rec
      simp only [laws_lhFacts.l0.step, decNl]
      rfl
  simp only [laws_lhFacts.f, laws_lhFacts.pre, bne_self_eq_false, cond_false]
  exact hl
theorem told_loop (K : Nat) (x : Args laws_FnViewNews.ps) (a b : List Fact) (r : List Item) (ha : a.length ≤ 1048576) (hb : b.length ≤ 1048576) (hr : (TableP a ∧ TableP b ∧ r = newsOf a b) ∨ (¬ (TableP a ∧ TableP b) ∧ r = [])) (hK : 1048577 < K) :
    laws_FnViewNews.l0 K x (a, b, r, r, a, 0) = some ((true, ()), ()) := by
  have hrl : r.length ≤ 1048576 := by
    rcases hr with ⟨_, _, rfl⟩ | ⟨_, rfl⟩
    · unfold newsOf
      rw [List.length_map]
      exact Nat.le_trans (List.length_filter_le _ _) hb
    · simp
  refine iter_go (step := fun rec a => laws_FnViewNews.l0.step K x rec a) r.length (fun i => (a, b, r, r, putAll a ((r.take i).map (·.1)), (i : Int))) (some ((true, ()), ())) ?_ ?_ (by omega)
  · intro rec i hi
    have hok : TableP a ∧ TableP b ∧ r = newsOf a b := by
      rcases hr with h | ⟨_, rfl⟩
      · exact h
      · simp at hi
    obtain ⟨hA, hB, hre⟩ := hok
    have hmem : r[i].1 ∈ b ∧ r[i].1 ∉ a ∧ r[i].2 = wasOf a r[i].1 := by
      have h1 : r[i] ∈ newsOf a b := hre ▸ List.getElem_mem hi
      unfold newsOf at h1
      obtain ⟨f, hf, e⟩ := List.mem_map.1 h1
      obtain ⟨h2, h3⟩ := List.mem_filter.1 hf
      rw [← e]
      refine ⟨h2, fun h4 => ?_, rfl⟩
      unfold newB at h3
      rw [decide_eq_true h4] at h3
      simp at h3
    obtain ⟨hfb, hfa, hwas⟩ := hmem
    have hX : TableP (putAll a ((r.take i).map (·.1))) := by
      refine putAll_ok hA fun f hf => ?_
      obtain ⟨y, hy, rfl⟩ := List.mem_map.1 hf
      have h1 : y ∈ newsOf a b := hre ▸ List.mem_of_mem_take hy
      unfold newsOf at h1
      obtain ⟨g, hg, e⟩ := List.mem_map.1 h1
      rw [← e]
      exact hB.1 g (List.mem_filter.1 hg).1
    have hnext : putAll a ((r.take (i + 1)).map (·.1)) = (putOf (putAll a ((r.take i).map (·.1))) r[i].1).1 := by
      rw [List.take_succ_eq_append_getElem hi, List.map_append]
      unfold putAll
      rw [List.foldl_append]
      rfl
    have hput := tablePut_i K (putAll a ((r.take i).map (·.1))) r[i].1 hX (hB.1 _ hfb) hK
    simp only [hnext]
    generalize putAll a ((r.take i).map (·.1)) = X at hput ⊢
    simp only [laws_FnViewNews.l0.step]
    rw [decLt (by omega : (i : Int) < (List.length r : Int)), idx_get hi, wr_succ i (by omega)]
    simp only [cond_true, Option.bind_some]
    rw [show Ty.eqv t3 r[i] r[i] = true by
      show (Ty.eqv t2 r[i].1 r[i].1 && decide ((r[i].2 : Int) = r[i].2)) = true
      rw [show Ty.eqv t2 r[i].1 r[i].1 = decide (r[i].1 = r[i].1) from eqv_t2 _ _]
      simp]
    simp only [Bool.not_true, cond_false]
    rw [hput]
    simp only [Option.bind_some]
    rcases tableOf_i K a r[i].1.1 ha hK with ⟨h, _⟩ | ⟨_, ⟨g, hg, e, h⟩ | ⟨h0, h⟩⟩
    · exact absurd hA h
    · rw [h]
      simp only [Option.bind_some, cond_true, Bool.not_true, cond_false]
      rw [show Ty.eqv t2 g r[i].1 = decide (g = r[i].1) from eqv_t2 _ _, decide_eq_false (fun hh : g = r[i].1 => hfa (hh ▸ hg)), hwas, wasOf_at hA.2 hg e]
      simp
    · rw [h]
      simp only [Option.bind_some, cond_true, Bool.not_false, cond_false]
      rw [hwas, wasOf_no h0]
      simp
  · intro rec
    simp only [laws_FnViewNews.l0.step, decNl, List.take_length]
    obtain ⟨b1, s1, s2⟩ := tableOk_s K a ha hK
    obtain ⟨b2, s3, s4⟩ := tableOk_s K b hb hK
    rw [s1]
    cases b1 with
    | false => rfl
    | true =>
      simp only [Option.bind_some, Bool.not_true, cond_false]
      rw [s3]
      cases b2 with
      | false => rfl
      | true =>
        have hA := s2.1 rfl
        have hB := s4.1 rfl
        simp only [Option.bind_some, Bool.not_true, cond_false]
        rw [join_i K a b hA hB hK]
        have hrr : r = newsOf a b := by
          rcases hr with ⟨_, _, h⟩ | ⟨h, _⟩
          · exact h
          · exact absurd ⟨hA, hB⟩ h
        have hm : r.map (·.1) = b.filter (newB a) := by
          rw [hrr, newsOf, List.map_map]
          exact List.map_id _
        rw [hm, putAll_news a b a hB.2 hA.2 (fun _ _ _ _ => Iff.rfl)]
        simp only [Option.bind_some]
        rw [lhFacts_refl K _ (tlen (putAll_ok hA hB.1)) hK]
        rfl
theorem law_FnViewNews (K : Nat) (code : List Int) (hb : ∀ y ∈ code, 0 ≤ y ∧ y ≤ 255) (hl : code.length ≤ 9223372036854775807) (hK : 1048577 < K) : laws_FnViewNews.f K (code, ()) = some ((true, ()), ()) := by
  simp only [laws_FnViewNews.f, laws_FnViewNews.pre]
  by_cases h : (code.length : Int) > 1048576
  · rw [decide_eq_true h]; rfl
  · rw [decide_eq_false h]
    simp only [cond_false]
    obtain ⟨a, b, e0, ha, hb'⟩ := draw_ok K code hb hl hK
    rw [e0]
    simp only [Option.bind_some]
    obtain ⟨r, hr, e1, e2⟩ := viewNews_cases K a b ha hb' hK
    obtain ⟨r0, hr0, _, e3⟩ := viewNews_cases K a a ha ha hK
    have hr0' : r0 = [] := by
      rcases hr0 with ⟨_, _, h⟩ | ⟨_, h⟩
      · rw [h, news_self]
      · exact h
    subst hr0'
    rw [e1, e2, e3]
    simp only [Option.bind_some, bne_self_eq_false, cond_false]
    obtain ⟨b1, s1, s2⟩ := tableOk_s K a ha hK
    obtain ⟨b2, s3, s4⟩ := tableOk_i K a ha hK
    have : b2 = b1 := by rw [Bool.eq_iff_iff, s2, s4]
    subst this
    rw [s1, s3]
    simp only [Option.bind_some, bne_self_eq_false, cond_false]
    exact told_loop K _ a b r ha hb' hr hK
end Go.Proofs.YtdjmnbdicpgmiaaEv
