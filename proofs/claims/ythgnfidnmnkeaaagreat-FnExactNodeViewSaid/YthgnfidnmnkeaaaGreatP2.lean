/- The marks that a law writes into what was answered, and the look whether they still stand. -/
import Derived.Test.YthgnfidnmnkeaaaGreatP1
import Derived.Test.YthgnfidnmnkeaaaGreatE0
namespace Go.Proofs.YthgnfidnmnkeaaaGreatEv
open Go
theorem idx_set {α : Type} {xs : List α} {i : Nat} {v : α} (h : i < xs.length) : idx (xs.set i v) (i : Int) = some v := by
  rw [idx_nat, List.getElem?_set]
  simp [h]
theorem wrp {a : Int} (h0 : 0 ≤ a) (h1 : a ≤ 9223372036854775806) : wr .i64 (a + 1) = a + 1 := wr64 (by omega) (by omega)
def mks {α : Type} (mk : α → Int → α × Int) : List α → Int → List α × Int
  | [], m => ([], m)
  | x :: xs, m => ((mk x m).1 :: (mks mk xs (mk x m).2).1, (mks mk xs (mk x m).2).2)
theorem mks_next {α : Type} {mk : α → Int → α × Int} {W : α → Nat} (hW : ∀ x m, (mk x m).2 = m + W x) : ∀ (xs : List α) (m : Int), (mks mk xs m).2 = m + ((xs.map W).sum : Nat)
  | [], m => by simp [mks]
  | x :: xs, m => by
    simp only [mks, List.map_cons, List.sum_cons]
    rw [mks_next hW xs, hW]
    omega
theorem mks_len {α : Type} {mk : α → Int → α × Int} : ∀ (xs : List α) (m : Int), (mks mk xs m).1.length = xs.length
  | [], _ => rfl
  | x :: xs, m => by simp [mks, mks_len xs]
abbrev MkR (α : Type) := (Int × Unit) × (List α × Unit)
theorem mark_loop {α : Type} (mk : α → Int → α × Int) (W : α → Nat) (P : α → Prop) (hW : ∀ x m, (mk x m).2 = m + W x) {step : (List α × Int × Int → Option (MkR α)) → List α × Int × Int → Option (MkR α)}
    (h : ∀ (rec : List α × Int × Int → Option (MkR α)) (ys : List α) (m : Int) (i : Nat) (hi : i < ys.length), ys.length ≤ 1048576 → P ys[i] → 0 ≤ m → m + W ys[i] ≤ 4611686018427387904 → step rec (ys, m, (i : Int)) = rec (ys.set i (mk ys[i] m).1, (mk ys[i] m).2, ((i + 1 : Nat) : Int)))
    (hend : ∀ (rec : List α × Int × Int → Option (MkR α)) (ys : List α) (m : Int), step rec (ys, m, (ys.length : Int)) = some ((m, ()), (ys, ()))) :
    ∀ (xs pre : List α) (m : Int) (k : Nat), pre.length + xs.length ≤ 1048576 → xs.length < k → (∀ x ∈ xs, P x) → 0 ≤ m → m + ((xs.map W).sum : Nat) ≤ 4611686018427387904 →
      iterate step k (pre ++ xs, m, ((pre.length : Nat) : Int)) = some (((mks mk xs m).2, ()), (pre ++ (mks mk xs m).1, ())) := by
  intro xs
  induction xs with
  | nil =>
    intro pre m k hl hk _ _ _
    obtain ⟨k, rfl⟩ : ∃ k', k = k' + 1 := ⟨k - 1, by omega⟩
    show step (iterate step k) _ = _
    rw [List.append_nil, hend]
    simp [mks]
  | cons x xs ih =>
    intro pre m k hl hk hP h0 hm
    simp only [List.length_cons] at hl hk
    obtain ⟨k, rfl⟩ : ∃ k', k = k' + 1 := ⟨k - 1, by omega⟩
    have hi : pre.length < (pre ++ x :: xs).length := by simp
    have e : (pre ++ x :: xs)[pre.length] = x := by simp
    simp only [List.map_cons, List.sum_cons] at hm
    have h1 := h (iterate step k) (pre ++ x :: xs) m pre.length hi (by simp; omega) (e.symm ▸ hP x (List.mem_cons_self ..)) h0 (by rw [e]; omega)
    rw [e] at h1
    show step (iterate step k) _ = _
    rw [h1]
    have e2 : (pre ++ x :: xs).set pre.length (mk x m).1 = (pre ++ [(mk x m).1]) ++ xs := by simp
    rw [e2]
    have h2 := ih (pre ++ [(mk x m).1]) (mk x m).2 k (by simp; omega) (by omega) (fun y hy => hP y (List.mem_cons_of_mem _ hy)) (by rw [hW]; omega) (by rw [hW]; omega)
    simp only [List.length_append, List.length_cons, List.length_nil, Nat.zero_add] at h2
    rw [h2]
    simp [mks]
theorem held_loop {α : Type} (mk : α → Int → α × Int) (W : α → Nat) (P : α → Prop) (hW : ∀ x m, (mk x m).2 = m + W x) (ys : List α) {step : (Int × Int → Option ((Int × Unit) × Unit)) → Int × Int → Option ((Int × Unit) × Unit)} (hys : ys.length ≤ 1048576)
    (h : ∀ (rec : Int × Int → Option ((Int × Unit) × Unit)) (x : α) (m : Int) (i : Nat) (hi : i < ys.length), ys[i] = (mk x m).1 → P x → 0 ≤ m → m + W x ≤ 4611686018427387904 → step rec (m, (i : Int)) = rec ((mk x m).2, ((i + 1 : Nat) : Int)))
    (hend : ∀ (rec : Int × Int → Option ((Int × Unit) × Unit)) (m : Int), step rec (m, (ys.length : Int)) = some ((m, ()), ())) :
    ∀ (xs pre : List α) (m : Int) (k : Nat), ys = pre ++ (mks mk xs m).1 → xs.length < k → (∀ x ∈ xs, P x) → 0 ≤ m → m + ((xs.map W).sum : Nat) ≤ 4611686018427387904 →
      iterate step k (m, ((pre.length : Nat) : Int)) = some (((mks mk xs m).2, ()), ()) := by
  intro xs
  induction xs with
  | nil =>
    intro pre m k e hk _ _ _
    obtain ⟨k, rfl⟩ : ∃ k', k = k' + 1 := ⟨k - 1, by omega⟩
    have e' : pre.length = ys.length := by rw [e]; simp [mks]
    show step (iterate step k) _ = _
    rw [e', hend]
    rfl
  | cons x xs ih =>
    intro pre m k e hk hP h0 hm
    simp only [List.length_cons] at hk
    obtain ⟨k, rfl⟩ : ∃ k', k = k' + 1 := ⟨k - 1, by omega⟩
    simp only [List.map_cons, List.sum_cons] at hm
    have hi : pre.length < ys.length := by rw [e]; simp [mks]
    have e1 : ys[pre.length] = (mk x m).1 := by subst e; simp [mks]
    have h1 := h (iterate step k) x m pre.length hi e1 (hP x (List.mem_cons_self ..)) h0 (by omega)
    show step (iterate step k) _ = _
    rw [h1]
    have h2 := ih (pre ++ [(mk x m).1]) (mk x m).2 k (by rw [e]; simp [mks]) (by omega) (fun y hy => hP y (List.mem_cons_of_mem _ hy)) (by rw [hW]; omega) (by rw [hW]; omega)
    simp only [List.length_append, List.length_cons, List.length_nil, Nat.zero_add] at h2
    rw [h2]
    rfl
def mkInt (_ : Int) (m : Int) : Int × Int := (m, m + 1)
def mkFact (_ : Fact) (m : Int) : Fact × Int := ((m, m + 1, m + 1 + 1, (Int.tmod (m + 1 + 1 + 1) 3 == 0)), m + 1 + 1 + 1 + 1)
def mkItem (x : Item) (m : Int) : Item × Int := (((mkFact x.1 m).1, m + 1 + 1 + 1 + 1), m + 1 + 1 + 1 + 1 + 1)
def mkDoubt (d : Doubt) (m : Int) : Doubt × Int := ((m, m + 1, m + 1 + 1, (mks mkInt d.2.2.2 (m + 1 + 1 + 1)).1), (mks mkInt d.2.2.2 (m + 1 + 1 + 1)).2)
def mkPlace (d : Place) (m : Int) : Place × Int := ((m, (m + 1, m + 1 + 1, m + 1 + 1 + 1, m + 1 + 1 + 1 + 1), (mks mkInt d.2.2 (m + 1 + 1 + 1 + 1 + 1)).1), (mks mkInt d.2.2 (m + 1 + 1 + 1 + 1 + 1)).2)
def mkForeign (d : Foreign) (m : Int) : Foreign × Int := ((m, (mks mkFact d.2 (m + 1)).1), (mks mkFact d.2 (m + 1)).2)
def wInt (_ : Int) : Nat := 1
def wFact (_ : Fact) : Nat := 4
def wItem (_ : Item) : Nat := 5
def wDoubt (d : Doubt) : Nat := 3 + (d.2.2.2.map wInt).sum
def wPlace (d : Place) : Nat := 5 + (d.2.2.map wInt).sum
def wForeign (d : Foreign) : Nat := 1 + (d.2.map wFact).sum
theorem wInt_ok (x : Int) (m : Int) : (mkInt x m).2 = m + wInt x := by simp [mkInt, wInt]
theorem wFact_ok (x : Fact) (m : Int) : (mkFact x m).2 = m + wFact x := by simp only [mkFact, wFact]; omega
theorem wItem_ok (x : Item) (m : Int) : (mkItem x m).2 = m + wItem x := by simp only [mkItem, wItem]; omega
theorem wDoubt_ok (x : Doubt) (m : Int) : (mkDoubt x m).2 = m + wDoubt x := by simp only [mkDoubt, wDoubt, mks_next wInt_ok]; omega
theorem wPlace_ok (x : Place) (m : Int) : (mkPlace x m).2 = m + wPlace x := by simp only [mkPlace, wPlace, mks_next wInt_ok]; omega
theorem wForeign_ok (x : Foreign) (m : Int) : (mkForeign x m).2 = m + wForeign x := by simp only [mkForeign, wForeign, mks_next wFact_ok]; omega
theorem markIntS_ok (K : Nat) (xs : List Int) (m : Int) (hx : xs.length ≤ 1048576) (h0 : 0 ≤ m) (hm : m + ((xs.map wInt).sum : Nat) ≤ 4611686018427387904) (hK : 1048577 < K) :
    laws_markIntS.f K (xs, m, ()) = some (((mks mkInt xs m).2, ()), ((mks mkInt xs m).1, ())) := by
  refine mark_loop (step := fun rec a => laws_markIntS.l0.step K (xs, m, ()) rec a) mkInt wInt (fun _ => True) wInt_ok ?_ ?_ xs [] m K (by simpa using hx) (by omega) (fun _ _ => trivial) h0 hm
  · intro rec ys m i hi hl _ h0 hm
    simp only [wInt] at hm
    simp only [laws_markIntS.l0.step]
    rw [decLt (by omega : (i : Int) < (List.length ys : Int)), idx_get hi, wr_succ i (by omega), wrp h0 (by omega)]
    simp only [cond_true, Option.bind_some, Int.toNat_natCast, idx_get hi]
    rfl
  · intro rec ys m
    simp only [laws_markIntS.l0.step, decNl]
    rfl
theorem markFactS_ok (K : Nat) (xs : List Fact) (m : Int) (hx : xs.length ≤ 1048576) (h0 : 0 ≤ m) (hm : m + ((xs.map wFact).sum : Nat) ≤ 4611686018427387904) (hK : 1048577 < K) :
    laws_markFactS.f K (xs, m, ()) = some (((mks mkFact xs m).2, ()), ((mks mkFact xs m).1, ())) := by
  refine mark_loop (step := fun rec a => laws_markFactS.l0.step K (xs, m, ()) rec a) mkFact wFact (fun _ => True) wFact_ok ?_ ?_ xs [] m K (by simpa using hx) (by omega) (fun _ _ => trivial) h0 hm
  · intro rec ys m i hi hl _ h0 hm
    simp only [wFact] at hm
    simp only [laws_markFactS.l0.step]
    rw [decLt (by omega : (i : Int) < (List.length ys : Int)), idx_get hi, wr_succ i (by omega)]
    simp (disch := omega) only [wrp, cond_true, Option.bind_some, Int.toNat_natCast, List.set_set, idx_set hi, idx_get hi]
    rfl
  · intro rec ys m
    simp only [laws_markFactS.l0.step, decNl]
    rfl
theorem markItemS_ok (K : Nat) (xs : List Item) (m : Int) (hx : xs.length ≤ 1048576) (h0 : 0 ≤ m) (hm : m + ((xs.map wItem).sum : Nat) ≤ 4611686018427387904) (hK : 1048577 < K) :
    laws_markItemS.f K (xs, m, ()) = some (((mks mkItem xs m).2, ()), ((mks mkItem xs m).1, ())) := by
  refine mark_loop (step := fun rec a => laws_markItemS.l0.step K (xs, m, ()) rec a) mkItem wItem (fun _ => True) wItem_ok ?_ ?_ xs [] m K (by simpa using hx) (by omega) (fun _ _ => trivial) h0 hm
  · intro rec ys m i hi hl _ h0 hm
    simp only [wItem] at hm
    simp only [laws_markItemS.l0.step]
    rw [decLt (by omega : (i : Int) < (List.length ys : Int)), idx_get hi, wr_succ i (by omega)]
    simp (disch := omega) only [wrp, cond_true, Option.bind_some, Int.toNat_natCast, List.set_set, idx_set hi, idx_get hi]
    rfl
  · intro rec ys m
    simp only [laws_markItemS.l0.step, decNl]
    rfl
theorem markDoubtS_ok (K : Nat) (xs : List Doubt) (m : Int) (hx : xs.length ≤ 1048576) (hb : ∀ y ∈ xs, y.2.2.2.length ≤ 1048576) (h0 : 0 ≤ m) (hm : m + ((xs.map wDoubt).sum : Nat) ≤ 4611686018427387904) (hK : 1048577 < K) :
    laws_markDoubtS.f K (xs, m, ()) = some (((mks mkDoubt xs m).2, ()), ((mks mkDoubt xs m).1, ())) := by
  refine mark_loop (step := fun rec a => laws_markDoubtS.l0.step K (xs, m, ()) rec a) mkDoubt wDoubt (fun y => y.2.2.2.length ≤ 1048576) wDoubt_ok ?_ ?_ xs [] m K (by simpa using hx) (by omega) hb h0 hm
  · intro rec ys m i hi hl hb h0 hm
    simp only [wDoubt] at hm
    simp only [laws_markDoubtS.l0.step]
    rw [decLt (by omega : (i : Int) < (List.length ys : Int)), idx_get hi, wr_succ i (by omega)]
    simp (disch := omega) only [wrp, cond_true, Option.bind_some, Int.toNat_natCast, List.set_set, idx_set hi, idx_get hi]
    rw [markIntS_ok K _ _ hb (by omega) (by omega) hK]
    rfl
  · intro rec ys m
    simp only [laws_markDoubtS.l0.step, decNl]
    rfl
theorem markPlaceS_ok (K : Nat) (xs : List Place) (m : Int) (hx : xs.length ≤ 1048576) (hb : ∀ y ∈ xs, y.2.2.length ≤ 1048576) (h0 : 0 ≤ m) (hm : m + ((xs.map wPlace).sum : Nat) ≤ 4611686018427387904) (hK : 1048577 < K) :
    laws_markPlaceS.f K (xs, m, ()) = some (((mks mkPlace xs m).2, ()), ((mks mkPlace xs m).1, ())) := by
  refine mark_loop (step := fun rec a => laws_markPlaceS.l0.step K (xs, m, ()) rec a) mkPlace wPlace (fun y => y.2.2.length ≤ 1048576) wPlace_ok ?_ ?_ xs [] m K (by simpa using hx) (by omega) hb h0 hm
  · intro rec ys m i hi hl hb h0 hm
    simp only [wPlace] at hm
    simp only [laws_markPlaceS.l0.step]
    rw [decLt (by omega : (i : Int) < (List.length ys : Int)), idx_get hi, wr_succ i (by omega)]
    simp (disch := omega) only [wrp, cond_true, Option.bind_some, Int.toNat_natCast, List.set_set, idx_set hi, idx_get hi]
    rw [markIntS_ok K _ _ hb (by omega) (by omega) hK]
    rfl
  · intro rec ys m
    simp only [laws_markPlaceS.l0.step, decNl]
    rfl
theorem markForeignS_ok (K : Nat) (xs : List Foreign) (m : Int) (hx : xs.length ≤ 1048576) (hb : ∀ y ∈ xs, y.2.length ≤ 1048576) (h0 : 0 ≤ m) (hm : m + ((xs.map wForeign).sum : Nat) ≤ 4611686018427387904) (hK : 1048577 < K) :
    laws_markForeignS.f K (xs, m, ()) = some (((mks mkForeign xs m).2, ()), ((mks mkForeign xs m).1, ())) := by
  refine mark_loop (step := fun rec a => laws_markForeignS.l0.step K (xs, m, ()) rec a) mkForeign wForeign (fun y => y.2.length ≤ 1048576) wForeign_ok ?_ ?_ xs [] m K (by simpa using hx) (by omega) hb h0 hm
  · intro rec ys m i hi hl hb h0 hm
    simp only [wForeign] at hm
    simp only [laws_markForeignS.l0.step]
    rw [decLt (by omega : (i : Int) < (List.length ys : Int)), idx_get hi, wr_succ i (by omega)]
    simp (disch := omega) only [wrp, cond_true, Option.bind_some, Int.toNat_natCast, List.set_set, idx_set hi, idx_get hi]
    rw [markFactS_ok K _ _ hb (by omega) (by omega) hK]
    rfl
  · intro rec ys m
    simp only [laws_markForeignS.l0.step, decNl]
    rfl
end Go.Proofs.YthgnfidnmnkeaaaGreatEv
namespace Go.Proofs.YthgnfidnmnkeaaaGreatEv
open Go
theorem nneg {a : Int} (h : 0 ≤ a) : decide (a < 0) = false := decide_eq_false (by omega)
theorem sum_le {α : Type} {W : α → Nat} {c : Nat} : ∀ {xs : List α}, (∀ x ∈ xs, W x ≤ c) → (xs.map W).sum ≤ xs.length * c
  | [], _ => by simp
  | x :: xs, h => by
    have h1 := h x (List.mem_cons_self ..)
    have h2 := sum_le (xs := xs) (fun y hy => h y (List.mem_cons_of_mem _ hy))
    simp only [List.map_cons, List.sum_cons, List.length_cons, Nat.succ_mul]
    omega
theorem sum_bd {α : Type} {W : α → Nat} {xs : List α} (hx : xs.length ≤ 1048576) {c : Nat} (hc : c ≤ 4194309) (h : ∀ x ∈ xs, W x ≤ c) : (xs.map W).sum ≤ 1048576 * 4194309 :=
  Nat.le_trans (sum_le h) (Nat.mul_le_mul hx hc)
theorem wInts_le {xs : List Int} (h : xs.length ≤ 1048576) : (xs.map wInt).sum ≤ 1048576 := by
  have := sum_le (W := wInt) (c := 1) (xs := xs) (fun _ _ => Nat.le_refl _)
  omega
theorem wFacts_le {xs : List Fact} (h : xs.length ≤ 1048576) : (xs.map wFact).sum ≤ 4194304 := by
  have := sum_le (W := wFact) (c := 4) (xs := xs) (fun _ _ => Nat.le_refl _)
  omega
def wNode (n : Node) : Nat := (((Node.table n).map wFact).sum + ((Node.cast n).map wItem).sum + ((Node.doubts n).map wDoubt).sum + ((Node.places n).map wPlace).sum + ((Node.others n).map wForeign).sum)
def nodeWith (n : Node) (t : List Fact) (c : List Item) (d : List Doubt) (p : List Place) (o : List Foreign) : Node :=
  (n.1, n.2.1, n.2.2.1, n.2.2.2.1, n.2.2.2.2.1, n.2.2.2.2.2.1, n.2.2.2.2.2.2.1, n.2.2.2.2.2.2.2.1, t, c, Node.probe n, d, Node.coord n, p, o)
def mkNode (n : Node) (m : Int) : Node × Int :=
  let a := mks mkFact (Node.table n) m
  let b := mks mkItem (Node.cast n) a.2
  let c := mks mkDoubt (Node.doubts n) b.2
  let d := mks mkPlace (Node.places n) c.2
  let e := mks mkForeign (Node.others n) d.2
  (nodeWith n a.1 b.1 c.1 d.1 e.1, e.2)
theorem wNode_ok (n : Node) (m : Int) : (mkNode n m).2 = m + wNode n := by
  simp only [mkNode, wNode, mks_next wFact_ok, mks_next wItem_ok, mks_next wDoubt_ok, mks_next wPlace_ok, mks_next wForeign_ok]
  omega
theorem wNode_le {n : Node} (hn : NB n) : wNode n ≤ 5 * (1048576 * 4194309) := by
  have h1 := sum_bd (W := wFact) (c := 4) hn.table (by omega) (fun _ _ => Nat.le_refl _)
  have h2 := sum_bd (W := wItem) (c := 5) hn.cast (by omega) (fun _ _ => Nat.le_refl _)
  have h3 := sum_bd (W := wDoubt) (c := 1048580) hn.doubts (by omega) (fun x hx => by
    have := wInts_le (hn.by_ x hx)
    simp only [wDoubt]; omega)
  have h4 := sum_bd (W := wPlace) (c := 1048581) hn.places (by omega) (fun x hx => by
    have := wInts_le (hn.trips x hx)
    simp only [wPlace]; omega)
  have h5 := sum_bd (W := wForeign) (c := 4194305) hn.others (by omega) (fun x hx => by
    have := wFacts_le (hn.facts x hx)
    simp only [wForeign]; omega)
  simp only [wNode]
  omega
theorem markNode_ok (K : Nat) (n : Node) (hn : NB n) (m : Int) (h0 : 0 ≤ m) (hm : m + wNode n ≤ 4611686018427387904) (hK : 1048577 < K) :
    laws_markNode.f K (n, m, ()) = some (((mkNode n m).2, ()), ((mkNode n m).1, ())) := by
  simp only [wNode] at hm
  simp only [laws_markNode.f, laws_markNode.pre]
  rw [markFactS_ok K _ m hn.table h0 (by omega) hK]
  simp only [Option.bind_some]
  rw [markItemS_ok K _ _ hn.cast (by rw [mks_next wFact_ok]; omega) (by rw [mks_next wFact_ok]; omega) hK]
  simp only [Option.bind_some]
  rw [markDoubtS_ok K _ _ hn.doubts hn.by_ (by rw [mks_next wItem_ok, mks_next wFact_ok]; omega) (by rw [mks_next wItem_ok, mks_next wFact_ok]; omega) hK]
  simp only [Option.bind_some]
  rw [markPlaceS_ok K _ _ hn.places hn.trips (by rw [mks_next wDoubt_ok, mks_next wItem_ok, mks_next wFact_ok]; omega) (by rw [mks_next wDoubt_ok, mks_next wItem_ok, mks_next wFact_ok]; omega) hK]
  simp only [Option.bind_some]
  rw [markForeignS_ok K _ _ hn.others hn.facts (by rw [mks_next wPlace_ok, mks_next wDoubt_ok, mks_next wItem_ok, mks_next wFact_ok]; omega) (by rw [mks_next wPlace_ok, mks_next wDoubt_ok, mks_next wItem_ok, mks_next wFact_ok]; omega) hK]
  rfl
theorem heldFactS_ok (K : Nat) (xs : List Fact) (m : Int) (hx : xs.length ≤ 1048576) (h0 : 0 ≤ m) (hm : m + ((xs.map wFact).sum : Nat) ≤ 4611686018427387904) (hK : 1048577 < K) :
    laws_heldFactS.f K ((mks mkFact xs m).1, m, ()) = some (((mks mkFact xs m).2, ()), ()) := by
  refine held_loop (step := fun rec a => laws_heldFactS.l0.step K ((mks mkFact xs m).1, m, ()) rec a) mkFact wFact (fun _ => True) wFact_ok (mks mkFact xs m).1 (by rw [mks_len]; exact hx) ?_ ?_ xs [] m K rfl (by omega) (fun _ _ => trivial) h0 hm
  · intro rec x m' i hi e _ h0 hm
    simp only [wFact] at hm
    rw [mks_len] at hi
    simp only [laws_heldFactS.l0.step]
    rw [decLt (by rw [mks_len]; omega : (i : Int) < (List.length (mks mkFact xs m).1 : Int)), idx_get (by rw [mks_len]; exact hi), wr_succ i (by omega), e]
    simp (disch := omega) only [wrp, cond_true, Option.bind_some, mkFact, bne_self_eq_false, cond_false]
  · intro rec m'
    simp only [laws_heldFactS.l0.step, decNl]
    rfl
end Go.Proofs.YthgnfidnmnkeaaaGreatEv
namespace Go.Proofs.YthgnfidnmnkeaaaGreatEv
open Go
theorem clone_ok {e : Ty} {b : Nat} {xs : List e.den} (h : xs.length * b ≤ 140737488355328) : cloneM e b xs = some ((xs, ()), ()) := by
  unfold cloneM
  rw [decide_eq_true (by simpa [sizeK] using h)]
  rfl
theorem app_ok {α β : Type} {xs ys : List α} {b : Nat} {x y : β} (h : (xs.length + ys.length) * b ≤ 140737488355328) : (bif decide ((List.length xs + List.length ys) * b ≤ sizeK) then x else y) = x := by
  rw [decide_eq_true (by simpa [sizeK] using h)]
  rfl
end Go.Proofs.YthgnfidnmnkeaaaGreatEv
namespace Go.Proofs.YthgnfidnmnkeaaaGreatEv
open Go
def insR {α : Type} (lt : α → α → Bool) (x : α) : List α → List α → List α
  | [], B => x :: B
  | y :: A, B => bif lt x y then insR lt x A (y :: B) else (y :: A).reverse ++ x :: B
def sortR {α : Type} (lt : α → α → Bool) : List α → List α → List α
  | done, [] => done
  | done, x :: xs => sortR lt (insR lt x done.reverse []) xs
theorem insR_app {α : Type} (lt : α → α → Bool) (x : α) : ∀ (A B C : List α), insR lt x A (B ++ C) = insR lt x A B ++ C
  | [], B, C => rfl
  | y :: A, B, C => by
    simp only [insR]
    cases lt x y with
    | true => exact insR_app lt x A (y :: B) C
    | false => simp
theorem insR_len {α : Type} (lt : α → α → Bool) (x : α) : ∀ (A B : List α), (insR lt x A B).length = A.length + B.length + 1
  | [], B => by simp [insR]
  | y :: A, B => by
    simp only [insR]
    cases lt x y with
    | true => simp only [cond_true]; rw [insR_len lt x A (y :: B)]; simp; omega
    | false => simp; omega
theorem insR_perm {α : Type} (lt : α → α → Bool) (x : α) : ∀ (A B : List α), (insR lt x A B).Perm (x :: (A.reverse ++ B))
  | [], B => by simp [insR]
  | y :: A, B => by
    simp only [insR]
    cases lt x y with
    | true => exact (insR_perm lt x A (y :: B)).trans (by simp)
    | false => simp only [cond_false]; exact List.perm_middle
theorem sortR_perm {α : Type} (lt : α → α → Bool) : ∀ (xs done : List α), (sortR lt done xs).Perm (done ++ xs)
  | [], done => by simp [sortR]
  | x :: xs, done => by
    simp only [sortR]
    refine (sortR_perm lt xs _).trans ?_
    have := insR_perm lt x done.reverse []
    simp only [List.reverse_reverse, List.append_nil] at this
    exact (this.append_right xs).trans (by simpa using (List.perm_middle (a := x) (l₁ := done) (l₂ := xs)).symm)
def NoLt {α : Type} (lt : α → α → Bool) (xs : List α) : Prop := xs.Pairwise fun a b => lt b a = false
theorem insR_filter {α : Type} (lt : α → α → Bool) (ht : ∀ a b c, lt a b = false → lt b c = false → lt a c = false) (x : α) :
    ∀ (A B : List α), NoLt lt A.reverse → insR lt x A B = (A.reverse.filter fun y => !lt x y) ++ x :: ((A.reverse.filter fun y => lt x y) ++ B)
  | [], B, _ => rfl
  | y :: A, B, h => by
    simp only [insR]
    have hA : NoLt lt A.reverse := by
      unfold NoLt at h ⊢
      rw [List.reverse_cons, List.pairwise_append] at h
      exact h.1
    cases hl : lt x y with
    | true =>
      simp only [cond_true]
      rw [insR_filter lt ht x A (y :: B) hA]
      simp [hl, List.filter_append]
    | false =>
      have hy : ∀ a ∈ A.reverse, lt x a = false := fun a ha => by
        unfold NoLt at h
        rw [List.reverse_cons, List.pairwise_append] at h
        exact ht x y a hl (h.2.2 a ha y (by simp))
      simp only [cond_false]
      have e1 : (y :: A).reverse.filter (fun y => !lt x y) = (y :: A).reverse := List.filter_eq_self.2 fun a ha => by
        rw [List.reverse_cons, List.mem_append, List.mem_singleton] at ha
        rcases ha with ha | rfl
        · rw [hy a ha]; rfl
        · rw [hl]; rfl
      have e2 : (y :: A).reverse.filter (fun y => lt x y) = [] := List.filter_eq_nil_iff.2 fun a ha => by
        rw [List.reverse_cons, List.mem_append, List.mem_singleton] at ha
        rcases ha with ha | rfl
        · rw [hy a ha]; simp
        · rw [hl]; simp
      rw [e1, e2]
      rfl
theorem ins_sorted {α : Type} (lt : α → α → Bool) (ht : ∀ a b c, lt a b = false → lt b c = false → lt a c = false) (has : ∀ a b, lt a b = true → lt b a = false) (x : α) (A : List α) (h : NoLt lt A) : NoLt lt (insR lt x A.reverse []) := by
  rw [insR_filter lt ht x A.reverse [] (by rwa [List.reverse_reverse])]
  unfold NoLt at h ⊢
  simp only [List.reverse_reverse, List.append_nil]
  rw [List.pairwise_append]
  refine ⟨h.filter _, ?_, ?_⟩
  · rw [List.pairwise_cons]
    refine ⟨fun a ha => ?_, h.filter _⟩
    exact has _ _ (by simpa using (List.mem_filter.1 ha).2)
  · intro a ha b hb
    have h1 : lt x a = false := by simpa using (List.mem_filter.1 ha).2
    rcases List.mem_cons.1 hb with rfl | hb
    · exact h1
    · have h2 : lt x b = true := by simpa using (List.mem_filter.1 hb).2
      exact ht b x a (has _ _ h2) h1
theorem sortR_sorted {α : Type} (lt : α → α → Bool) (ht : ∀ a b c, lt a b = false → lt b c = false → lt a c = false) (has : ∀ a b, lt a b = true → lt b a = false) : ∀ (xs done : List α), NoLt lt done → NoLt lt (sortR lt done xs)
  | [], done, h => h
  | x :: xs, done, h => sortR_sorted lt ht has xs _ (ins_sorted lt ht has x done h)
theorem sorted_uniq {α : Type} (lt : α → α → Bool) : ∀ {ys zs : List α}, ys.Perm zs → NoLt lt ys → zs.Pairwise (fun a b => lt a b = true) → ys = zs
  | ys, [], hp, _, _ => hp.eq_nil
  | [], z :: zs, hp, _, _ => absurd hp.symm.eq_nil (by simp)
  | y :: ys, z :: zs, hp, h1, h2 => by
    unfold NoLt at h1
    rw [List.pairwise_cons] at h1 h2
    have e : y = z := by
      rcases List.mem_cons.1 (hp.mem_iff.1 (List.mem_cons_self ..)) with h | h
      · exact h
      · have h3 := h2.1 y h
        rcases List.mem_cons.1 (hp.symm.mem_iff.1 (List.mem_cons_self ..)) with h4 | h4
        · exact h4.symm
        · rw [h1.1 z h4] at h3; cases h3
    subst e
    rw [sorted_uniq lt hp.cons_inv h1.2 h2.2]
abbrev SoR (α : Type) := Unit × (List α × Unit)
theorem ins_rounds {α R : Type} (lt : α → α → Bool) (i : Int) (fin : List α × Int → Option R) {step : (List α × Int × Int → Option R) → List α × Int × Int → Option R}
    (h : ∀ (rec : List α × Int × Int → Option R) (A : List α) (y x : α) (B : List α), A.length + B.length ≤ 1048576 → step rec (A ++ y :: x :: B, i, ((A.length + 1 : Nat) : Int)) = bif lt x y then rec (A ++ x :: y :: B, i, (A.length : Int)) else fin (A ++ y :: x :: B, wr .i64 (i + 1)))
    (h0 : ∀ (rec : List α × Int × Int → Option R) (ys : List α), step rec (ys, i, 0) = fin (ys, wr .i64 (i + 1))) :
    ∀ (A B : List α) (x : α) (k : Nat), A.length + B.length ≤ 1048576 → A.length < k → iterate step k (A.reverse ++ x :: B, i, (A.length : Int)) = fin (insR lt x A B, wr .i64 (i + 1)) := by
  intro A
  induction A with
  | nil =>
    intro B x k hl hk
    obtain ⟨k, rfl⟩ : ∃ k', k = k' + 1 := ⟨k - 1, by simp at hk; omega⟩
    exact h0 (iterate step k) (x :: B)
  | cons y A ih =>
    intro B x k hl hk
    simp only [List.length_cons] at hk hl
    obtain ⟨k, rfl⟩ : ∃ k', k = k' + 1 := ⟨k - 1, by omega⟩
    have h1 := h (iterate step k) A.reverse y x B (by simp; omega)
    simp only [List.length_reverse] at h1
    show step (iterate step k) _ = _
    rw [List.reverse_cons, List.append_assoc]
    simp only [List.length_cons, List.cons_append, List.nil_append, insR]
    rw [h1]
    cases lt x y with
    | true => exact ih (y :: B) x k (by simp; omega) (by omega)
    | false => simp
theorem sort_rounds {α : Type} (lt : α → α → Bool) {step : (List α × Int → Option (SoR α)) → List α × Int → Option (SoR α)} (n : Nat) (hn : n ≤ 1048576)
    (h : ∀ (rec : List α × Int → Option (SoR α)) (done : List α) (x : α) (xs : List α), done.length + 1 + xs.length = n → step rec (done ++ x :: xs, (done.length : Int)) = rec (insR lt x done.reverse xs, wr .i64 ((done.length : Int) + 1)))
    (h0 : ∀ (rec : List α × Int → Option (SoR α)) (ys : List α) (i : Int), (n : Int) ≤ i → step rec (ys, i) = some ((), (ys, ()))) :
    ∀ (xs done : List α) (k : Nat), done.length + xs.length = n → xs.length < k → iterate step k (done ++ xs, (done.length : Int)) = some ((), (sortR lt done xs, ())) := by
  intro xs
  induction xs with
  | nil =>
    intro done k hl hk
    obtain ⟨k, rfl⟩ : ∃ k', k = k' + 1 := ⟨k - 1, by omega⟩
    show step (iterate step k) _ = _
    rw [h0 _ _ _ (by simp at hl; omega)]
    simp [sortR]
  | cons x xs ih =>
    intro done k hl hk
    simp only [List.length_cons] at hk hl
    obtain ⟨k, rfl⟩ : ∃ k', k = k' + 1 := ⟨k - 1, by omega⟩
    show step (iterate step k) _ = _
    rw [h _ _ _ _ (by omega), wr_succ _ (by omega)]
    have e : insR lt x done.reverse xs = insR lt x done.reverse [] ++ xs := insR_app lt x done.reverse [] xs
    have e2 : (insR lt x done.reverse []).length = done.length + 1 := by rw [insR_len]; simp
    rw [e, ← e2]
    exact ih _ k (by rw [e2]; omega) (by omega)
theorem sort_all {α : Type} (lt : α → α → Bool) {step : (List α × Int → Option (SoR α)) → List α × Int → Option (SoR α)} (xs : List α) (hn : xs.length ≤ 1048576)
    (h : ∀ (rec : List α × Int → Option (SoR α)) (done : List α) (x : α) (r : List α), done.length + 1 + r.length = xs.length → step rec (done ++ x :: r, (done.length : Int)) = rec (insR lt x done.reverse r, wr .i64 ((done.length : Int) + 1)))
    (h0 : ∀ (rec : List α × Int → Option (SoR α)) (ys : List α) (i : Int), (xs.length : Int) ≤ i → step rec (ys, i) = some ((), (ys, ()))) {k : Nat} (hk : xs.length < k) :
    iterate step k (xs, 1) = some ((), (sortR lt [] xs, ())) := by
  cases xs with
  | nil =>
    obtain ⟨k, rfl⟩ : ∃ k', k = k' + 1 := ⟨k - 1, by simp at hk; omega⟩
    exact h0 (iterate step k) [] 1 (by simp)
  | cons x xs =>
    simp only [List.length_cons] at hk
    have := sort_rounds lt (xs.length + 1) (by simpa using hn) h h0 xs [x] k (by simp; omega) (by omega)
    exact this
theorem idx_mid {α : Type} (A B : List α) (x : α) : idx (A ++ x :: B) (A.length : Int) = some x := by
  rw [idx_nat]; simp
theorem idx_mid1 {α : Type} (A B : List α) (y x : α) : idx (A ++ y :: x :: B) ((A.length + 1 : Nat) : Int) = some x := by
  rw [idx_nat]; simp [List.getElem?_append_right]
theorem set_mid {α : Type} (A B : List α) (x v : α) : (A ++ x :: B).set A.length v = A ++ v :: B := by simp
theorem set_mid1 {α : Type} (A B : List α) (y x v : α) : (A ++ y :: x :: B).set (A.length + 1) v = A ++ y :: v :: B := by
  simp [List.set_append_right]
end Go.Proofs.YthgnfidnmnkeaaaGreatEv
namespace Go.Proofs.YthgnfidnmnkeaaaGreatEv
open Go
theorem isortFact (K : Nat) (xs : List Fact) (φ : Fact × Fact × Unit → Option Int) (lt : Fact → Fact → Bool) (hφ : ∀ y z, ∃ c, φ (y, z, ()) = some c ∧ decide (c < 0) = lt y z) (hx : xs.length ≤ 1048576) (hK : 1048577 < K) :
    slices_insertionSortCmpFunc_impl_Fact.f K (xs, 0, (xs.length : Int), φ, ()) = some ((), (sortR lt [] xs, ())) := by
  refine sort_all (step := fun rec a => slices_insertionSortCmpFunc_impl_Fact.l0.step K (xs, 0, (xs.length : Int), φ, ()) (slices_insertionSortCmpFunc_impl_Fact.l1 K (xs, 0, (xs.length : Int), φ, ()) rec) rec a) lt xs hx ?_ ?_ (by omega)
  · intro rec done x r hl
    simp only [slices_insertionSortCmpFunc_impl_Fact.l0.step]
    rw [decide_eq_true (by omega : ((done.length : Int)) < (xs.length : Int))]
    simp only [cond_true]
    have := ins_rounds lt (done.length : Int) rec (step := fun rec1 a => slices_insertionSortCmpFunc_impl_Fact.l1.step K (xs, 0, (xs.length : Int), φ, ()) rec rec1 a) ?_ ?_ done.reverse r x K (by simp; omega) (by simp; omega)
    · rw [List.reverse_reverse, List.length_reverse] at this
      exact this
    · intro rec1 A y z B hl2
      simp only [slices_insertionSortCmpFunc_impl_Fact.l1.step]
      have e1 : wr .i64 (((A.length + 1 : Nat) : Int) - 1) = (A.length : Int) := (wr64 (by omega) (by omega)).trans (by omega)
      rw [decide_eq_true (by omega : ((A.length + 1 : Nat) : Int) > 0)]
      obtain ⟨c, hc, hd⟩ := hφ z y
      simp only [cond_true, e1, Int.toNat_natCast, idx_mid1, idx_mid, Option.bind_some, hc, hd, set_mid1, set_mid]
    · intro rec1 ys
      simp only [slices_insertionSortCmpFunc_impl_Fact.l1.step]
      rw [decide_eq_false (by omega : ¬ (0 : Int) > 0)]
      rfl
  · intro rec ys i hi
    simp only [slices_insertionSortCmpFunc_impl_Fact.l0.step]
    rw [decide_eq_false (by omega : ¬ i < (xs.length : Int))]
    rfl
theorem sortFact (K : Nat) (xs : List Fact) (φ : Fact × Fact × Unit → Option Int) (lt : Fact → Fact → Bool) (hφ : ∀ y z, ∃ c, φ (y, z, ()) = some c ∧ decide (c < 0) = lt y z) (hx : xs.length ≤ 12) (hK : 1048577 < K) :
    slices_SortFunc_impl_Fact_impl_Fact.f K (xs, φ, ()) = some ((), (sortR lt [] xs, ())) := by
  simp only [slices_SortFunc_impl_Fact_impl_Fact.f, slices_SortFunc_impl_Fact_impl_Fact.pre, math_bits_Len.f, math_bits_Len.pre]
  obtain ⟨l, hl⟩ : ∃ l : Int, math_bits_Len64.f K (wr .u64 (xs.length : Int), ()) = some ((l, ()), ()) := by
    have e : wr .u64 (xs.length : Int) = (xs.length : Int) := by
      show IntKind.u64.wrap _ = _
      have hw : IntKind.u64.wrap (xs.length : Int) = (xs.length : Int) % 18446744073709551616 := by simp [IntKind.wrap, IntKind.bits, IntKind.signed]
      rw [hw]; omega
    rw [e]
    generalize hn : xs.length = n at hx
    have : n = 0 ∨ n = 1 ∨ n = 2 ∨ n = 3 ∨ n = 4 ∨ n = 5 ∨ n = 6 ∨ n = 7 ∨ n = 8 ∨ n = 9 ∨ n = 10 ∨ n = 11 ∨ n = 12 := by omega
    rcases this with rfl | rfl | rfl | rfl | rfl | rfl | rfl | rfl | rfl | rfl | rfl | rfl | rfl
    · exact ⟨0, by kernel_rfl⟩
    · exact ⟨1, by kernel_rfl⟩
    · exact ⟨2, by kernel_rfl⟩
    · exact ⟨2, by kernel_rfl⟩
    · exact ⟨3, by kernel_rfl⟩
    · exact ⟨3, by kernel_rfl⟩
    · exact ⟨3, by kernel_rfl⟩
    · exact ⟨3, by kernel_rfl⟩
    · exact ⟨4, by kernel_rfl⟩
    · exact ⟨4, by kernel_rfl⟩
    · exact ⟨4, by kernel_rfl⟩
    · exact ⟨4, by kernel_rfl⟩
    · exact ⟨4, by kernel_rfl⟩
  rw [hl]
  simp only [Option.bind_some]
  have : slices_pdqsortCmpFunc_impl_Fact.f K (xs, 0, (xs.length : Int), l, φ, ()) = some ((), (sortR lt [] xs, ())) := by
    obtain ⟨k, rfl⟩ : ∃ k', K = k' + 1 := ⟨K - 1, by omega⟩
    have hs : ∀ (rec : slices_pdqsortCmpFunc_impl_Fact.A_l0 → Option slices_pdqsortCmpFunc_impl_Fact.Res) (a : slices_pdqsortCmpFunc_impl_Fact.A_l0), slices_pdqsortCmpFunc_impl_Fact.l0.step (k + 1) (xs, 0, (xs.length : Int), l, φ, ()) rec a = some ((), (sortR lt [] xs, ())) := by
      intro rec a
      simp only [slices_pdqsortCmpFunc_impl_Fact.l0.step]
      have e : wr .i64 ((xs.length : Int) - 0) = (xs.length : Int) := (wr64 (by omega) (by omega)).trans (by omega)
      rw [e, decide_eq_true (by omega : (xs.length : Int) ≤ 12)]
      simp only [cond_true]
      rw [isortFact (k + 1) xs φ lt hφ (by omega) hK]
      rfl
    exact hs (fun _ => none) ()
  rw [this]
  rfl
end Go.Proofs.YthgnfidnmnkeaaaGreatEv
namespace Go.Proofs.YthgnfidnmnkeaaaGreatEv
open Go
end Go.Proofs.YthgnfidnmnkeaaaGreatEv
namespace Go.Proofs.YthgnfidnmnkeaaaGreatEv
open Go
def LessP (f g : Fact) : Prop := if f.1 ≠ g.1 then f.1 < g.1 else Over g f
theorem cmpF_less (f g : Fact) : ¬ cmpF f g ≥ 0 ↔ LessP f g := by
  unfold cmpF LessP
  by_cases h0 : f.1 = g.1
  · rw [orI_zero ((cmp_zero f.1 g.1).2 h0), if_neg (show ¬ f.1 ≠ g.1 from fun h => h h0)]
    unfold Over
    by_cases h1 : f.2.1 = g.2.1
    · rw [orI_zero ((cmp_zero f.2.1 g.2.1).2 h1), if_neg (show ¬ g.2.1 ≠ f.2.1 from fun h => h h1.symm)]
      by_cases h2 : f.2.2.1 = g.2.2.1
      · rw [orI_zero ((cmp_zero f.2.2.1 g.2.2.1).2 h2), if_neg (show ¬ g.2.2.1 ≠ f.2.2.1 from fun h => h h2.symm)]
        cases f.2.2.2 <;> cases g.2.2.2 <;> simp [orI]
      · rw [orI_pos (fun h => h2 ((cmp_zero f.2.2.1 g.2.2.1).1 h)), if_pos (show g.2.2.1 ≠ f.2.2.1 from fun h => h2 h.symm)]
        have := cmp_sign f.2.2.1 g.2.2.1
        omega
    · rw [orI_pos (fun h => h1 ((cmp_zero f.2.1 g.2.1).1 h)), if_pos (show g.2.1 ≠ f.2.1 from fun h => h1 h.symm)]
      have := cmp_sign f.2.1 g.2.1
      omega
  · rw [orI_pos (fun h => h0 ((cmp_zero f.1 g.1).1 h)), if_pos (show f.1 ≠ g.1 from h0)]
    have := cmp_sign f.1 g.1
    omega
end Go.Proofs.YthgnfidnmnkeaaaGreatEv
namespace Go.Proofs.YthgnfidnmnkeaaaGreatEv
open Go
def bI (b : Bool) : Int := if b = true then 1 else 0
theorem bI_lt (a b : Bool) : bI a < bI b ↔ b = true ∧ a = false := by cases a <;> cases b <;> simp [bI]
theorem lessP_iff (f g : Fact) : LessP f g ↔ f.1 < g.1 ∨ f.1 = g.1 ∧ (f.2.1 < g.2.1 ∨ f.2.1 = g.2.1 ∧ (f.2.2.1 < g.2.2.1 ∨ f.2.2.1 = g.2.2.1 ∧ bI f.2.2.2 < bI g.2.2.2)) := by
  unfold LessP Over
  rw [bI_lt]
  by_cases h0 : f.1 = g.1
  · rw [if_neg (fun h => h h0)]
    by_cases h1 : g.2.1 = f.2.1
    · rw [if_neg (fun h => h h1)]
      by_cases h2 : g.2.2.1 = f.2.2.1
      · rw [if_neg (fun h => h h2)]
        constructor
        · intro h; exact .inr ⟨h0, .inr ⟨h1.symm, .inr ⟨h2.symm, h⟩⟩⟩
        · rintro (h | ⟨_, h | ⟨_, h | ⟨_, h⟩⟩⟩)
          · omega
          · omega
          · omega
          · exact h
      · rw [if_pos h2]
        constructor
        · intro h; exact .inr ⟨h0, .inr ⟨h1.symm, .inl h⟩⟩
        · rintro (h | ⟨_, h | ⟨_, h | ⟨_, h⟩⟩⟩) <;> omega
    · rw [if_pos h1]
      constructor
      · intro h; exact .inr ⟨h0, .inl h⟩
      · rintro (h | ⟨_, h | ⟨_, h | ⟨_, h⟩⟩⟩) <;> omega
  · rw [if_pos h0]
    constructor
    · intro h; exact .inl h
    · rintro (h | ⟨_, h⟩)
      · exact h
      · omega
def ltF (f g : Fact) : Bool := decide (cmpF f g < 0)
theorem ltF_iff (f g : Fact) : ltF f g = true ↔ LessP f g := by
  unfold ltF
  rw [decide_eq_true_iff, ← cmpF_less]
  omega
theorem ltF_false (f g : Fact) : ltF f g = false ↔ ¬ LessP f g := by
  rw [← ltF_iff]; cases ltF f g <;> simp
theorem ltF_trans (a b c : Fact) (h1 : ltF a b = false) (h2 : ltF b c = false) : ltF a c = false := by
  rw [ltF_false, lessP_iff] at *
  generalize bI a.2.2.2 = x at *
  generalize bI b.2.2.2 = y at *
  generalize bI c.2.2.2 = z at *
  omega
theorem ltF_asymm (a b : Fact) (h : ltF a b = true) : ltF b a = false := by
  rw [ltF_false]
  rw [ltF_iff] at h
  rw [lessP_iff] at *
  generalize bI a.2.2.2 = x at *
  generalize bI b.2.2.2 = y at *
  omega
def allOf (n : Node) : List Fact := Node.table n ++ (Node.others n).flatMap (·.2)
theorem flat_app {α β : Type} (xs : List α) (f : α → List β) (i : Nat) (h : i < xs.length) : (xs.take (i + 1)).flatMap f = (xs.take i).flatMap f ++ f xs[i] := by
  rw [List.take_succ_eq_append_getElem h, List.flatMap_append]
  simp only [List.flatMap_cons, List.flatMap_nil, List.append_nil]
theorem flat_len {α β : Type} (xs : List α) (f : α → List β) (i : Nat) : ((xs.take i).flatMap f).length ≤ (xs.flatMap f).length := by
  have : xs.flatMap f = (xs.take i).flatMap f ++ (xs.drop i).flatMap f := (congrArg (List.flatMap f) (List.take_append_drop i xs).symm).trans List.flatMap_append
  rw [this]; simp
theorem compare_fn (K : Nat) (hK : 1048577 < K) (y z : Fact) : ∃ c, (impl_Fact_compare.f K (y, z, ())).map (fun r => r.1.1) = some c ∧ decide (c < 0) = ltF y z := by
  rw [compare_i K y z hK]
  exact ⟨_, rfl, rfl⟩
theorem view_i (K : Nat) (n : Node) (hn : NB n) (hs : (allOf n).length ≤ 12) (hK : 1048577 < K) : impl_Node_view.f K (n, ()) = some ((sortR ltF [] (allOf n), ()), ()) := by
  have hl := hn.others
  have hs' : (Node.table n).length + ((Node.others n).flatMap (·.2)).length ≤ 12 := by rw [← List.length_append]; exact hs
  simp only [impl_Node_view.f, impl_Node_view.pre, m_slices_Clone_impl_Fact_impl_Fact.f]
  rw [clone_ok (Nat.le_trans (Nat.mul_le_mul_right _ hn.table) (by decide))]
  simp only [Option.bind_some]
  have hloop : ∀ (d i k : Nat), i + d = (Node.others n).length → d < k → iterate (fun rec a => impl_Node_view.l0.step K (n, ()) rec a) k (Node.table n ++ ((Node.others n).take i).flatMap (·.2), (i : Int)) = some ((sortR ltF [] (allOf n), ()), ()) := by
    intro d
    induction d with
    | zero =>
      intro i k hi hk
      obtain ⟨k, rfl⟩ : ∃ k', k = k' + 1 := ⟨k - 1, by omega⟩
      have : i = (Node.others n).length := by omega
      subst this
      show impl_Node_view.l0.step K (n, ()) _ _ = _
      rw [List.take_length]
      simp only [impl_Node_view.l0.step, decNl, cond_false]
      have e := sortFact K (allOf n) (fun y3 => (impl_Fact_compare.f K (y3.1, y3.2.1, ())).map fun y => y.1.1) ltF (fun y z => compare_fn K hK y z) hs hK
      unfold allOf at e ⊢
      rw [e]
      simp only [Option.bind_some, slices_Clip_impl_Fact_impl_Fact.f, slices_Clip_impl_Fact_impl_Fact.pre]
      simp
    | succ d ih =>
      intro i k hi hk
      obtain ⟨k, rfl⟩ : ∃ k', k = k' + 1 := ⟨k - 1, by omega⟩
      have hlt : i < (Node.others n).length := by omega
      show impl_Node_view.l0.step K (n, ()) _ _ = _
      simp only [impl_Node_view.l0.step]
      rw [decLt (by omega : (i : Int) < (List.length (Node.others n) : Int)), idx_get hlt, wr_succ i (by omega)]
      simp only [cond_true, Option.bind_some]
      have h1 := flat_len (Node.others n) (·.2) (i + 1)
      rw [flat_app _ _ _ hlt, List.length_append] at h1
      rw [app_ok (by simp only [List.length_append]; omega), List.append_assoc, ← flat_app _ (·.2) _ hlt]
      exact ih (i + 1) k (by omega) (by omega)
  have := hloop (Node.others n).length 0 K (by omega) (by omega)
  simp only [List.take_zero, List.flatMap_nil, List.append_nil] at this
  exact this
theorem siteI_of {n : Int} (h : InP n 0 7) : siteI n = n / 4 := by
  obtain ⟨h1, h2⟩ := h
  unfold siteI
  rw [Int.tdiv_eq_ediv_of_nonneg h1, wr64 (by omega) (by omega)]
theorem asc_far {α : Type} {k : α → Int} {xs : List α} (h : Asc k xs) : ∀ i (hi : i < xs.length), k (xs[0]'(by omega)) + i ≤ k xs[i] := by
  rw [asc_adj] at h
  intro i
  induction i with
  | zero => intro hi; simp
  | succ i ih =>
    intro hi
    have h1 := ih (by omega)
    have h2 := h (i + 1) hi (by omega)
    simp only [Nat.add_sub_cancel] at h2
    omega
theorem table_short {t : List Fact} {s : Int} (hT : TableP t) (hS : SiteP t s) : t.length ≤ 4 := by
  cases h : t.length with
  | zero => omega
  | succ m =>
    have hlt : m < t.length := by omega
    have h0 : 0 < t.length := by omega
    have h1 := asc_far hT.2 m hlt
    have a1 := hS _ (List.getElem_mem hlt)
    have a2 := hS _ (List.getElem_mem h0)
    have b1 := (hT.1 _ (List.getElem_mem hlt)).1
    have b2 := (hT.1 _ (List.getElem_mem h0)).1
    rw [siteI_of b1] at a1
    rw [siteI_of b2] at a2
    omega
theorem others_short {me : Int} {l : List Foreign} (hm : InP me 0 7) (h : OthersP me l) : l = [] ∨ ∃ x, l = [x] := by
  match l, h with
  | [], _ => exact .inl rfl
  | [x], _ => exact .inr ⟨x, rfl⟩
  | x :: y :: r, h =>
    exfalso
    have h1 := h.1 x (by simp)
    have h2 := h.1 y (by simp)
    have h3 : x.1 < y.1 := by
      have := h.2
      unfold Asc at this
      rw [List.pairwise_cons] at this
      exact this.1 y (by simp)
    have e := siteI_of hm
    obtain ⟨⟨a1, a2⟩, a3, _⟩ := h1
    obtain ⟨⟨b1, b2⟩, b3, _⟩ := h2
    obtain ⟨m1, m2⟩ := hm
    rw [e] at a3 b3
    omega
theorem lens_down {n : Node} (hn : NB n) (h : DownP n) : Node.table n = [] ∧ Node.cast n = [] ∧ Node.doubts n = [] ∧ Node.places n = [] ∧ Node.others n = [] := by
  obtain ⟨_, _, _, _, _, h, _⟩ := h
  have h1 := hn.table; have h2 := hn.cast; have h3 := hn.doubts; have h4 := hn.places; have h5 := hn.others
  rw [wr64 (n := (List.length (Node.table n) : Int) + (List.length (Node.cast n) : Int)) (by omega) (by omega)] at h
  rw [wr64 (n := (List.length (Node.table n) : Int) + (List.length (Node.cast n) : Int) + (List.length (Node.doubts n) : Int)) (by omega) (by omega)] at h
  rw [wr64 (n := (List.length (Node.table n) : Int) + (List.length (Node.cast n) : Int) + (List.length (Node.doubts n) : Int) + (List.length (Node.places n) : Int)) (by omega) (by omega)] at h
  rw [wr64 (by omega) (by omega)] at h
  refine ⟨List.eq_nil_of_length_eq_zero ?_, List.eq_nil_of_length_eq_zero ?_, List.eq_nil_of_length_eq_zero ?_, List.eq_nil_of_length_eq_zero ?_, List.eq_nil_of_length_eq_zero ?_⟩ <;> omega
theorem all_short {n : Node} (hn : NB n) (hP : NodeP n) : (allOf n).length ≤ 8 ∧ (Node.others n).length ≤ 1 := by
  have hm := hP.1
  cases hu : n.2.1 with
  | false =>
    have hD : DownP n := by have := hP.2.2.2.2.2; rwa [if_neg (by rw [hu]; simp)] at this
    obtain ⟨h1, _, _, _, h5⟩ := lens_down hn hD
    unfold allOf
    rw [h1, h5]
    simp
  | true =>
    have hU : UpP n := by have := hP.2.2.2.2.2; rwa [if_pos hu] at this
    obtain ⟨hT, hS, _, _, _, _, _, _, hO⟩ := hU
    have ht := table_short hT hS
    unfold allOf
    rcases others_short hm hO with h | ⟨x, h⟩
    · rw [h]; simp; omega
    · have hx := hO.1 x (by rw [h]; simp)
      have := table_short hx.2.2.2.1 hx.2.2.2.2
      rw [h]; simp; omega
end Go.Proofs.YthgnfidnmnkeaaaGreatEv
namespace Go.Proofs.YthgnfidnmnkeaaaGreatEv
open Go
theorem nodeOk_both (K : Nat) (n : Node) (hn : NB n) (hK : 1048577 < K) : ∃ b, spec_NodeOk.f K (n, ()) = rb b ∧ impl_NodeOk.f K (n, ()) = rb b ∧ (b = true ↔ NodeP n) := by
  obtain ⟨b, h1, h2⟩ := nodeOk_s K n hn hK
  obtain ⟨b', h3, h4⟩ := nodeOk_i K n hn hK
  have : b = b' := by rw [Bool.eq_iff_iff, h2, h4]
  subst this
  exact ⟨b, h1, h3, h2⟩
theorem NodeP.up {n : Node} (h : NodeP n) (hu : n.2.1 = true) : UpP n := by
  have := h.2.2.2.2.2
  rwa [if_pos hu] at this
theorem mark_copy (K : Nat) (n : Node) (hn : NB n) (hK : 1048577 < K) : ∃ m : Int, 0 ≤ m ∧ laws_markNode.f K (n, 1, ()) = some ((m, ()), ((mkNode n 1).1, ())) := by
  refine ⟨(mkNode n 1).2, ?_, markNode_ok K n hn 1 (by omega) ?_ hK⟩
  · rw [wNode_ok]; omega
  · have := wNode_le hn; omega
end Go.Proofs.YthgnfidnmnkeaaaGreatEv
namespace Go.Proofs.YthgnfidnmnkeaaaGreatEv
open Go
def ofSite (l : List Foreign) (s : Int) : List Fact := (l.filter fun x => x.1 == s).flatMap (·.2)
def partOf (n : Node) (s : Int) : List Fact := (bif s == siteI n.1 then Node.table n else []) ++ ofSite (Node.others n) s
theorem ofSite_len (l : List Foreign) (s : Int) : (ofSite l s).length ≤ (l.flatMap (·.2)).length := by
  unfold ofSite
  induction l with
  | nil => simp
  | cons x l ih =>
    rw [List.filter_cons]
    split
    · simp only [List.flatMap_cons, List.length_append]; omega
    · simp only [List.flatMap_cons, List.length_append]; omega
theorem view_l1 (K : Nat) (n : Node) (hn : NB n) (hs : ((Node.others n).flatMap (·.2)).length ≤ 12) (s : Int) (rec0 : spec_NodeView.A_l0 → Option spec_NodeView.Res) : ∀ (d i k : Nat) (acc : List Fact), i + d = (Node.others n).length → d < k → acc.length ≤ 1048576 →
    iterate (fun rec a => spec_NodeView.l1.step K (n, ()) rec0 rec a) k (acc ++ ofSite ((Node.others n).take i) s, s, (i : Int)) = rec0 (acc ++ ofSite (Node.others n) s, wr .i64 (s + 1)) := by
  have hl := hn.others
  intro d
  induction d with
  | zero =>
    intro i k acc hi hk ha
    obtain ⟨k, rfl⟩ : ∃ k', k = k' + 1 := ⟨k - 1, by omega⟩
    have : i = (Node.others n).length := by omega
    subst this
    show spec_NodeView.l1.step K (n, ()) _ _ _ = _
    simp only [spec_NodeView.l1.step, decNl, cond_false, List.take_length]
  | succ d ih =>
    intro i k acc hi hk ha
    obtain ⟨k, rfl⟩ : ∃ k', k = k' + 1 := ⟨k - 1, by omega⟩
    have hlt : i < (Node.others n).length := by omega
    show spec_NodeView.l1.step K (n, ()) _ _ _ = _
    simp only [spec_NodeView.l1.step]
    rw [decLt (by omega : (i : Int) < (List.length (Node.others n) : Int)), idx_get hlt, wr_succ i (by omega)]
    simp only [cond_true, Option.bind_some]
    have e : ofSite ((Node.others n).take (i + 1)) s = ofSite ((Node.others n).take i) s ++ (bif (Node.others n)[i].1 == s then (Node.others n)[i].2 else []) := by
      unfold ofSite
      rw [List.take_succ_eq_append_getElem hlt, List.filter_append, List.flatMap_append]
      congr 1
      rw [List.filter_cons]
      cases (Node.others n)[i].1 == s <;> simp
    cases hc : (Node.others n)[i].1 == s with
    | true =>
      simp only [cond_true]
      have h1 := ofSite_len ((Node.others n).take (i + 1)) s
      have h2 := flat_len (Node.others n) (·.2) (i + 1)
      rw [e, hc] at h1
      simp only [cond_true, List.length_append] at h1
      rw [app_ok (by simp only [List.length_append]; omega), List.append_assoc]
      have e' : ofSite ((Node.others n).take (i + 1)) s = ofSite ((Node.others n).take i) s ++ (Node.others n)[i].2 := by rw [e, hc]; rfl
      rw [← e']
      exact ih (i + 1) k acc (by omega) (by omega) ha
    | false =>
      simp only [cond_false]
      have e' : ofSite ((Node.others n).take (i + 1)) s = ofSite ((Node.others n).take i) s := by rw [e, hc]; simp
      rw [← e']
      exact ih (i + 1) k acc (by omega) (by omega) ha
theorem view_s (K : Nat) (n : Node) (hn : NB n) (hP : NodeP n) (hu : n.2.1 = true) (hK : 1048577 < K) : spec_NodeView.f K (n, ()) = some ((partOf n 0 ++ partOf n 1, ()), ()) := by
  obtain ⟨b, h1, _, h3⟩ := nodeOk_both K n hn hK
  have hb := h3.2 hP
  subst hb
  simp only [spec_NodeView.f, spec_NodeView.pre]
  rw [h1]
  simp only [Option.bind_some, Bool.not_true, cond_false, hu]
  have hs := (all_short hn hP).1
  unfold allOf at hs
  rw [List.length_append] at hs
  have hl := hn.others
  have round : ∀ (rec : spec_NodeView.A_l0 → Option spec_NodeView.Res) (acc : List Fact) (s : Int), acc.length ≤ 1000 → s ≤ 1 → spec_NodeView.l0.step K (n, ()) (spec_NodeView.l1 K (n, ()) rec) rec (acc, s) = rec (acc ++ partOf n s, wr .i64 (s + 1)) := by
    intro rec acc s ha hs1
    simp only [spec_NodeView.l0.step]
    rw [decide_eq_true hs1, site_s K n.1]
    simp only [cond_true, Option.bind_some]
    unfold partOf
    cases hc : s == siteI n.1 with
    | true =>
      simp only [cond_true]
      rw [app_ok (by show (acc.length + (Node.table n).length) * 32 ≤ _; omega)]
      have := view_l1 K n hn (by omega) s rec (Node.others n).length 0 K (acc ++ Node.table n) (by omega) (by omega) (by simp; omega)
      rw [List.take_zero, show ofSite [] s = [] from rfl, List.append_nil, List.append_assoc] at this
      exact this
    | false =>
      simp only [cond_false, List.nil_append]
      have := view_l1 K n hn (by omega) s rec (Node.others n).length 0 K acc (by omega) (by omega) (by omega)
      rw [List.take_zero, show ofSite [] s = [] from rfl, List.append_nil] at this
      exact this
  have hlen : (partOf n 0).length ≤ 12 := by
    have := ofSite_len (Node.others n) 0
    unfold partOf
    rw [List.length_append]
    cases (0 : Int) == siteI n.1 <;> simp only [cond_true, cond_false, List.length_nil] <;> omega
  obtain ⟨k, rfl⟩ : ∃ k', K = k' + 3 := ⟨K - 3, by omega⟩
  show iterate (fun rec a => spec_NodeView.l0.step (k + 3) (n, ()) (spec_NodeView.l1 (k + 3) (n, ()) rec) rec a) (k + 3) ([], 0) = _
  have e0 : ∀ j (a : spec_NodeView.A_l0), iterate (fun rec a => spec_NodeView.l0.step (k + 3) (n, ()) (spec_NodeView.l1 (k + 3) (n, ()) rec) rec a) (j + 1) a = spec_NodeView.l0.step (k + 3) (n, ()) (spec_NodeView.l1 (k + 3) (n, ()) (iterate (fun rec a => spec_NodeView.l0.step (k + 3) (n, ()) (spec_NodeView.l1 (k + 3) (n, ()) rec) rec a) j)) (iterate (fun rec a => spec_NodeView.l0.step (k + 3) (n, ()) (spec_NodeView.l1 (k + 3) (n, ()) rec) rec a) j) a := fun _ _ => rfl
  rw [e0 (k + 2), round _ _ _ (by simp) (by omega), wr64 (by omega) (by omega), e0 (k + 1), round _ _ _ (by simp; omega) (by omega), wr64 (by omega) (by omega), e0 k]
  simp only [spec_NodeView.l0.step]
  rfl
theorem asc_less {t : List Fact} (h : Asc (fun f : Fact => f.1) t) : t.Pairwise fun a b => ltF a b = true :=
  h.imp fun {a b} h => by rw [ltF_iff, lessP_iff]; exact .inl h
theorem view_sorted {n : Node} (hn : NB n) (hP : NodeP n) (hu : n.2.1 = true) : sortR ltF [] (allOf n) = partOf n 0 ++ partOf n 1 := by
  have hm := hP.1
  obtain ⟨hT, hS, _, _, _, _, _, _, hO⟩ := hP.up hu
  have hp : (sortR ltF [] (allOf n)).Perm (allOf n) := by simpa using sortR_perm ltF (allOf n) []
  have hsrt : NoLt ltF (sortR ltF [] (allOf n)) := sortR_sorted ltF ltF_trans ltF_asymm _ _ List.Pairwise.nil
  have hsite : siteI n.1 = 0 ∨ siteI n.1 = 1 := by
    rw [siteI_of hm]; obtain ⟨m1, m2⟩ := hm; omega
  have across : ∀ (t u : List Fact) (s : Int), TableP t → SiteP t s → TableP u → SiteP u (s + 1) → (t ++ u).Pairwise fun a b => ltF a b = true := by
    intro t u s ht hts hu hus
    rw [List.pairwise_append]
    refine ⟨asc_less ht.2, asc_less hu.2, fun a ha b hb => ?_⟩
    rw [ltF_iff, lessP_iff]
    have h1 := hts a ha; have h2 := hus b hb
    rw [siteI_of (ht.1 a ha).1] at h1
    rw [siteI_of (hu.1 b hb).1] at h2
    exact .inl (by omega)
  rcases others_short hm hO with h | ⟨x, h⟩
  · rw [show partOf n 0 ++ partOf n 1 = Node.table n by
      unfold partOf ofSite
      rw [h]
      rcases hsite with e | e <;> rw [e] <;> simp]
    refine sorted_uniq ltF ?_ hsrt (asc_less hT.2)
    unfold allOf at hp ⊢
    rw [h] at hp ⊢
    simpa using hp
  · obtain ⟨⟨x1, x2⟩, x3, _, x4, x5⟩ := hO.1 x (by rw [h]; simp)
    rcases hsite with e | e
    · have ex : x.1 = 1 := by omega
      have e2 : partOf n 0 ++ partOf n 1 = Node.table n ++ x.2 := by
        unfold partOf ofSite
        rw [h, e]
        simp [ex]
      rw [e2]
      refine sorted_uniq ltF ?_ hsrt (across _ _ 0 hT (by rw [e] at hS; exact hS) x4 (by rw [ex] at x5; exact x5))
      unfold allOf at hp ⊢
      rw [h] at hp ⊢
      simpa using hp
    · have ex : x.1 = 0 := by omega
      have e2 : partOf n 0 ++ partOf n 1 = x.2 ++ Node.table n := by
        unfold partOf ofSite
        rw [h, e]
        simp [ex]
      rw [e2]
      refine sorted_uniq ltF ?_ hsrt (across _ _ 0 x4 (by rw [ex] at x5; exact x5) hT (by rw [e] at hS; exact hS))
      unfold allOf at hp ⊢
      rw [h] at hp ⊢
      have : (Node.table n ++ x.2).Perm (x.2 ++ Node.table n) := List.perm_append_comm
      have hp2 : (sortR ltF [] (Node.table n ++ [x].flatMap (·.2))).Perm (Node.table n ++ x.2) := by simpa using hp
      exact hp2.trans this
def viewOf (n : Node) : List Fact := sortR ltF [] (allOf n)
theorem viewOf_len {n : Node} (hn : NB n) (hP : NodeP n) : (viewOf n).length ≤ 8 := by
  have hp : (viewOf n).Perm (allOf n) := by unfold viewOf; simpa using sortR_perm ltF (allOf n) []
  rw [hp.length_eq]
  exact (all_short hn hP).1
theorem viewOf_i (K : Nat) (n : Node) (hn : NB n) (hP : NodeP n) (hK : 1048577 < K) : impl_Node_view.f K (n, ()) = some ((viewOf n, ()), ()) :=
  view_i K n hn (by have := (all_short hn hP).1; omega) hK
theorem viewOf_s (K : Nat) (n : Node) (hn : NB n) (hP : NodeP n) (hu : n.2.1 = true) (hK : 1048577 < K) : spec_NodeView.f K (n, ()) = some ((viewOf n, ()), ()) := by
  rw [view_s K n hn hP hu hK, ← view_sorted hn hP hu]
  rfl
end Go.Proofs.YthgnfidnmnkeaaaGreatEv
