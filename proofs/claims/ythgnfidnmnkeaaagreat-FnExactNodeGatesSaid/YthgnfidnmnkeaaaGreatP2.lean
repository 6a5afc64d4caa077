/- The marks that a law writes into what was answered, and the look whether they still stand. -/
import Derived.Test.YthgnfidnmnkeaaaGreatP1
import Derived.Test.YthgnfidnmnkeaaaGreatE0
namespace Go.Proofs.YthgnfidnmnkeaaaGreatEv
open Go
theorem idx_set {α : Type} {xs : List α} {i : Nat} {v : α} (h : i < xs.length) : idx (xs.set i v) (i : Int) = some v := by
  rw [idx_nat, List.getElem?_set]
  simp [h]
theorem wrp {a : Int} (h0 : 0 ≤ a) (h1 : a ≤ 9223372036854775806) : wr .i64 (a + 1) = a + 1 := wr64 (by omega) (by omega)
def mks {α : Type} (mk : α → Int → α × Int) : List α → Int → List α × Int
  | [], m => ([], m)
  | x :: xs, m => ((mk x m).1 :: (mks mk xs (mk x m).2).1, (mks mk xs (mk x m).2).2)
theorem mks_next {α : Type} {mk : α → Int → α × Int} {W : α → Nat} (hW : ∀ x m, (mk x m).2 = m + W x) : ∀ (xs : List α) (m : Int), (mks mk xs m).2 = m + ((xs.map W).sum : Nat)
  | [], m => by simp [mks]
  | x :: xs, m => by
    simp only [mks, List.map_cons, List.sum_cons]
    rw [mks_next hW xs, hW]
    omega
theorem mks_len {α : Type} {mk : α → Int → α × Int} : ∀ (xs : List α) (m : Int), (mks mk xs m).1.length = xs.length
  | [], _ => rfl
  | x :: xs, m => by simp [mks, mks_len xs]
abbrev MkR (α : Type) := (Int × Unit) × (List α × Unit)
theorem mark_loop {α : Type} (mk : α → Int → α × Int) (W : α → Nat) (P : α → Prop) (hW : ∀ x m, (mk x m).2 = m + W x) {step : (List α × Int × Int → Option (MkR α)) → List α × Int × Int → Option (MkR α)}
    (h : ∀ (rec : List α × Int × Int → Option (MkR α)) (ys : List α) (m : Int) (i : Nat) (hi : i < ys.length), ys.length ≤ 1048576 → P ys[i] → 0 ≤ m → m + W ys[i] ≤ 4611686018427387904 → step rec (ys, m, (i : Int)) = rec (ys.set i (mk ys[i] m).1, (mk ys[i] m).2, ((i + 1 : Nat) : Int)))
    (hend : ∀ (rec : List α × Int × Int → Option (MkR α)) (ys : List α) (m : Int), step rec (ys, m, (ys.length : Int)) = some ((m, ()), (ys, ()))) :
    ∀ (xs pre : List α) (m : Int) (k : Nat), pre.length + xs.length ≤ 1048576 → xs.length < k → (∀ x ∈ xs, P x) → 0 ≤ m → m + ((xs.map W).sum : Nat) ≤ 4611686018427387904 →
      iterate step k (pre ++ xs, m, ((pre.length : Nat) : Int)) = some (((mks mk xs m).2, ()), (pre ++ (mks mk xs m).1, ())) := by
  intro xs
  induction xs with
  | nil =>
    intro pre m k hl hk _ _ _
    obtain ⟨k, rfl⟩ : ∃ k', k = k' + 1 := ⟨k - 1, by omega⟩
    show step (iterate step k) _ = _
    rw [List.append_nil, hend]
    simp [mks]
  | cons x xs ih =>
    intro pre m k hl hk hP h0 hm
    simp only [List.length_cons] at hl hk
    obtain ⟨k, rfl⟩ : ∃ k', k = k' + 1 := ⟨k - 1, by omega⟩
    have hi : pre.length < (pre ++ x :: xs).length := by simp
    have e : (pre ++ x :: xs)[pre.length] = x := by simp
    simp only [List.map_cons, List.sum_cons] at hm
    have h1 := h (iterate step k) (pre ++ x :: xs) m pre.length hi (by simp; omega) (e.symm ▸ hP x (List.mem_cons_self ..)) h0 (by rw [e]; omega)
    rw [e] at h1
    show step (iterate step k) _ = _
    rw [h1]
    have e2 : (pre ++ x :: xs).set pre.length (mk x m).1 = (pre ++ [(mk x m).1]) ++ xs := by simp
    rw [e2]
    have h2 := ih (pre ++ [(mk x m).1]) (mk x m).2 k (by simp; omega) (by omega) (fun y hy => hP y (List.mem_cons_of_mem _ hy)) (by rw [hW]; omega) (by rw [hW]; omega)
    simp only [List.length_append, List.length_cons, List.length_nil, Nat.zero_add] at h2
    rw [h2]
    simp [mks]
theorem held_loop {α : Type} (mk : α → Int → α × Int) (W : α → Nat) (P : α → Prop) (hW : ∀ x m, (mk x m).2 = m + W x) (ys : List α) {step : (Int × Int → Option ((Int × Unit) × Unit)) → Int × Int → Option ((Int × Unit) × Unit)} (hys : ys.length ≤ 1048576)
    (h : ∀ (rec : Int × Int → Option ((Int × Unit) × Unit)) (x : α) (m : Int) (i : Nat) (hi : i < ys.length), ys[i] = (mk x m).1 → P x → 0 ≤ m → m + W x ≤ 4611686018427387904 → step rec (m, (i : Int)) = rec ((mk x m).2, ((i + 1 : Nat) : Int)))
    (hend : ∀ (rec : Int × Int → Option ((Int × Unit) × Unit)) (m : Int), step rec (m, (ys.length : Int)) = some ((m, ()), ())) :
    ∀ (xs pre : List α) (m : Int) (k : Nat), ys = pre ++ (mks mk xs m).1 → xs.length < k → (∀ x ∈ xs, P x) → 0 ≤ m → m + ((xs.map W).sum : Nat) ≤ 4611686018427387904 →
      iterate step k (m, ((pre.length : Nat) : Int)) = some (((mks mk xs m).2, ()), ()) := by
  intro xs
  induction xs with
  | nil =>
    intro pre m k e hk _ _ _
    obtain ⟨k, rfl⟩ : ∃ k', k = k' + 1 := ⟨k - 1, by omega⟩
    have e' : pre.length = ys.length := by rw [e]; simp [mks]
    show step (iterate step k) _ = _
    rw [e', hend]
    rfl
  | cons x xs ih =>
    intro pre m k e hk hP h0 hm
    simp only [List.length_cons] at hk
    obtain ⟨k, rfl⟩ : ∃ k', k = k' + 1 := ⟨k - 1, by omega⟩
    simp only [List.map_cons, List.sum_cons] at hm
    have hi : pre.length < ys.length := by rw [e]; simp [mks]
    have e1 : ys[pre.length] = (mk x m).1 := by subst e; simp [mks]
    have h1 := h (iterate step k) x m pre.length hi e1 (hP x (List.mem_cons_self ..)) h0 (by omega)
    show step (iterate step k) _ = _
    rw [h1]
    have h2 := ih (pre ++ [(mk x m).1]) (mk x m).2 k (by rw [e]; simp [mks]) (by omega) (fun y hy => hP y (List.mem_cons_of_mem _ hy)) (by rw [hW]; omega) (by rw [hW]; omega)
    simp only [List.length_append, List.length_cons, List.length_nil, Nat.zero_add] at h2
    rw [h2]
    rfl
def mkInt (_ : Int) (m : Int) : Int × Int := (m, m + 1)
def mkFact (_ : Fact) (m : Int) : Fact × Int := ((m, m + 1, m + 1 + 1, (Int.tmod (m + 1 + 1 + 1) 3 == 0)), m + 1 + 1 + 1 + 1)
def mkItem (x : Item) (m : Int) : Item × Int := (((mkFact x.1 m).1, m + 1 + 1 + 1 + 1), m + 1 + 1 + 1 + 1 + 1)
def mkDoubt (d : Doubt) (m : Int) : Doubt × Int := ((m, m + 1, m + 1 + 1, (mks mkInt d.2.2.2 (m + 1 + 1 + 1)).1), (mks mkInt d.2.2.2 (m + 1 + 1 + 1)).2)
def mkPlace (d : Place) (m : Int) : Place × Int := ((m, (m + 1, m + 1 + 1, m + 1 + 1 + 1, m + 1 + 1 + 1 + 1), (mks mkInt d.2.2 (m + 1 + 1 + 1 + 1 + 1)).1), (mks mkInt d.2.2 (m + 1 + 1 + 1 + 1 + 1)).2)
def mkForeign (d : Foreign) (m : Int) : Foreign × Int := ((m, (mks mkFact d.2 (m + 1)).1), (mks mkFact d.2 (m + 1)).2)
def wInt (_ : Int) : Nat := 1
def wFact (_ : Fact) : Nat := 4
def wItem (_ : Item) : Nat := 5
def wDoubt (d : Doubt) : Nat := 3 + (d.2.2.2.map wInt).sum
def wPlace (d : Place) : Nat := 5 + (d.2.2.map wInt).sum
def wForeign (d : Foreign) : Nat := 1 + (d.2.map wFact).sum
theorem wInt_ok (x : Int) (m : Int) : (mkInt x m).2 = m + wInt x := by simp [mkInt, wInt]
theorem wFact_ok (x : Fact) (m : Int) : (mkFact x m).2 = m + wFact x := by simp only [mkFact, wFact]; omega
theorem wItem_ok (x : Item) (m : Int) : (mkItem x m).2 = m + wItem x := by simp only [mkItem, wItem]; omega
theorem wDoubt_ok (x : Doubt) (m : Int) : (mkDoubt x m).2 = m + wDoubt x := by simp only [mkDoubt, wDoubt, mks_next wInt_ok]; omega
theorem wPlace_ok (x : Place) (m : Int) : (mkPlace x m).2 = m + wPlace x := by simp only [mkPlace, wPlace, mks_next wInt_ok]; omega
theorem wForeign_ok (x : Foreign) (m : Int) : (mkForeign x m).2 = m + wForeign x := by simp only [mkForeign, wForeign, mks_next wFact_ok]; omega
theorem markIntS_ok (K : Nat) (xs : List Int) (m : Int) (hx : xs.length ≤ 1048576) (h0 : 0 ≤ m) (hm : m + ((xs.map wInt).sum : Nat) ≤ 4611686018427387904) (hK : 1048577 < K) :
    laws_markIntS.f K (xs, m, ()) = some (((mks mkInt xs m).2, ()), ((mks mkInt xs m).1, ())) := by
  refine mark_loop (step := fun rec a => laws_markIntS.l0.step K (xs, m, ()) rec a) mkInt wInt (fun _ => True) wInt_ok ?_ ?_ xs [] m K (by simpa using hx) (by omega) (fun _ _ => trivial) h0 hm
  · intro rec ys m i hi hl _ h0 hm
    simp only [wInt] at hm
    simp only [laws_markIntS.l0.step]
    rw [decLt (by omega : (i : Int) < (List.length ys : Int)), idx_get hi, wr_succ i (by omega), wrp h0 (by omega)]
    simp only [cond_true, Option.bind_some, Int.toNat_natCast, idx_get hi]
    rfl
  · intro rec ys m
    simp only [laws_markIntS.l0.step, decNl]
    rfl
theorem markFactS_ok (K : Nat) (xs : List Fact) (m : Int) (hx : xs.length ≤ 1048576) (h0 : 0 ≤ m) (hm : m + ((xs.map wFact).sum : Nat) ≤ 4611686018427387904) (hK : 1048577 < K) :
    laws_markFactS.f K (xs, m, ()) = some (((mks mkFact xs m).2, ()), ((mks mkFact xs m).1, ())) := by
  refine mark_loop (step := fun rec a => laws_markFactS.l0.step K (xs, m, ()) rec a) mkFact wFact (fun _ => True) wFact_ok ?_ ?_ xs [] m K (by simpa using hx) (by omega) (fun _ _ => trivial) h0 hm
  · intro rec ys m i hi hl _ h0 hm
    simp only [wFact] at hm
    simp only [laws_markFactS.l0.step]
    rw [decLt (by omega : (i : Int) < (List.length ys : Int)), idx_get hi, wr_succ i (by omega)]
    simp (disch := omega) only [wrp, cond_true, Option.bind_some, Int.toNat_natCast, List.set_set, idx_set hi, idx_get hi]
    rfl
  · intro rec ys m
    simp only [laws_markFactS.l0.step, decNl]
    rfl
theorem markItemS_ok (K : Nat) (xs : List Item) (m : Int) (hx : xs.length ≤ 1048576) (h0 : 0 ≤ m) (hm : m + ((xs.map wItem).sum : Nat) ≤ 4611686018427387904) (hK : 1048577 < K) :
    laws_markItemS.f K (xs, m, ()) = some (((mks mkItem xs m).2, ()), ((mks mkItem xs m).1, ())) := by
  refine mark_loop (step := fun rec a => laws_markItemS.l0.step K (xs, m, ()) rec a) mkItem wItem (fun _ => True) wItem_ok ?_ ?_ xs [] m K (by simpa using hx) (by omega) (fun _ _ => trivial) h0 hm
  · intro rec ys m i hi hl _ h0 hm
    simp only [wItem] at hm
    simp only [laws_markItemS.l0.step]
    rw [decLt (by omega : (i : Int) < (List.length ys : Int)), idx_get hi, wr_succ i (by omega)]
    simp (disch := omega) only [wrp, cond_true, Option.bind_some, Int.toNat_natCast, List.set_set, idx_set hi, idx_get hi]
    rfl
  · intro rec ys m
    simp only [laws_markItemS.l0.step, decNl]
    rfl
theorem markDoubtS_ok (K : Nat) (xs : List Doubt) (m : Int) (hx : xs.length ≤ 1048576) (hb : ∀ y ∈ xs, y.2.2.2.length ≤ 1048576) (h0 : 0 ≤ m) (hm : m + ((xs.map wDoubt).sum : Nat) ≤ 4611686018427387904) (hK : 1048577 < K) :
    laws_markDoubtS.f K (xs, m, ()) = some (((mks mkDoubt xs m).2, ()), ((mks mkDoubt xs m).1, ())) := by
  refine mark_loop (step := fun rec a => laws_markDoubtS.l0.step K (xs, m, ()) rec a) mkDoubt wDoubt (fun y => y.2.2.2.length ≤ 1048576) wDoubt_ok ?_ ?_ xs [] m K (by simpa using hx) (by omega) hb h0 hm
  · intro rec ys m i hi hl hb h0 hm
    simp only [wDoubt] at hm
    simp only [laws_markDoubtS.l0.step]
    rw [decLt (by omega : (i : Int) < (List.length ys : Int)), idx_get hi, wr_succ i (by omega)]
    simp (disch := omega) only [wrp, cond_true, Option.bind_some, Int.toNat_natCast, List.set_set, idx_set hi, idx_get hi]
    rw [markIntS_ok K _ _ hb (by omega) (by omega) hK]
    rfl
  · intro rec ys m
    simp only [laws_markDoubtS.l0.step, decNl]
    rfl
theorem markPlaceS_ok (K : Nat) (xs : List Place) (m : Int) (hx : xs.length ≤ 1048576) (hb : ∀ y ∈ xs, y.2.2.length ≤ 1048576) (h0 : 0 ≤ m) (hm : m + ((xs.map wPlace).sum : Nat) ≤ 4611686018427387904) (hK : 1048577 < K) :
    laws_markPlaceS.f K (xs, m, ()) = some (((mks mkPlace xs m).2, ()), ((mks mkPlace xs m).1, ())) := by
  refine mark_loop (step := fun rec a => laws_markPlaceS.l0.step K (xs, m, ()) rec a) mkPlace wPlace (fun y => y.2.2.length ≤ 1048576) wPlace_ok ?_ ?_ xs [] m K (by simpa using hx) (by omega) hb h0 hm
  · intro rec ys m i hi hl hb h0 hm
    simp only [wPlace] at hm
    simp only [laws_markPlaceS.l0.step]
    rw [decLt (by omega : (i : Int) < (List.length ys : Int)), idx_get hi, wr_succ i (by omega)]
    simp (disch := omega) only [wrp, cond_true, Option.bind_some, Int.toNat_natCast, List.set_set, idx_set hi, idx_get hi]
    rw [markIntS_ok K _ _ hb (by omega) (by omega) hK]
    rfl
  · intro rec ys m
    simp only [laws_markPlaceS.l0.step, decNl]
    rfl
theorem markForeignS_ok (K : Nat) (xs : List Foreign) (m : Int) (hx : xs.length ≤ 1048576) (hb : ∀ y ∈ xs, y.2.length ≤ 1048576) (h0 : 0 ≤ m) (hm : m + ((xs.map wForeign).sum : Nat) ≤ 4611686018427387904) (hK : 1048577 < K) :
    laws_markForeignS.f K (xs, m, ()) = some (((mks mkForeign xs m).2, ()), ((mks mkForeign xs m).1, ())) := by
  refine mark_loop (step := fun rec a => laws_markForeignS.l0.step K (xs, m, ()) rec a) mkForeign wForeign (fun y => y.2.length ≤ 1048576) wForeign_ok ?_ ?_ xs [] m K (by simpa using hx) (by omega) hb h0 hm
  · intro rec ys m i hi hl hb h0 hm
    simp only [wForeign] at hm
    simp only [laws_markForeignS.l0.step]
    rw [decLt (by omega : (i : Int) < (List.length ys : Int)), idx_get hi, wr_succ i (by omega)]
    simp (disch := omega) only [wrp, cond_true, Option.bind_some, Int.toNat_natCast, List.set_set, idx_set hi, idx_get hi]
    rw [markFactS_ok K _ _ hb (by omega) (by omega) hK]
    rfl
  · intro rec ys m
    simp only [laws_markForeignS.l0.step, decNl]
    rfl
end Go.Proofs.YthgnfidnmnkeaaaGreatEv
namespace Go.Proofs.YthgnfidnmnkeaaaGreatEv
open Go
theorem nneg {a : Int} (h : 0 ≤ a) : decide (a < 0) = false := decide_eq_false (by omega)
theorem sum_le {α : Type} {W : α → Nat} {c : Nat} : ∀ {xs : List α}, (∀ x ∈ xs, W x ≤ c) → (xs.map W).sum ≤ xs.length * c
  | [], _ => by simp
  | x :: xs, h => by
    have h1 := h x (List.mem_cons_self ..)
    have h2 := sum_le (xs := xs) (fun y hy => h y (List.mem_cons_of_mem _ hy))
    simp only [List.map_cons, List.sum_cons, List.length_cons, Nat.succ_mul]
    omega
theorem sum_bd {α : Type} {W : α → Nat} {xs : List α} (hx : xs.length ≤ 1048576) {c : Nat} (hc : c ≤ 4194309) (h : ∀ x ∈ xs, W x ≤ c) : (xs.map W).sum ≤ 1048576 * 4194309 :=
  Nat.le_trans (sum_le h) (Nat.mul_le_mul hx hc)
theorem wInts_le {xs : List Int} (h : xs.length ≤ 1048576) : (xs.map wInt).sum ≤ 1048576 := by
  have := sum_le (W := wInt) (c := 1) (xs := xs) (fun _ _ => Nat.le_refl _)
  omega
theorem wFacts_le {xs : List Fact} (h : xs.length ≤ 1048576) : (xs.map wFact).sum ≤ 4194304 := by
  have := sum_le (W := wFact) (c := 4) (xs := xs) (fun _ _ => Nat.le_refl _)
  omega
def wNode (n : Node) : Nat := (((Node.table n).map wFact).sum + ((Node.cast n).map wItem).sum + ((Node.doubts n).map wDoubt).sum + ((Node.places n).map wPlace).sum + ((Node.others n).map wForeign).sum)
def nodeWith (n : Node) (t : List Fact) (c : List Item) (d : List Doubt) (p : List Place) (o : List Foreign) : Node :=
  (n.1, n.2.1, n.2.2.1, n.2.2.2.1, n.2.2.2.2.1, n.2.2.2.2.2.1, n.2.2.2.2.2.2.1, n.2.2.2.2.2.2.2.1, t, c, Node.probe n, d, Node.coord n, p, o)
def mkNode (n : Node) (m : Int) : Node × Int :=
  let a := mks mkFact (Node.table n) m
  let b := mks mkItem (Node.cast n) a.2
  let c := mks mkDoubt (Node.doubts n) b.2
  let d := mks mkPlace (Node.places n) c.2
  let e := mks mkForeign (Node.others n) d.2
  (nodeWith n a.1 b.1 c.1 d.1 e.1, e.2)
theorem wNode_ok (n : Node) (m : Int) : (mkNode n m).2 = m + wNode n := by
  simp only [mkNode, wNode, mks_next wFact_ok, mks_next wItem_ok, mks_next wDoubt_ok, mks_next wPlace_ok, mks_next wForeign_ok]
  omega
theorem wNode_le {n : Node} (hn : NB n) : wNode n ≤ 5 * (1048576 * 4194309) := by
  have h1 := sum_bd (W := wFact) (c := 4) hn.table (by omega) (fun _ _ => Nat.le_refl _)
  have h2 := sum_bd (W := wItem) (c := 5) hn.cast (by omega) (fun _ _ => Nat.le_refl _)
  have h3 := sum_bd (W := wDoubt) (c := 1048580) hn.doubts (by omega) (fun x hx => by
    have := wInts_le (hn.by_ x hx)
    simp only [wDoubt]; omega)
  have h4 := sum_bd (W := wPlace) (c := 1048581) hn.places (by omega) (fun x hx => by
    have := wInts_le (hn.trips x hx)
    simp only [wPlace]; omega)
  have h5 := sum_bd (W := wForeign) (c := 4194305) hn.others (by omega) (fun x hx => by
    have := wFacts_le (hn.facts x hx)
    simp only [wForeign]; omega)
  simp only [wNode]
  omega
theorem markNode_ok (K : Nat) (n : Node) (hn : NB n) (m : Int) (h0 : 0 ≤ m) (hm : m + wNode n ≤ 4611686018427387904) (hK : 1048577 < K) :
    laws_markNode.f K (n, m, ()) = some (((mkNode n m).2, ()), ((mkNode n m).1, ())) := by
  simp only [wNode] at hm
  simp only [laws_markNode.f, laws_markNode.pre]
  rw [markFactS_ok K _ m hn.table h0 (by omega) hK]
  simp only [Option.bind_some]
  rw [markItemS_ok K _ _ hn.cast (by rw [mks_next wFact_ok]; omega) (by rw [mks_next wFact_ok]; omega) hK]
  simp only [Option.bind_some]
  rw [markDoubtS_ok K _ _ hn.doubts hn.by_ (by rw [mks_next wItem_ok, mks_next wFact_ok]; omega) (by rw [mks_next wItem_ok, mks_next wFact_ok]; omega) hK]
  simp only [Option.bind_some]
  rw [markPlaceS_ok K _ _ hn.places hn.trips (by rw [mks_next wDoubt_ok, mks_next wItem_ok, mks_next wFact_ok]; omega) (by rw [mks_next wDoubt_ok, mks_next wItem_ok, mks_next wFact_ok]; omega) hK]
  simp only [Option.bind_some]
  rw [markForeignS_ok K _ _ hn.others hn.facts (by rw [mks_next wPlace_ok, mks_next wDoubt_ok, mks_next wItem_ok, mks_next wFact_ok]; omega) (by rw [mks_next wPlace_ok, mks_next wDoubt_ok, mks_next wItem_ok, mks_next wFact_ok]; omega) hK]
  rfl
theorem heldIntS_ok (K : Nat) (xs : List Int) (m : Int) (hx : xs.length ≤ 1048576) (h0 : 0 ≤ m) (hm : m + ((xs.map wInt).sum : Nat) ≤ 4611686018427387904) (hK : 1048577 < K) :
    laws_heldIntS.f K ((mks mkInt xs m).1, m, ()) = some (((mks mkInt xs m).2, ()), ()) := by
  refine held_loop (step := fun rec a => laws_heldIntS.l0.step K ((mks mkInt xs m).1, m, ()) rec a) mkInt wInt (fun _ => True) wInt_ok (mks mkInt xs m).1 (by rw [mks_len]; exact hx) ?_ ?_ xs [] m K rfl (by omega) (fun _ _ => trivial) h0 hm
  · intro rec x m' i hi e _ h0 hm
    simp only [wInt] at hm
    rw [mks_len] at hi
    simp only [laws_heldIntS.l0.step]
    rw [decLt (by rw [mks_len]; omega : (i : Int) < (List.length (mks mkInt xs m).1 : Int)), idx_get (by rw [mks_len]; exact hi), wr_succ i (by omega), e]
    simp (disch := omega) only [wrp, cond_true, Option.bind_some, mkInt, bne_self_eq_false, cond_false]
  · intro rec m'
    simp only [laws_heldIntS.l0.step, decNl]
    rfl
end Go.Proofs.YthgnfidnmnkeaaaGreatEv
namespace Go.Proofs.YthgnfidnmnkeaaaGreatEv
open Go
theorem gather_loop {α β R : Type} (t : List α) (p : α → Bool) (g : α → β) (n : Nat) (fin : List β → Option R) {step : (List β × Int → Option R) → List β × Int → Option R}
    (h : ∀ (rec : List β × Int → Option R) (acc : List β) (i : Nat) (hi : i < t.length), acc.length ≤ i → acc.length < n → step rec (acc, (i : Int)) = rec (bif p t[i] then acc ++ [g t[i]] else acc, ((i + 1 : Nat) : Int)))
    (hn : ∀ (rec : List β × Int → Option R) (acc : List β) (i : Nat), i < t.length → acc.length ≤ i → n ≤ acc.length → step rec (acc, (i : Int)) = fin acc)
    (hend : ∀ (rec : List β × Int → Option R) (acc : List β), acc.length ≤ t.length → step rec (acc, (t.length : Int)) = fin acc) :
    ∀ (d i k : Nat) (acc : List β), i + d = t.length → d < k → acc.length ≤ i → acc.length ≤ n → iterate step k (acc, (i : Int)) = fin (acc ++ (((t.drop i).filter p).map g).take (n - acc.length)) := by
  intro d
  induction d with
  | zero =>
    intro i k acc hi hk ha _
    obtain ⟨k, rfl⟩ : ∃ k', k = k' + 1 := ⟨k - 1, by omega⟩
    have : i = t.length := by omega
    subst this
    show step (iterate step k) _ = _
    rw [hend _ _ ha]
    simp
  | succ d ih =>
    intro i k acc hi hk ha hle
    obtain ⟨k, rfl⟩ : ∃ k', k = k' + 1 := ⟨k - 1, by omega⟩
    have hlt : i < t.length := by omega
    show step (iterate step k) _ = _
    by_cases hc : acc.length < n
    · rw [h _ _ _ hlt ha hc, List.drop_eq_getElem_cons hlt, List.filter_cons]
      cases hp : p t[i] with
      | true =>
        simp only [cond_true, if_true, List.map_cons]
        rw [ih (i + 1) k _ (by omega) (by omega) (by simp; omega) (by simp; omega)]
        congr 1
        obtain ⟨m, hm⟩ : ∃ m, n - acc.length = m + 1 := ⟨n - acc.length - 1, by omega⟩
        rw [hm, List.take_succ_cons, List.append_assoc]
        simp only [List.length_append, List.length_cons, List.length_nil]
        rw [show n - (acc.length + (0 + 1)) = m by omega]
        rfl
      | false =>
        simp only [cond_false]
        rw [ih (i + 1) k _ (by omega) (by omega) (by omega) (by omega)]
        rfl
    · rw [hn _ _ _ hlt ha (by omega)]
      rw [show n - acc.length = 0 by omega]
      simp
theorem gather_all {α β R : Type} (t : List α) (p : α → Bool) (g : α → β) (fin : List β → Option R) {step : (List β × Int → Option R) → List β × Int → Option R}
    (h : ∀ (rec : List β × Int → Option R) (acc : List β) (i : Nat) (hi : i < t.length), acc.length ≤ i → step rec (acc, (i : Int)) = rec (bif p t[i] then acc ++ [g t[i]] else acc, ((i + 1 : Nat) : Int)))
    (hend : ∀ (rec : List β × Int → Option R) (acc : List β), acc.length ≤ t.length → step rec (acc, (t.length : Int)) = fin acc) {k : Nat} (hk : t.length < k) :
    iterate step k ([], 0) = fin ((t.filter p).map g) := by
  have := gather_loop t p g (t.length + 1) fin (fun rec acc i hi ha _ => h rec acc i hi ha) (fun rec acc i hi ha hn => by omega) hend t.length 0 k [] (by omega) hk (Nat.le_refl _) (by simp)
  refine this.trans ?_
  congr 1
  simp only [List.nil_append, List.length_nil, List.drop_zero]
  exact List.take_of_length_le (by have := List.length_filter_le p t; simp; omega)
theorem clone_ok {e : Ty} {b : Nat} {xs : List e.den} (h : xs.length * b ≤ 140737488355328) : cloneM e b xs = some ((xs, ()), ()) := by
  unfold cloneM
  rw [decide_eq_true (by simpa [sizeK] using h)]
  rfl
theorem app_ok {α β : Type} {xs ys : List α} {b : Nat} {x y : β} (h : (xs.length + ys.length) * b ≤ 140737488355328) : (bif decide ((List.length xs + List.length ys) * b ≤ sizeK) then x else y) = x := by
  rw [decide_eq_true (by simpa [sizeK] using h)]
  rfl
theorem first_i (K : Nat) (xs : List Int) (n : Int) (hx : xs.length ≤ 1048576) : impl_first.f K (xs, n, ()) = some ((xs.take n.toNat, ()), ()) := by
  simp only [impl_first.f, impl_first.pre, impl_clamp.f, impl_clamp.pre, Option.bind_some, m_slices_Clone_int_int.f]
  obtain ⟨c, hc, h0, h1, h2⟩ : ∃ c : Int, (bif decide (0 < (bif decide ((xs.length : Int) < n) then (xs.length : Int) else n)) then bif decide ((xs.length : Int) < n) then (xs.length : Int) else n else 0) = c ∧ 0 ≤ c ∧ c ≤ xs.length ∧ xs.take c.toNat = xs.take n.toNat := by
    by_cases h : (xs.length : Int) < n
    · rw [decide_eq_true h]
      simp only [cond_true]
      by_cases h2 : 0 < (xs.length : Int)
      · rw [decide_eq_true h2]
        refine ⟨_, rfl, by simp, by simp, ?_⟩
        simp only [cond_true]
        rw [List.take_of_length_le (by omega), List.take_of_length_le (by omega)]
      · rw [decide_eq_false h2]
        refine ⟨_, rfl, by simp, by simp, ?_⟩
        have : xs = [] := List.eq_nil_of_length_eq_zero (by omega)
        subst this
        simp
    · rw [decide_eq_false h]
      simp only [cond_false]
      by_cases h2 : 0 < n
      · rw [decide_eq_true h2]
        exact ⟨_, rfl, by simp; omega, by simp; omega, rfl⟩
      · rw [decide_eq_false h2]
        refine ⟨_, rfl, by simp, by simp, ?_⟩
        simp only [cond_false]
        rw [show n.toNat = 0 by omega]
        rfl
  rw [hc, decide_eq_true h0, decide_eq_true h1]
  simp only [Int.toNat_zero, List.drop_zero, decide_true, Bool.and_self, cond_true]
  rw [clone_ok (by
    have := List.length_take_le c.toNat xs
    have h3 : (List.take c.toNat xs).length ≤ 1048576 := by omega
    omega)]
  simp only [Option.bind_some]
  rw [h2]
  rfl
theorem nodes_i (K : Nat) (t : List Fact) (φ : Fact × Unit → Option Bool) (p : Fact → Bool) (ht : t.length ≤ 1048576) (hK : 1048577 < K) (hφ : ∀ f ∈ t, φ (f, ()) = some (p f)) :
    impl_nodes.f K (t, φ, ()) = some (((t.filter p).map (·.1), ()), ()) := by
  refine gather_all (step := fun rec a => impl_nodes.l0.step K (t, φ, ()) rec a) t p (fun f => f.1) (fun xs => some ((xs, ()), ())) ?_ ?_ (by omega)
  · intro rec acc i hi ha
    simp only [impl_nodes.l0.step]
    rw [decLt (by omega : (i : Int) < (List.length t : Int)), idx_get hi, wr_succ i (by omega)]
    simp only [cond_true, Option.bind_some]
    rw [hφ _ (List.getElem_mem hi)]
    simp only [Option.bind_some]
    cases p t[i] with
    | true => simp only [cond_true]; rw [app_ok (by simp; omega)]
    | false => rfl
  · intro rec acc _
    simp only [impl_nodes.l0.step, decNl]
    rfl
def gateB (f : Fact) : Bool := f.2.2.2 && f.2.2.1 == 1
def gates (t : List Fact) : List Int := ((t.filter gateB).map (·.1)).take 2
theorem gates_s (K : Nat) (t : List Fact) (ht : t.length ≤ 1048576) (hK : 1048577 < K) : spec_l3Gates.f K (t, 2, ()) = some ((gates t, ()), ()) := by
  have := gather_loop (step := fun rec a => spec_l3Gates.l0.step K (t, 2, ()) rec a) t gateB (fun f => f.1) 2 (fun xs => some ((xs, ()), ())) ?_ ?_ ?_ t.length 0 K [] (by omega) (by omega) (Nat.le_refl _) (by simp)
  · exact this
  · intro rec acc i hi ha hn
    simp only [spec_l3Gates.l0.step]
    rw [decLt (by omega : (i : Int) < (List.length t : Int)), idx_get hi, wr_succ i (by omega), decide_eq_true (by omega : (List.length acc : Int) < 2)]
    simp only [cond_true, Option.bind_some, gateB]
    cases t[i].2.2.2 with
    | true =>
      simp only [cond_true, Bool.true_and]
      cases t[i].2.2.1 == 1 with
      | true => simp only [cond_true]; rw [app_ok (by simp; omega)]
      | false => rfl
    | false => rfl
  · intro rec acc i hi ha hn
    simp only [spec_l3Gates.l0.step]
    rw [decLt (by omega : (i : Int) < (List.length t : Int)), decide_eq_false (by omega : ¬ (List.length acc : Int) < 2)]
    rfl
  · intro rec acc _
    simp only [spec_l3Gates.l0.step, decNl]
    rfl
theorem gates_i (K : Nat) (t : List Fact) (ht : t.length ≤ 1048576) (hK : 1048577 < K) (hT : TableP t) : impl_TableGates.f K (t, 2, ()) = some ((gates t, ()), ()) := by
  obtain ⟨b, h1, h2⟩ := tableOk_i K t ht hK
  simp only [impl_TableGates.f, impl_TableGates.pre]
  rw [h1]
  simp only [Option.bind_some, h2.2 hT, Bool.not_true, cond_false]
  rw [nodes_i K t _ gateB ht hK (fun f _ => by
    simp only [impl_TableGates_1.f, impl_TableGates_1.pre, gateB]
    cases f.2.2.2 <;> rfl)]
  simp only [Option.bind_some]
  rw [first_i K _ 2 (by have := List.length_filter_le gateB t; simp; omega)]
  rfl
theorem gates_len (t : List Fact) : (gates t).length ≤ 2 := by
  unfold gates
  exact List.length_take_le _ _
def known (l : List Foreign) (s : Int) : List Fact := ((l.find? fun x => x.1 == s).map (·.2)).getD []
theorem known_loop {R : Type} (l : List Foreign) (s : Int) (fin : List Fact → Option R) {step : (Int → Option R) → Int → Option R}
    (h : ∀ (rec : Int → Option R) (i : Nat) (hi : i < l.length), step rec (i : Int) = bif l[i].1 == s then fin l[i].2 else rec ((i + 1 : Nat) : Int))
    (hend : ∀ rec : Int → Option R, step rec (l.length : Int) = fin []) :
    ∀ (d i k : Nat), i + d = l.length → d < k → iterate step k (i : Int) = fin (known (l.drop i) s) := by
  intro d
  induction d with
  | zero =>
    intro i k hi hk
    obtain ⟨k, rfl⟩ : ∃ k', k = k' + 1 := ⟨k - 1, by omega⟩
    have : i = l.length := by omega
    subst this
    show step (iterate step k) _ = _
    rw [hend]
    simp [known]
  | succ d ih =>
    intro i k hi hk
    obtain ⟨k, rfl⟩ : ∃ k', k = k' + 1 := ⟨k - 1, by omega⟩
    have hlt : i < l.length := by omega
    show step (iterate step k) _ = _
    rw [h _ _ hlt, List.drop_eq_getElem_cons hlt]
    simp only [known, List.find?_cons]
    cases l[i].1 == s with
    | true => rfl
    | false => exact ih (i + 1) k (by omega) (by omega)
theorem known_i (K : Nat) (n : Node) (s : Int) (hn : NB n) (hK : 1048577 < K) : impl_Node_known.f K (n, s, ()) = some ((known (Node.others n) s, ()), ()) := by
  have hl := hn.others
  refine known_loop (step := fun rec a => impl_Node_known.l0.step K (n, s, ()) rec a) (Node.others n) s (fun t => some ((t, ()), ())) ?_ ?_ (Node.others n).length 0 K (by omega) (by omega)
  · intro rec i hi
    simp only [impl_Node_known.l0.step]
    rw [decLt (by omega : (i : Int) < (List.length (Node.others n) : Int)), idx_get hi, wr_succ i (by omega)]
    rfl
  · intro rec
    simp only [impl_Node_known.l0.step, decNl]
    rfl
theorem known_mem {l : List Foreign} {s : Int} : known l s = [] ∨ ∃ x ∈ l, x.1 = s ∧ known l s = x.2 := by
  unfold known
  cases h : l.find? fun x => x.1 == s with
  | none => exact .inl rfl
  | some x => exact .inr ⟨x, List.mem_of_find?_eq_some h, by simpa using List.find?_some h, rfl⟩
end Go.Proofs.YthgnfidnmnkeaaaGreatEv
