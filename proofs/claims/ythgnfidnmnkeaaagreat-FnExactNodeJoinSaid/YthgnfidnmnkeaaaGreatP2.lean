/- The marks that a law writes into what was answered, and the look whether they still stand. -/
import Derived.Test.YthgnfidnmnkeaaaGreatP1
import Derived.Test.YthgnfidnmnkeaaaGreatE0
namespace Go.Proofs.YthgnfidnmnkeaaaGreatEv
open Go
theorem idx_set {α : Type} {xs : List α} {i : Nat} {v : α} (h : i < xs.length) : idx (xs.set i v) (i : Int) = some v := by
  rw [idx_nat, List.getElem?_set]
  simp [h]
theorem wrp {a : Int} (h0 : 0 ≤ a) (h1 : a ≤ 9223372036854775806) : wr .i64 (a + 1) = a + 1 := wr64 (by omega) (by omega)
def mks {α : Type} (mk : α → Int → α × Int) : List α → Int → List α × Int
  | [], m => ([], m)
  | x :: xs, m => ((mk x m).1 :: (mks mk xs (mk x m).2).1, (mks mk xs (mk x m).2).2)
theorem mks_next {α : Type} {mk : α → Int → α × Int} {W : α → Nat} (hW : ∀ x m, (mk x m).2 = m + W x) : ∀ (xs : List α) (m : Int), (mks mk xs m).2 = m + ((xs.map W).sum : Nat)
  | [], m => by simp [mks]
  | x :: xs, m => by
    simp only [mks, List.map_cons, List.sum_cons]
    rw [mks_next hW xs, hW]
    omega
theorem mks_len {α : Type} {mk : α → Int → α × Int} : ∀ (xs : List α) (m : Int), (mks mk xs m).1.length = xs.length
  | [], _ => rfl
  | x :: xs, m => by simp [mks, mks_len xs]
abbrev MkR (α : Type) := (Int × Unit) × (List α × Unit)
theorem mark_loop {α : Type} (mk : α → Int → α × Int) (W : α → Nat) (P : α → Prop) (hW : ∀ x m, (mk x m).2 = m + W x) {step : (List α × Int × Int → Option (MkR α)) → List α × Int × Int → Option (MkR α)}
    (h : ∀ (rec : List α × Int × Int → Option (MkR α)) (ys : List α) (m : Int) (i : Nat) (hi : i < ys.length), ys.length ≤ 1048576 → P ys[i] → 0 ≤ m → m + W ys[i] ≤ 4611686018427387904 → step rec (ys, m, (i : Int)) = rec (ys.set i (mk ys[i] m).1, (mk ys[i] m).2, ((i + 1 : Nat) : Int)))
    (hend : ∀ (rec : List α × Int × Int → Option (MkR α)) (ys : List α) (m : Int), step rec (ys, m, (ys.length : Int)) = some ((m, ()), (ys, ()))) :
    ∀ (xs pre : List α) (m : Int) (k : Nat), pre.length + xs.length ≤ 1048576 → xs.length < k → (∀ x ∈ xs, P x) → 0 ≤ m → m + ((xs.map W).sum : Nat) ≤ 4611686018427387904 →
      iterate step k (pre ++ xs, m, ((pre.length : Nat) : Int)) = some (((mks mk xs m).2, ()), (pre ++ (mks mk xs m).1, ())) := by
  intro xs
  induction xs with
  | nil =>
    intro pre m k hl hk _ _ _
    obtain ⟨k, rfl⟩ : ∃ k', k = k' + 1 := ⟨k - 1, by omega⟩
    show step (iterate step k) _ = _
    rw [List.append_nil, hend]
    simp [mks]
  | cons x xs ih =>
    intro pre m k hl hk hP h0 hm
    simp only [List.length_cons] at hl hk
    obtain ⟨k, rfl⟩ : ∃ k', k = k' + 1 := ⟨k - 1, by omega⟩
    have hi : pre.length < (pre ++ x :: xs).length := by simp
    have e : (pre ++ x :: xs)[pre.length] = x := by simp
    simp only [List.map_cons, List.sum_cons] at hm
    have h1 := h (iterate step k) (pre ++ x :: xs) m pre.length hi (by simp; omega) (e.symm ▸ hP x (List.mem_cons_self ..)) h0 (by rw [e]; omega)
    rw [e] at h1
    show step (iterate step k) _ = _
    rw [h1]
    have e2 : (pre ++ x :: xs).set pre.length (mk x m).1 = (pre ++ [(mk x m).1]) ++ xs := by simp
    rw [e2]
    have h2 := ih (pre ++ [(mk x m).1]) (mk x m).2 k (by simp; omega) (by omega) (fun y hy => hP y (List.mem_cons_of_mem _ hy)) (by rw [hW]; omega) (by rw [hW]; omega)
    simp only [List.length_append, List.length_cons, List.length_nil, Nat.zero_add] at h2
    rw [h2]
    simp [mks]
theorem held_loop {α : Type} (mk : α → Int → α × Int) (W : α → Nat) (P : α → Prop) (hW : ∀ x m, (mk x m).2 = m + W x) (ys : List α) {step : (Int × Int → Option ((Int × Unit) × Unit)) → Int × Int → Option ((Int × Unit) × Unit)} (hys : ys.length ≤ 1048576)
    (h : ∀ (rec : Int × Int → Option ((Int × Unit) × Unit)) (x : α) (m : Int) (i : Nat) (hi : i < ys.length), ys[i] = (mk x m).1 → P x → 0 ≤ m → m + W x ≤ 4611686018427387904 → step rec (m, (i : Int)) = rec ((mk x m).2, ((i + 1 : Nat) : Int)))
    (hend : ∀ (rec : Int × Int → Option ((Int × Unit) × Unit)) (m : Int), step rec (m, (ys.length : Int)) = some ((m, ()), ())) :
    ∀ (xs pre : List α) (m : Int) (k : Nat), ys = pre ++ (mks mk xs m).1 → xs.length < k → (∀ x ∈ xs, P x) → 0 ≤ m → m + ((xs.map W).sum : Nat) ≤ 4611686018427387904 →
      iterate step k (m, ((pre.length : Nat) : Int)) = some (((mks mk xs m).2, ()), ()) := by
  intro xs
  induction xs with
  | nil =>
    intro pre m k e hk _ _ _
    obtain ⟨k, rfl⟩ : ∃ k', k = k' + 1 := ⟨k - 1, by omega⟩
    have e' : pre.length = ys.length := by rw [e]; simp [mks]
    show step (iterate step k) _ = _
    rw [e', hend]
    rfl
  | cons x xs ih =>
    intro pre m k e hk hP h0 hm
    simp only [List.length_cons] at hk
    obtain ⟨k, rfl⟩ : ∃ k', k = k' + 1 := ⟨k - 1, by omega⟩
    simp only [List.map_cons, List.sum_cons] at hm
    have hi : pre.length < ys.length := by rw [e]; simp [mks]
    have e1 : ys[pre.length] = (mk x m).1 := by subst e; simp [mks]
    have h1 := h (iterate step k) x m pre.length hi e1 (hP x (List.mem_cons_self ..)) h0 (by omega)
    show step (iterate step k) _ = _
    rw [h1]
    have h2 := ih (pre ++ [(mk x m).1]) (mk x m).2 k (by rw [e]; simp [mks]) (by omega) (fun y hy => hP y (List.mem_cons_of_mem _ hy)) (by rw [hW]; omega) (by rw [hW]; omega)
    simp only [List.length_append, List.length_cons, List.length_nil, Nat.zero_add] at h2
    rw [h2]
    rfl
def mkInt (_ : Int) (m : Int) : Int × Int := (m, m + 1)
def mkFact (_ : Fact) (m : Int) : Fact × Int := ((m, m + 1, m + 1 + 1, (Int.tmod (m + 1 + 1 + 1) 3 == 0)), m + 1 + 1 + 1 + 1)
def mkItem (x : Item) (m : Int) : Item × Int := (((mkFact x.1 m).1, m + 1 + 1 + 1 + 1), m + 1 + 1 + 1 + 1 + 1)
def mkDoubt (d : Doubt) (m : Int) : Doubt × Int := ((m, m + 1, m + 1 + 1, (mks mkInt d.2.2.2 (m + 1 + 1 + 1)).1), (mks mkInt d.2.2.2 (m + 1 + 1 + 1)).2)
def mkPlace (d : Place) (m : Int) : Place × Int := ((m, (m + 1, m + 1 + 1, m + 1 + 1 + 1, m + 1 + 1 + 1 + 1), (mks mkInt d.2.2 (m + 1 + 1 + 1 + 1 + 1)).1), (mks mkInt d.2.2 (m + 1 + 1 + 1 + 1 + 1)).2)
def mkForeign (d : Foreign) (m : Int) : Foreign × Int := ((m, (mks mkFact d.2 (m + 1)).1), (mks mkFact d.2 (m + 1)).2)
def wInt (_ : Int) : Nat := 1
def wFact (_ : Fact) : Nat := 4
def wItem (_ : Item) : Nat := 5
def wDoubt (d : Doubt) : Nat := 3 + (d.2.2.2.map wInt).sum
def wPlace (d : Place) : Nat := 5 + (d.2.2.map wInt).sum
def wForeign (d : Foreign) : Nat := 1 + (d.2.map wFact).sum
theorem wInt_ok (x : Int) (m : Int) : (mkInt x m).2 = m + wInt x := by simp [mkInt, wInt]
theorem wFact_ok (x : Fact) (m : Int) : (mkFact x m).2 = m + wFact x := by simp only [mkFact, wFact]; omega
theorem wItem_ok (x : Item) (m : Int) : (mkItem x m).2 = m + wItem x := by simp only [mkItem, wItem]; omega
theorem wDoubt_ok (x : Doubt) (m : Int) : (mkDoubt x m).2 = m + wDoubt x := by simp only [mkDoubt, wDoubt, mks_next wInt_ok]; omega
theorem wPlace_ok (x : Place) (m : Int) : (mkPlace x m).2 = m + wPlace x := by simp only [mkPlace, wPlace, mks_next wInt_ok]; omega
theorem wForeign_ok (x : Foreign) (m : Int) : (mkForeign x m).2 = m + wForeign x := by simp only [mkForeign, wForeign, mks_next wFact_ok]; omega
theorem markIntS_ok (K : Nat) (xs : List Int) (m : Int) (hx : xs.length ≤ 1048576) (h0 : 0 ≤ m) (hm : m + ((xs.map wInt).sum : Nat) ≤ 4611686018427387904) (hK : 1048577 < K) :
    laws_markIntS.f K (xs, m, ()) = some (((mks mkInt xs m).2, ()), ((mks mkInt xs m).1, ())) := by
  refine mark_loop (step := fun rec a => laws_markIntS.l0.step K (xs, m, ()) rec a) mkInt wInt (fun _ => True) wInt_ok ?_ ?_ xs [] m K (by simpa using hx) (by omega) (fun _ _ => trivial) h0 hm
  · intro rec ys m i hi hl _ h0 hm
    simp only [wInt] at hm
    simp only [laws_markIntS.l0.step]
    rw [decLt (by omega : (i : Int) < (List.length ys : Int)), idx_get hi, wr_succ i (by omega), wrp h0 (by omega)]
    simp only [cond_true, Option.bind_some, Int.toNat_natCast, idx_get hi]
    rfl
  · intro rec ys m
    simp only [laws_markIntS.l0.step, decNl]
    rfl
theorem markFactS_ok (K : Nat) (xs : List Fact) (m : Int) (hx : xs.length ≤ 1048576) (h0 : 0 ≤ m) (hm : m + ((xs.map wFact).sum : Nat) ≤ 4611686018427387904) (hK : 1048577 < K) :
    laws_markFactS.f K (xs, m, ()) = some (((mks mkFact xs m).2, ()), ((mks mkFact xs m).1, ())) := by
  refine mark_loop (step := fun rec a => laws_markFactS.l0.step K (xs, m, ()) rec a) mkFact wFact (fun _ => True) wFact_ok ?_ ?_ xs [] m K (by simpa using hx) (by omega) (fun _ _ => trivial) h0 hm
  · intro rec ys m i hi hl _ h0 hm
    simp only [wFact] at hm
    simp only [laws_markFactS.l0.step]
    rw [decLt (by omega : (i : Int) < (List.length ys : Int)), idx_get hi, wr_succ i (by omega)]
    simp (disch := omega) only [wrp, cond_true, Option.bind_some, Int.toNat_natCast, List.set_set, idx_set hi, idx_get hi]
    rfl
  · intro rec ys m
    simp only [laws_markFactS.l0.step, decNl]
    rfl
theorem markItemS_ok (K : Nat) (xs : List Item) (m : Int) (hx : xs.length ≤ 1048576) (h0 : 0 ≤ m) (hm : m + ((xs.map wItem).sum : Nat) ≤ 4611686018427387904) (hK : 1048577 < K) :
    laws_markItemS.f K (xs, m, ()) = some (((mks mkItem xs m).2, ()), ((mks mkItem xs m).1, ())) := by
  refine mark_loop (step := fun rec a => laws_markItemS.l0.step K (xs, m, ()) rec a) mkItem wItem (fun _ => True) wItem_ok ?_ ?_ xs [] m K (by simpa using hx) (by omega) (fun _ _ => trivial) h0 hm
  · intro rec ys m i hi hl _ h0 hm
    simp only [wItem] at hm
    simp only [laws_markItemS.l0.step]
    rw [decLt (by omega : (i : Int) < (List.length ys : Int)), idx_get hi, wr_succ i (by omega)]
    simp (disch := omega) only [wrp, cond_true, Option.bind_some, Int.toNat_natCast, List.set_set, idx_set hi, idx_get hi]
    rfl
  · intro rec ys m
    simp only [laws_markItemS.l0.step, decNl]
    rfl
theorem markDoubtS_ok (K : Nat) (xs : List Doubt) (m : Int) (hx : xs.length ≤ 1048576) (hb : ∀ y ∈ xs, y.2.2.2.length ≤ 1048576) (h0 : 0 ≤ m) (hm : m + ((xs.map wDoubt).sum : Nat) ≤ 4611686018427387904) (hK : 1048577 < K) :
    laws_markDoubtS.f K (xs, m, ()) = some (((mks mkDoubt xs m).2, ()), ((mks mkDoubt xs m).1, ())) := by
  refine mark_loop (step := fun rec a => laws_markDoubtS.l0.step K (xs, m, ()) rec a) mkDoubt wDoubt (fun y => y.2.2.2.length ≤ 1048576) wDoubt_ok ?_ ?_ xs [] m K (by simpa using hx) (by omega) hb h0 hm
  · intro rec ys m i hi hl hb h0 hm
    simp only [wDoubt] at hm
    simp only [laws_markDoubtS.l0.step]
    rw [decLt (by omega : (i : Int) < (List.length ys : Int)), idx_get hi, wr_succ i (by omega)]
    simp (disch := omega) only [wrp, cond_true, Option.bind_some, Int.toNat_natCast, List.set_set, idx_set hi, idx_get hi]
    rw [markIntS_ok K _ _ hb (by omega) (by omega) hK]
    rfl
  · intro rec ys m
    simp only [laws_markDoubtS.l0.step, decNl]
    rfl
theorem markPlaceS_ok (K : Nat) (xs : List Place) (m : Int) (hx : xs.length ≤ 1048576) (hb : ∀ y ∈ xs, y.2.2.length ≤ 1048576) (h0 : 0 ≤ m) (hm : m + ((xs.map wPlace).sum : Nat) ≤ 4611686018427387904) (hK : 1048577 < K) :
    laws_markPlaceS.f K (xs, m, ()) = some (((mks mkPlace xs m).2, ()), ((mks mkPlace xs m).1, ())) := by
  refine mark_loop (step := fun rec a => laws_markPlaceS.l0.step K (xs, m, ()) rec a) mkPlace wPlace (fun y => y.2.2.length ≤ 1048576) wPlace_ok ?_ ?_ xs [] m K (by simpa using hx) (by omega) hb h0 hm
  · intro rec ys m i hi hl hb h0 hm
    simp only [wPlace] at hm
    simp only [laws_markPlaceS.l0.step]
    rw [decLt (by omega : (i : Int) < (List.length ys : Int)), idx_get hi, wr_succ i (by omega)]
    simp (disch := omega) only [wrp, cond_true, Option.bind_some, Int.toNat_natCast, List.set_set, idx_set hi, idx_get hi]
    rw [markIntS_ok K _ _ hb (by omega) (by omega) hK]
    rfl
  · intro rec ys m
    simp only [laws_markPlaceS.l0.step, decNl]
    rfl
theorem markForeignS_ok (K : Nat) (xs : List Foreign) (m : Int) (hx : xs.length ≤ 1048576) (hb : ∀ y ∈ xs, y.2.length ≤ 1048576) (h0 : 0 ≤ m) (hm : m + ((xs.map wForeign).sum : Nat) ≤ 4611686018427387904) (hK : 1048577 < K) :
    laws_markForeignS.f K (xs, m, ()) = some (((mks mkForeign xs m).2, ()), ((mks mkForeign xs m).1, ())) := by
  refine mark_loop (step := fun rec a => laws_markForeignS.l0.step K (xs, m, ()) rec a) mkForeign wForeign (fun y => y.2.length ≤ 1048576) wForeign_ok ?_ ?_ xs [] m K (by simpa using hx) (by omega) hb h0 hm
  · intro rec ys m i hi hl hb h0 hm
    simp only [wForeign] at hm
    simp only [laws_markForeignS.l0.step]
    rw [decLt (by omega : (i : Int) < (List.length ys : Int)), idx_get hi, wr_succ i (by omega)]
    simp (disch := omega) only [wrp, cond_true, Option.bind_some, Int.toNat_natCast, List.set_set, idx_set hi, idx_get hi]
    rw [markFactS_ok K _ _ hb (by omega) (by omega) hK]
    rfl
  · intro rec ys m
    simp only [laws_markForeignS.l0.step, decNl]
    rfl
end Go.Proofs.YthgnfidnmnkeaaaGreatEv
namespace Go.Proofs.YthgnfidnmnkeaaaGreatEv
open Go
theorem nneg {a : Int} (h : 0 ≤ a) : decide (a < 0) = false := decide_eq_false (by omega)
theorem sum_le {α : Type} {W : α → Nat} {c : Nat} : ∀ {xs : List α}, (∀ x ∈ xs, W x ≤ c) → (xs.map W).sum ≤ xs.length * c
  | [], _ => by simp
  | x :: xs, h => by
    have h1 := h x (List.mem_cons_self ..)
    have h2 := sum_le (xs := xs) (fun y hy => h y (List.mem_cons_of_mem _ hy))
    simp only [List.map_cons, List.sum_cons, List.length_cons, Nat.succ_mul]
    omega
theorem sum_bd {α : Type} {W : α → Nat} {xs : List α} (hx : xs.length ≤ 1048576) {c : Nat} (hc : c ≤ 4194309) (h : ∀ x ∈ xs, W x ≤ c) : (xs.map W).sum ≤ 1048576 * 4194309 :=
  Nat.le_trans (sum_le h) (Nat.mul_le_mul hx hc)
theorem wInts_le {xs : List Int} (h : xs.length ≤ 1048576) : (xs.map wInt).sum ≤ 1048576 := by
  have := sum_le (W := wInt) (c := 1) (xs := xs) (fun _ _ => Nat.le_refl _)
  omega
theorem wFacts_le {xs : List Fact} (h : xs.length ≤ 1048576) : (xs.map wFact).sum ≤ 4194304 := by
  have := sum_le (W := wFact) (c := 4) (xs := xs) (fun _ _ => Nat.le_refl _)
  omega
def wNode (n : Node) : Nat := (((Node.table n).map wFact).sum + ((Node.cast n).map wItem).sum + ((Node.doubts n).map wDoubt).sum + ((Node.places n).map wPlace).sum + ((Node.others n).map wForeign).sum)
def nodeWith (n : Node) (t : List Fact) (c : List Item) (d : List Doubt) (p : List Place) (o : List Foreign) : Node :=
  (n.1, n.2.1, n.2.2.1, n.2.2.2.1, n.2.2.2.2.1, n.2.2.2.2.2.1, n.2.2.2.2.2.2.1, n.2.2.2.2.2.2.2.1, t, c, Node.probe n, d, Node.coord n, p, o)
def mkNode (n : Node) (m : Int) : Node × Int :=
  let a := mks mkFact (Node.table n) m
  let b := mks mkItem (Node.cast n) a.2
  let c := mks mkDoubt (Node.doubts n) b.2
  let d := mks mkPlace (Node.places n) c.2
  let e := mks mkForeign (Node.others n) d.2
  (nodeWith n a.1 b.1 c.1 d.1 e.1, e.2)
theorem wNode_ok (n : Node) (m : Int) : (mkNode n m).2 = m + wNode n := by
  simp only [mkNode, wNode, mks_next wFact_ok, mks_next wItem_ok, mks_next wDoubt_ok, mks_next wPlace_ok, mks_next wForeign_ok]
  omega
theorem wNode_le {n : Node} (hn : NB n) : wNode n ≤ 5 * (1048576 * 4194309) := by
  have h1 := sum_bd (W := wFact) (c := 4) hn.table (by omega) (fun _ _ => Nat.le_refl _)
  have h2 := sum_bd (W := wItem) (c := 5) hn.cast (by omega) (fun _ _ => Nat.le_refl _)
  have h3 := sum_bd (W := wDoubt) (c := 1048580) hn.doubts (by omega) (fun x hx => by
    have := wInts_le (hn.by_ x hx)
    simp only [wDoubt]; omega)
  have h4 := sum_bd (W := wPlace) (c := 1048581) hn.places (by omega) (fun x hx => by
    have := wInts_le (hn.trips x hx)
    simp only [wPlace]; omega)
  have h5 := sum_bd (W := wForeign) (c := 4194305) hn.others (by omega) (fun x hx => by
    have := wFacts_le (hn.facts x hx)
    simp only [wForeign]; omega)
  simp only [wNode]
  omega
theorem markNode_ok (K : Nat) (n : Node) (hn : NB n) (m : Int) (h0 : 0 ≤ m) (hm : m + wNode n ≤ 4611686018427387904) (hK : 1048577 < K) :
    laws_markNode.f K (n, m, ()) = some (((mkNode n m).2, ()), ((mkNode n m).1, ())) := by
  simp only [wNode] at hm
  simp only [laws_markNode.f, laws_markNode.pre]
  rw [markFactS_ok K _ m hn.table h0 (by omega) hK]
  simp only [Option.bind_some]
  rw [markItemS_ok K _ _ hn.cast (by rw [mks_next wFact_ok]; omega) (by rw [mks_next wFact_ok]; omega) hK]
  simp only [Option.bind_some]
  rw [markDoubtS_ok K _ _ hn.doubts hn.by_ (by rw [mks_next wItem_ok, mks_next wFact_ok]; omega) (by rw [mks_next wItem_ok, mks_next wFact_ok]; omega) hK]
  simp only [Option.bind_some]
  rw [markPlaceS_ok K _ _ hn.places hn.trips (by rw [mks_next wDoubt_ok, mks_next wItem_ok, mks_next wFact_ok]; omega) (by rw [mks_next wDoubt_ok, mks_next wItem_ok, mks_next wFact_ok]; omega) hK]
  simp only [Option.bind_some]
  rw [markForeignS_ok K _ _ hn.others hn.facts (by rw [mks_next wPlace_ok, mks_next wDoubt_ok, mks_next wItem_ok, mks_next wFact_ok]; omega) (by rw [mks_next wPlace_ok, mks_next wDoubt_ok, mks_next wItem_ok, mks_next wFact_ok]; omega) hK]
  rfl
theorem heldIntS_ok (K : Nat) (xs : List Int) (m : Int) (hx : xs.length ≤ 1048576) (h0 : 0 ≤ m) (hm : m + ((xs.map wInt).sum : Nat) ≤ 4611686018427387904) (hK : 1048577 < K) :
    laws_heldIntS.f K ((mks mkInt xs m).1, m, ()) = some (((mks mkInt xs m).2, ()), ()) := by
  refine held_loop (step := fun rec a => laws_heldIntS.l0.step K ((mks mkInt xs m).1, m, ()) rec a) mkInt wInt (fun _ => True) wInt_ok (mks mkInt xs m).1 (by rw [mks_len]; exact hx) ?_ ?_ xs [] m K rfl (by omega) (fun _ _ => trivial) h0 hm
  · intro rec x m' i hi e _ h0 hm
    simp only [wInt] at hm
    rw [mks_len] at hi
    simp only [laws_heldIntS.l0.step]
    rw [decLt (by rw [mks_len]; omega : (i : Int) < (List.length (mks mkInt xs m).1 : Int)), idx_get (by rw [mks_len]; exact hi), wr_succ i (by omega), e]
    simp (disch := omega) only [wrp, cond_true, Option.bind_some, mkInt, bne_self_eq_false, cond_false]
  · intro rec m'
    simp only [laws_heldIntS.l0.step, decNl]
    rfl
theorem heldFactS_ok (K : Nat) (xs : List Fact) (m : Int) (hx : xs.length ≤ 1048576) (h0 : 0 ≤ m) (hm : m + ((xs.map wFact).sum : Nat) ≤ 4611686018427387904) (hK : 1048577 < K) :
    laws_heldFactS.f K ((mks mkFact xs m).1, m, ()) = some (((mks mkFact xs m).2, ()), ()) := by
  refine held_loop (step := fun rec a => laws_heldFactS.l0.step K ((mks mkFact xs m).1, m, ()) rec a) mkFact wFact (fun _ => True) wFact_ok (mks mkFact xs m).1 (by rw [mks_len]; exact hx) ?_ ?_ xs [] m K rfl (by omega) (fun _ _ => trivial) h0 hm
  · intro rec x m' i hi e _ h0 hm
    simp only [wFact] at hm
    rw [mks_len] at hi
    simp only [laws_heldFactS.l0.step]
    rw [decLt (by rw [mks_len]; omega : (i : Int) < (List.length (mks mkFact xs m).1 : Int)), idx_get (by rw [mks_len]; exact hi), wr_succ i (by omega), e]
    simp (disch := omega) only [wrp, cond_true, Option.bind_some, mkFact, bne_self_eq_false, cond_false]
  · intro rec m'
    simp only [laws_heldFactS.l0.step, decNl]
    rfl
theorem heldItemS_ok (K : Nat) (xs : List Item) (m : Int) (hx : xs.length ≤ 1048576) (h0 : 0 ≤ m) (hm : m + ((xs.map wItem).sum : Nat) ≤ 4611686018427387904) (hK : 1048577 < K) :
    laws_heldItemS.f K ((mks mkItem xs m).1, m, ()) = some (((mks mkItem xs m).2, ()), ()) := by
  refine held_loop (step := fun rec a => laws_heldItemS.l0.step K ((mks mkItem xs m).1, m, ()) rec a) mkItem wItem (fun _ => True) wItem_ok (mks mkItem xs m).1 (by rw [mks_len]; exact hx) ?_ ?_ xs [] m K rfl (by omega) (fun _ _ => trivial) h0 hm
  · intro rec x m' i hi e _ h0 hm
    simp only [wItem] at hm
    rw [mks_len] at hi
    simp only [laws_heldItemS.l0.step]
    rw [decLt (by rw [mks_len]; omega : (i : Int) < (List.length (mks mkItem xs m).1 : Int)), idx_get (by rw [mks_len]; exact hi), wr_succ i (by omega), e]
    simp (disch := omega) only [wrp, cond_true, Option.bind_some, mkItem, mkFact, bne_self_eq_false, cond_false]
  · intro rec m'
    simp only [laws_heldItemS.l0.step, decNl]
    rfl
theorem heldDoubtS_ok (K : Nat) (xs : List Doubt) (m : Int) (hx : xs.length ≤ 1048576) (hb : ∀ y ∈ xs, y.2.2.2.length ≤ 1048576) (h0 : 0 ≤ m) (hm : m + ((xs.map wDoubt).sum : Nat) ≤ 4611686018427387904) (hK : 1048577 < K) :
    laws_heldDoubtS.f K ((mks mkDoubt xs m).1, m, ()) = some (((mks mkDoubt xs m).2, ()), ()) := by
  refine held_loop (step := fun rec a => laws_heldDoubtS.l0.step K ((mks mkDoubt xs m).1, m, ()) rec a) mkDoubt wDoubt (fun y => y.2.2.2.length ≤ 1048576) wDoubt_ok (mks mkDoubt xs m).1 (by rw [mks_len]; exact hx) ?_ ?_ xs [] m K rfl (by omega) hb h0 hm
  · intro rec x m' i hi e hb h0 hm
    simp only [wDoubt] at hm
    rw [mks_len] at hi
    simp only [laws_heldDoubtS.l0.step]
    rw [decLt (by rw [mks_len]; omega : (i : Int) < (List.length (mks mkDoubt xs m).1 : Int)), idx_get (by rw [mks_len]; exact hi), wr_succ i (by omega), e]
    simp (disch := omega) only [wrp, cond_true, Option.bind_some, mkDoubt, bne_self_eq_false, cond_false]
    rw [heldIntS_ok K _ _ hb (by omega) (by omega) hK]
    simp only [Option.bind_some]
    rw [nneg (a := (mks mkInt _ _).2) (by rw [mks_next wInt_ok]; omega)]
    rfl
  · intro rec m'
    simp only [laws_heldDoubtS.l0.step, decNl]
    rfl
theorem heldPlaceS_ok (K : Nat) (xs : List Place) (m : Int) (hx : xs.length ≤ 1048576) (hb : ∀ y ∈ xs, y.2.2.length ≤ 1048576) (h0 : 0 ≤ m) (hm : m + ((xs.map wPlace).sum : Nat) ≤ 4611686018427387904) (hK : 1048577 < K) :
    laws_heldPlaceS.f K ((mks mkPlace xs m).1, m, ()) = some (((mks mkPlace xs m).2, ()), ()) := by
  refine held_loop (step := fun rec a => laws_heldPlaceS.l0.step K ((mks mkPlace xs m).1, m, ()) rec a) mkPlace wPlace (fun y => y.2.2.length ≤ 1048576) wPlace_ok (mks mkPlace xs m).1 (by rw [mks_len]; exact hx) ?_ ?_ xs [] m K rfl (by omega) hb h0 hm
  · intro rec x m' i hi e hb h0 hm
    simp only [wPlace] at hm
    rw [mks_len] at hi
    simp only [laws_heldPlaceS.l0.step]
    rw [decLt (by rw [mks_len]; omega : (i : Int) < (List.length (mks mkPlace xs m).1 : Int)), idx_get (by rw [mks_len]; exact hi), wr_succ i (by omega), e]
    simp (disch := omega) only [wrp, cond_true, Option.bind_some, mkPlace, bne_self_eq_false, cond_false]
    rw [heldIntS_ok K _ _ hb (by omega) (by omega) hK]
    simp only [Option.bind_some]
    rw [nneg (a := (mks mkInt _ _).2) (by rw [mks_next wInt_ok]; omega)]
    rfl
  · intro rec m'
    simp only [laws_heldPlaceS.l0.step, decNl]
    rfl
theorem heldForeignS_ok (K : Nat) (xs : List Foreign) (m : Int) (hx : xs.length ≤ 1048576) (hb : ∀ y ∈ xs, y.2.length ≤ 1048576) (h0 : 0 ≤ m) (hm : m + ((xs.map wForeign).sum : Nat) ≤ 4611686018427387904) (hK : 1048577 < K) :
    laws_heldForeignS.f K ((mks mkForeign xs m).1, m, ()) = some (((mks mkForeign xs m).2, ()), ()) := by
  refine held_loop (step := fun rec a => laws_heldForeignS.l0.step K ((mks mkForeign xs m).1, m, ()) rec a) mkForeign wForeign (fun y => y.2.length ≤ 1048576) wForeign_ok (mks mkForeign xs m).1 (by rw [mks_len]; exact hx) ?_ ?_ xs [] m K rfl (by omega) hb h0 hm
  · intro rec x m' i hi e hb h0 hm
    simp only [wForeign] at hm
    rw [mks_len] at hi
    simp only [laws_heldForeignS.l0.step]
    rw [decLt (by rw [mks_len]; omega : (i : Int) < (List.length (mks mkForeign xs m).1 : Int)), idx_get (by rw [mks_len]; exact hi), wr_succ i (by omega), e]
    simp (disch := omega) only [wrp, cond_true, Option.bind_some, mkForeign, bne_self_eq_false, cond_false]
    rw [heldFactS_ok K _ _ hb (by omega) (by omega) hK]
    simp only [Option.bind_some]
    rw [nneg (a := (mks mkFact _ _).2) (by rw [mks_next wFact_ok]; omega)]
    rfl
  · intro rec m'
    simp only [laws_heldForeignS.l0.step, decNl]
    rfl
theorem heldNode_ok (K : Nat) (n : Node) (hn : NB n) (m : Int) (h0 : 0 ≤ m) (hm : m + wNode n ≤ 4611686018427387904) (hK : 1048577 < K) :
    laws_heldNode.f K ((mkNode n m).1, m, ()) = some (((mkNode n m).2, ()), ()) := by
  simp only [wNode] at hm
  simp only [laws_heldNode.f, laws_heldNode.pre, mkNode, nodeWith]
  rw [heldFactS_ok K _ m hn.table h0 (by omega) hK]
  simp only [Option.bind_some]
  rw [nneg (a := (mks mkFact (Node.table n) m).2) (by rw [mks_next wFact_ok]; omega), heldItemS_ok K _ _ hn.cast (by rw [mks_next wFact_ok]; omega) (by rw [mks_next wFact_ok]; omega) hK]
  simp only [Option.bind_some, cond_false]
  rw [nneg (a := (mks mkItem (Node.cast n) (mks mkFact (Node.table n) m).2).2) (by rw [mks_next wItem_ok, mks_next wFact_ok]; omega), heldDoubtS_ok K _ _ hn.doubts hn.by_ (by rw [mks_next wItem_ok, mks_next wFact_ok]; omega) (by rw [mks_next wItem_ok, mks_next wFact_ok]; omega) hK]
  simp only [Option.bind_some, cond_false]
  rw [nneg (a := (mks mkDoubt (Node.doubts n) (mks mkItem (Node.cast n) (mks mkFact (Node.table n) m).2).2).2) (by rw [mks_next wDoubt_ok, mks_next wItem_ok, mks_next wFact_ok]; omega), heldPlaceS_ok K _ _ hn.places hn.trips (by rw [mks_next wDoubt_ok, mks_next wItem_ok, mks_next wFact_ok]; omega) (by rw [mks_next wDoubt_ok, mks_next wItem_ok, mks_next wFact_ok]; omega) hK]
  simp only [Option.bind_some, cond_false]
  rw [nneg (a := (mks mkPlace (Node.places n) (mks mkDoubt (Node.doubts n) (mks mkItem (Node.cast n) (mks mkFact (Node.table n) m).2).2).2).2) (by rw [mks_next wPlace_ok, mks_next wDoubt_ok, mks_next wItem_ok, mks_next wFact_ok]; omega), heldForeignS_ok K _ _ hn.others hn.facts (by rw [mks_next wPlace_ok, mks_next wDoubt_ok, mks_next wItem_ok, mks_next wFact_ok]; omega) (by rw [mks_next wPlace_ok, mks_next wDoubt_ok, mks_next wItem_ok, mks_next wFact_ok]; omega) hK]
  simp only [Option.bind_some, cond_false]
  rw [nneg (a := (mks mkForeign (Node.others n) (mks mkPlace (Node.places n) (mks mkDoubt (Node.doubts n) (mks mkItem (Node.cast n) (mks mkFact (Node.table n) m).2).2).2).2).2) (by rw [mks_next wForeign_ok, mks_next wPlace_ok, mks_next wDoubt_ok, mks_next wItem_ok, mks_next wFact_ok]; omega)]
  rfl
end Go.Proofs.YthgnfidnmnkeaaaGreatEv
namespace Go.Proofs.YthgnfidnmnkeaaaGreatEv
open Go
theorem clone_ok {e : Ty} {b : Nat} {xs : List e.den} (h : xs.length * b ≤ 140737488355328) : cloneM e b xs = some ((xs, ()), ()) := by
  unfold cloneM
  rw [decide_eq_true (by simpa [sizeK] using h)]
  rfl
end Go.Proofs.YthgnfidnmnkeaaaGreatEv
namespace Go.Proofs.YthgnfidnmnkeaaaGreatEv
open Go
theorem nodeOk_both (K : Nat) (n : Node) (hn : NB n) (hK : 1048577 < K) : ∃ b, spec_NodeOk.f K (n, ()) = rb b ∧ impl_NodeOk.f K (n, ()) = rb b ∧ (b = true ↔ NodeP n) := by
  obtain ⟨b, h1, h2⟩ := nodeOk_s K n hn hK
  obtain ⟨b', h3, h4⟩ := nodeOk_i K n hn hK
  have : b = b' := by rw [Bool.eq_iff_iff, h2, h4]
  subst this
  exact ⟨b, h1, h3, h2⟩
theorem mark_copy (K : Nat) (n : Node) (hn : NB n) (hK : 1048577 < K) : ∃ m : Int, 0 ≤ m ∧ laws_markNode.f K (n, 1, ()) = some ((m, ()), ((mkNode n 1).1, ())) := by
  refine ⟨(mkNode n 1).2, ?_, markNode_ok K n hn 1 (by omega) ?_ hK⟩
  · rw [wNode_ok]; omega
  · have := wNode_le hn; omega
end Go.Proofs.YthgnfidnmnkeaaaGreatEv
namespace Go.Proofs.YthgnfidnmnkeaaaGreatEv
open Go
abbrev Word := Int × Int × Int × Int × Int × Int × Coord × List Fact
abbrev Word.table (w : Word) : List Fact := w.2.2.2.2.2.2.2
abbrev Word.coord (w : Word) : Coord := w.2.2.2.2.2.2.1
theorem eqWord_refl (K : Nat) (w : Word) (hw : (Word.table w).length ≤ 1048576) (hK : 1048577 < K) : laws_eqWord.f K (w, w, ()) = rb true := by
  simp only [laws_eqWord.f, laws_eqWord.pre, bne_self_eq_false, cond_false]
  rw [eqCoord_refl K, eqFactS_refl K _ hw hK]
  rfl
end Go.Proofs.YthgnfidnmnkeaaaGreatEv
namespace Go.Proofs.YthgnfidnmnkeaaaGreatEv
open Go
theorem copy_loop {α A R : Type} (xs : List α) (S : List α → Nat → A) (fin : Option R) {step : (A → Option R) → A → Option R}
    (h : ∀ (rec : A → Option R) (acc : List α) (i : Nat) (hi : i < xs.length), acc.length = i → step rec (S acc i) = rec (S (acc ++ [xs[i]]) (i + 1))) (hend : ∀ rec : A → Option R, step rec (S xs xs.length) = fin) {k : Nat} (hk : xs.length < k) : iterate step k (S [] 0) = fin := by
  refine iter_go (step := step) xs.length (fun i => S (xs.take i) i) fin ?_ ?_ hk
  · intro rec i hi
    show step rec (S (xs.take i) i) = rec (S (xs.take (i + 1)) (i + 1))
    rw [h rec (xs.take i) i hi (by simp; omega), List.take_succ_eq_append_getElem hi]
  · intro rec
    show step rec (S (xs.take xs.length) xs.length) = fin
    rw [List.take_length]; exact hend rec
theorem szb (a b c : Nat) (hc : c ≤ 64) (h : a + b ≤ 2097152) : decide ((a + b) * c ≤ sizeK) = true := by
  have := Nat.mul_le_mul h hc
  exact decide_eq_true (by unfold sizeK; omega)
theorem copy_s (K : Nat) (n : Node) (hn : NB n) (hK : 1048577 < K) : spec_l21Copy.f K (n, ()) = some ((n, ()), ()) := by
  have b1 := hn.table; have b2 := hn.cast; have b3 := hn.doubts; have b4 := hn.places; have b5 := hn.others
  simp only [spec_l21Copy.f, spec_l21Copy.pre]
  rw [szb _ _ _ (by omega) (by show (List.length ([] : List Fact)) + (Node.table n).length ≤ _; simp; omega), szb _ _ _ (by omega) (by show (List.length ([] : List Item)) + (Node.cast n).length ≤ _; simp; omega)]
  simp only [cond_true]
  refine copy_loop (Node.doubts n) (step := fun rec a => spec_l21Copy.l0.step K (n, ()) (spec_l21Copy.l1 K (n, ())) rec a) (fun acc i => ((i : Int), acc)) _ ?_ ?_ (by omega)
  · intro rec acc i hi ha
    have := hn.by_ _ (List.getElem_mem hi)
    simp only [spec_l21Copy.l0.step]
    rw [decLt (by omega : (i : Int) < (List.length (Node.doubts n) : Int)), idx_get hi, wr_succ i (by omega)]
    simp only [cond_true, Option.bind_some]
    rw [szb _ _ _ (by omega) (by simp; omega), szb _ _ _ (by omega) (by simp; omega)]
    rfl
  · intro rec
    simp only [spec_l21Copy.l0.step, decNl, cond_false]
    refine copy_loop (Node.places n) (step := fun rec a => spec_l21Copy.l1.step K (n, ()) (spec_l21Copy.l2 K (n, ())) rec a) (fun acc i => ((i : Int), Node.doubts n, acc)) _ ?_ ?_ (by omega)
    · intro rec acc i hi ha
      have := hn.trips _ (List.getElem_mem hi)
      simp only [spec_l21Copy.l1.step]
      rw [decLt (by omega : (i : Int) < (List.length (Node.places n) : Int)), idx_get hi, wr_succ i (by omega)]
      simp only [cond_true, Option.bind_some]
      rw [szb _ _ _ (by omega) (by simp; omega), szb _ _ _ (by omega) (by simp; omega)]
      rfl
    · intro rec
      simp only [spec_l21Copy.l1.step, decNl, cond_false]
      refine copy_loop (Node.others n) (step := fun rec a => spec_l21Copy.l2.step K (n, ()) rec a) (fun acc i => ((i : Int), Node.doubts n, Node.places n, acc)) _ ?_ ?_ (by omega)
      · intro rec acc i hi ha
        have := hn.facts _ (List.getElem_mem hi)
        simp only [spec_l21Copy.l2.step]
        rw [decLt (by omega : (i : Int) < (List.length (Node.others n) : Int)), idx_get hi, wr_succ i (by omega)]
        simp only [cond_true, Option.bind_some]
        rw [szb _ _ _ (by omega) (by simp; omega), szb _ _ _ (by omega) (by simp; omega)]
        rfl
      · intro rec
        simp only [spec_l21Copy.l2.step, decNl, cond_false]
        rfl
theorem copied_i (K : Nat) (n : Node) (hn : NB n) (hK : 1048577 < K) : impl_Node_copied.f K (n, ()) = some ((n, ()), ()) := by
  have b1 := hn.table; have b2 := hn.cast; have b3 := hn.doubts; have b4 := hn.places; have b5 := hn.others
  simp only [impl_Node_copied.f, impl_Node_copied.pre]
  refine copy_loop (Node.doubts n) (step := fun rec a => impl_Node_copied.l0.step K (n, ()) (impl_Node_copied.l1 K (n, ())) rec a) (fun acc i => (acc, (i : Int))) _ ?_ ?_ (by omega)
  · intro rec acc i hi ha
    have := hn.by_ _ (List.getElem_mem hi)
    simp only [impl_Node_copied.l0.step, m_slices_Clone_int_int.f]
    rw [decLt (by omega : (i : Int) < (List.length (Node.doubts n) : Int)), idx_get hi, wr_succ i (by omega)]
    simp only [cond_true, Option.bind_some]
    rw [clone_ok (by omega)]
    simp only [Option.bind_some]
    rw [szb _ _ _ (by omega) (by simp; omega)]
    rfl
  · intro rec
    simp only [impl_Node_copied.l0.step, decNl, cond_false]
    refine copy_loop (Node.places n) (step := fun rec a => impl_Node_copied.l1.step K (n, ()) (impl_Node_copied.l2 K (n, ())) rec a) (fun acc i => (Node.doubts n, acc, (i : Int))) _ ?_ ?_ (by omega)
    · intro rec acc i hi ha
      have := hn.trips _ (List.getElem_mem hi)
      simp only [impl_Node_copied.l1.step, m_slices_Clone_int_int.f]
      rw [decLt (by omega : (i : Int) < (List.length (Node.places n) : Int)), idx_get hi, wr_succ i (by omega)]
      simp only [cond_true, Option.bind_some]
      rw [clone_ok (by omega)]
      simp only [Option.bind_some]
      rw [szb _ _ _ (by omega) (by simp; omega)]
      rfl
    · intro rec
      simp only [impl_Node_copied.l1.step, decNl, cond_false]
      refine copy_loop (Node.others n) (step := fun rec a => impl_Node_copied.l2.step K (n, ()) rec a) (fun acc i => (Node.doubts n, Node.places n, acc, (i : Int))) _ ?_ ?_ (by omega)
      · intro rec acc i hi ha
        have := hn.facts _ (List.getElem_mem hi)
        simp only [impl_Node_copied.l2.step, m_slices_Clone_impl_Fact_impl_Fact.f]
        rw [decLt (by omega : (i : Int) < (List.length (Node.others n) : Int)), idx_get hi, wr_succ i (by omega)]
        simp only [cond_true, Option.bind_some]
        rw [clone_ok (by omega)]
        simp only [Option.bind_some]
        rw [szb _ _ _ (by omega) (by simp; omega)]
        rfl
      · intro rec
        simp only [impl_Node_copied.l2.step, decNl, cond_false, m_slices_Clone_impl_Fact_impl_Fact.f, m_slices_Clone_impl_Item_impl_Item.f]
        rw [clone_ok (by show (Node.table n).length * _ ≤ _; omega), clone_ok (by show (Node.cast n).length * _ ≤ _; omega)]
        rfl
def mkWord (w : Word) (m : Int) : Word × Int :=
  ((m, m + 1, m + 1 + 1, m + 1 + 1 + 1, m + 1 + 1 + 1 + 1, m + 1 + 1 + 1 + 1 + 1, (m + 1 + 1 + 1 + 1 + 1 + 1, m + 1 + 1 + 1 + 1 + 1 + 1 + 1, m + 1 + 1 + 1 + 1 + 1 + 1 + 1 + 1, m + 1 + 1 + 1 + 1 + 1 + 1 + 1 + 1 + 1),
    (mks mkFact (Word.table w) (m + 1 + 1 + 1 + 1 + 1 + 1 + 1 + 1 + 1 + 1)).1), (mks mkFact (Word.table w) (m + 1 + 1 + 1 + 1 + 1 + 1 + 1 + 1 + 1 + 1)).2)
def wWord (w : Word) : Nat := 10 + ((Word.table w).map wFact).sum
theorem wWord_ok (x : Word) (m : Int) : (mkWord x m).2 = m + wWord x := by simp only [mkWord, wWord, mks_next wFact_ok]; omega
theorem markWordS_ok (K : Nat) (xs : List Word) (m : Int) (hx : xs.length ≤ 1048576) (hb : ∀ y ∈ xs, (Word.table y).length ≤ 1048576) (h0 : 0 ≤ m) (hm : m + ((xs.map wWord).sum : Nat) ≤ 4611686018427387904) (hK : 1048577 < K) :
    laws_markWordS.f K (xs, m, ()) = some (((mks mkWord xs m).2, ()), ((mks mkWord xs m).1, ())) := by
  refine mark_loop (step := fun rec a => laws_markWordS.l0.step K (xs, m, ()) rec a) mkWord wWord (fun y => (Word.table y).length ≤ 1048576) wWord_ok ?_ ?_ xs [] m K (by simpa using hx) (by omega) hb h0 hm
  · intro rec ys m i hi hl hb h0 hm
    simp only [wWord] at hm
    simp only [laws_markWordS.l0.step]
    rw [decLt (by omega : (i : Int) < (List.length ys : Int)), idx_get hi, wr_succ i (by omega)]
    simp (disch := omega) only [wrp, cond_true, Option.bind_some, Int.toNat_natCast, List.set_set, idx_set hi, idx_get hi]
    rw [markFactS_ok K _ _ hb (by omega) (by omega) hK]
    rfl
  · intro rec ys m
    simp only [laws_markWordS.l0.step, decNl]
    rfl
theorem heldWordS_ok (K : Nat) (xs : List Word) (m : Int) (hx : xs.length ≤ 1048576) (hb : ∀ y ∈ xs, (Word.table y).length ≤ 1048576) (h0 : 0 ≤ m) (hm : m + ((xs.map wWord).sum : Nat) ≤ 4611686018427387904) (hK : 1048577 < K) :
    laws_heldWordS.f K ((mks mkWord xs m).1, m, ()) = some (((mks mkWord xs m).2, ()), ()) := by
  refine held_loop (step := fun rec a => laws_heldWordS.l0.step K ((mks mkWord xs m).1, m, ()) rec a) mkWord wWord (fun y => (Word.table y).length ≤ 1048576) wWord_ok (mks mkWord xs m).1 (by rw [mks_len]; exact hx) ?_ ?_ xs [] m K rfl (by omega) hb h0 hm
  · intro rec x m' i hi e hb h0 hm
    simp only [wWord] at hm
    rw [mks_len] at hi
    simp only [laws_heldWordS.l0.step]
    rw [decLt (by rw [mks_len]; omega : (i : Int) < (List.length (mks mkWord xs m).1 : Int)), idx_get (by rw [mks_len]; exact hi), wr_succ i (by omega), e]
    simp (disch := omega) only [wrp, cond_true, Option.bind_some, mkWord, bne_self_eq_false, cond_false]
    rw [heldFactS_ok K _ _ hb (by omega) (by omega) hK]
    simp only [Option.bind_some]
    rw [nneg (a := (mks mkFact _ _).2) (by rw [mks_next wFact_ok]; omega)]
    rfl
  · intro rec m'
    simp only [laws_heldWordS.l0.step, decNl]
    rfl
theorem eqWordS_refl (K : Nat) (xs : List Word) (hx : xs.length ≤ 1048576) (hb : ∀ y ∈ xs, (Word.table y).length ≤ 1048576) (hK : 1048577 < K) : laws_eqWordS.f K (xs, xs, ()) = rb true := by
  simp only [laws_eqWordS.f, laws_eqWordS.pre, bne_self_eq_false, cond_false]
  refine iter_go (step := fun rec a => laws_eqWordS.l0.step K (xs, xs, ()) rec a) xs.length (fun i => (i : Int)) (rb true) ?_ ?_ (by omega)
  · intro rec i hi
    simp only [laws_eqWordS.l0.step]
    rw [decLt (by omega : (i : Int) < (List.length xs : Int)), idx_get hi, wr_succ i (by omega)]
    simp only [cond_true, Option.bind_some]
    rw [eqWord_refl K _ (hb _ (List.getElem_mem hi)) hK]
    rfl
  · intro rec
    simp only [laws_eqWordS.l0.step, decNl]
    rfl
theorem said_node (K : Nat) (y : Node) (ws : List Word) (hy : NB y) (hw : ws.length ≤ 1048576) (hb : ∀ w ∈ ws, (Word.table w).length ≤ 1048576) (hK : 1048577 < K) : ∃ m m' : Int, ∃ ws' : List Word, 0 ≤ m ∧ 0 ≤ m' ∧
    laws_markNode.f K (y, 1, ()) = some ((m, ()), ((mkNode y 1).1, ())) ∧ laws_markWordS.f K (ws, m, ()) = some ((m', ()), (ws', ())) ∧ laws_eqNode.f K (y, y, ()) = rb true ∧ laws_eqWordS.f K (ws, ws, ()) = rb true ∧
    laws_heldNode.f K ((y.1, (y.2.1, (y.2.2.1, (y.2.2.2.1, (y.2.2.2.2.1, (y.2.2.2.2.2.1, (y.2.2.2.2.2.2.1, (y.2.2.2.2.2.2.2.1, ((mkNode y 1).1.2.2.2.2.2.2.2.2.1, ((mkNode y 1).1.2.2.2.2.2.2.2.2.2.1, (y.2.2.2.2.2.2.2.2.2.2.1, ((mkNode y 1).1.2.2.2.2.2.2.2.2.2.2.2.1, (y.2.2.2.2.2.2.2.2.2.2.2.2.1, (mkNode y 1).1.2.2.2.2.2.2.2.2.2.2.2.2.2))))))))))))), 1, ()) = some ((m, ()), ()) ∧
    laws_heldWordS.f K (ws', m, ()) = some ((m', ()), ()) := by
  have h1 := wNode_le hy
  have h2 : (ws.map wWord).sum ≤ 1048576 * 4194314 := Nat.le_trans (sum_le (c := 4194314) (fun x hx => by
    have h3 := sum_le (W := wFact) (c := 4) (xs := Word.table x) (fun _ _ => Nat.le_refl _)
    have := hb x hx
    simp only [wWord]
    omega)) (Nat.mul_le_mul hw (Nat.le_refl _))
  refine ⟨(mkNode y 1).2, (mks mkWord ws (mkNode y 1).2).2, (mks mkWord ws (mkNode y 1).2).1, by rw [wNode_ok]; omega, by rw [mks_next wWord_ok, wNode_ok]; omega, markNode_ok K y hy 1 (by omega) (by omega) hK,
    markWordS_ok K ws _ hw hb (by rw [wNode_ok]; omega) (by rw [wNode_ok]; omega) hK, eqNode_refl K y hy hK, eqWordS_refl K ws hw hb hK, heldNode_ok K y hy 1 (by omega) (by omega) hK, heldWordS_ok K ws _ hw hb (by rw [wNode_ok]; omega) (by rw [wNode_ok]; omega) hK⟩
end Go.Proofs.YthgnfidnmnkeaaaGreatEv
