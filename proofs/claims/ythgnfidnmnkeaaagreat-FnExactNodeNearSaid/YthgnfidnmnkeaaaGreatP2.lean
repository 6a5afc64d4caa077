/- The marks that a law writes into what was answered, and the look whether they still stand. -/
import Derived.Test.YthgnfidnmnkeaaaGreatP1
import Derived.Test.YthgnfidnmnkeaaaGreatE0
namespace Go.Proofs.YthgnfidnmnkeaaaGreatEv
open Go
theorem idx_set {α : Type} {xs : List α} {i : Nat} {v : α} (h : i < xs.length) : idx (xs.set i v) (i : Int) = some v := by
  rw [idx_nat, List.getElem?_set]
  simp [h]
theorem wrp {a : Int} (h0 : 0 ≤ a) (h1 : a ≤ 9223372036854775806) : wr .i64 (a + 1) = a + 1 := wr64 (by omega) (by omega)
def mks {α : Type} (mk : α → Int → α × Int) : List α → Int → List α × Int
  | [], m => ([], m)
  | x :: xs, m => ((mk x m).1 :: (mks mk xs (mk x m).2).1, (mks mk xs (mk x m).2).2)
theorem mks_next {α : Type} {mk : α → Int → α × Int} {W : α → Nat} (hW : ∀ x m, (mk x m).2 = m + W x) : ∀ (xs : List α) (m : Int), (mks mk xs m).2 = m + ((xs.map W).sum : Nat)
  | [], m => by simp [mks]
  | x :: xs, m => by
    simp only [mks, List.map_cons, List.sum_cons]
    rw [mks_next hW xs, hW]
    omega
theorem mks_len {α : Type} {mk : α → Int → α × Int} : ∀ (xs : List α) (m : Int), (mks mk xs m).1.length = xs.length
  | [], _ => rfl
  | x :: xs, m => by simp [mks, mks_len xs]
abbrev MkR (α : Type) := (Int × Unit) × (List α × Unit)
theorem mark_loop {α : Type} (mk : α → Int → α × Int) (W : α → Nat) (P : α → Prop) (hW : ∀ x m, (mk x m).2 = m + W x) {step : (List α × Int × Int → Option (MkR α)) → List α × Int × Int → Option (MkR α)}
    (h : ∀ (rec : List α × Int × Int → Option (MkR α)) (ys : List α) (m : Int) (i : Nat) (hi : i < ys.length), ys.length ≤ 1048576 → P ys[i] → 0 ≤ m → m + W ys[i] ≤ 4611686018427387904 → step rec (ys, m, (i : Int)) = rec (ys.set i (mk ys[i] m).1, (mk ys[i] m).2, ((i + 1 : Nat) : Int)))
    (hend : ∀ (rec : List α × Int × Int → Option (MkR α)) (ys : List α) (m : Int), step rec (ys, m, (ys.length : Int)) = some ((m, ()), (ys, ()))) :
    ∀ (xs pre : List α) (m : Int) (k : Nat), pre.length + xs.length ≤ 1048576 → xs.length < k → (∀ x ∈ xs, P x) → 0 ≤ m → m + ((xs.map W).sum : Nat) ≤ 4611686018427387904 →
      iterate step k (pre ++ xs, m, ((pre.length : Nat) : Int)) = some (((mks mk xs m).2, ()), (pre ++ (mks mk xs m).1, ())) := by
  intro xs
  induction xs with
  | nil =>
    intro pre m k hl hk _ _ _
    obtain ⟨k, rfl⟩ : ∃ k', k = k' + 1 := ⟨k - 1, by omega⟩
    show step (iterate step k) _ = _
    rw [List.append_nil, hend]
    simp [mks]
  | cons x xs ih =>
    intro pre m k hl hk hP h0 hm
    simp only [List.length_cons] at hl hk
    obtain ⟨k, rfl⟩ : ∃ k', k = k' + 1 := ⟨k - 1, by omega⟩
    have hi : pre.length < (pre ++ x :: xs).length := by simp
    have e : (pre ++ x :: xs)[pre.length] = x := by simp
    simp only [List.map_cons, List.sum_cons] at hm
    have h1 := h (iterate step k) (pre ++ x :: xs) m pre.length hi (by simp; omega) (e.symm ▸ hP x (List.mem_cons_self ..)) h0 (by rw [e]; omega)
    rw [e] at h1
    show step (iterate step k) _ = _
    rw [h1]
    have e2 : (pre ++ x :: xs).set pre.length (mk x m).1 = (pre ++ [(mk x m).1]) ++ xs := by simp
    rw [e2]
    have h2 := ih (pre ++ [(mk x m).1]) (mk x m).2 k (by simp; omega) (by omega) (fun y hy => hP y (List.mem_cons_of_mem _ hy)) (by rw [hW]; omega) (by rw [hW]; omega)
    simp only [List.length_append, List.length_cons, List.length_nil, Nat.zero_add] at h2
    rw [h2]
    simp [mks]
theorem held_loop {α : Type} (mk : α → Int → α × Int) (W : α → Nat) (P : α → Prop) (hW : ∀ x m, (mk x m).2 = m + W x) (ys : List α) {step : (Int × Int → Option ((Int × Unit) × Unit)) → Int × Int → Option ((Int × Unit) × Unit)} (hys : ys.length ≤ 1048576)
    (h : ∀ (rec : Int × Int → Option ((Int × Unit) × Unit)) (x : α) (m : Int) (i : Nat) (hi : i < ys.length), ys[i] = (mk x m).1 → P x → 0 ≤ m → m + W x ≤ 4611686018427387904 → step rec (m, (i : Int)) = rec ((mk x m).2, ((i + 1 : Nat) : Int)))
    (hend : ∀ (rec : Int × Int → Option ((Int × Unit) × Unit)) (m : Int), step rec (m, (ys.length : Int)) = some ((m, ()), ())) :
    ∀ (xs pre : List α) (m : Int) (k : Nat), ys = pre ++ (mks mk xs m).1 → xs.length < k → (∀ x ∈ xs, P x) → 0 ≤ m → m + ((xs.map W).sum : Nat) ≤ 4611686018427387904 →
      iterate step k (m, ((pre.length : Nat) : Int)) = some (((mks mk xs m).2, ()), ()) := by
  intro xs
  induction xs with
  | nil =>
    intro pre m k e hk _ _ _
    obtain ⟨k, rfl⟩ : ∃ k', k = k' + 1 := ⟨k - 1, by omega⟩
    have e' : pre.length = ys.length := by rw [e]; simp [mks]
    show step (iterate step k) _ = _
    rw [e', hend]
    rfl
  | cons x xs ih =>
    intro pre m k e hk hP h0 hm
    simp only [List.length_cons] at hk
    obtain ⟨k, rfl⟩ : ∃ k', k = k' + 1 := ⟨k - 1, by omega⟩
    simp only [List.map_cons, List.sum_cons] at hm
    have hi : pre.length < ys.length := by rw [e]; simp [mks]
    have e1 : ys[pre.length] = (mk x m).1 := by subst e; simp [mks]
    have h1 := h (iterate step k) x m pre.length hi e1 (hP x (List.mem_cons_self ..)) h0 (by omega)
    show step (iterate step k) _ = _
    rw [h1]
    have h2 := ih (pre ++ [(mk x m).1]) (mk x m).2 k (by rw [e]; simp [mks]) (by omega) (fun y hy => hP y (List.mem_cons_of_mem _ hy)) (by rw [hW]; omega) (by rw [hW]; omega)
    simp only [List.length_append, List.length_cons, List.length_nil, Nat.zero_add] at h2
    rw [h2]
    rfl
def mkInt (_ : Int) (m : Int) : Int × Int := (m, m + 1)
def mkFact (_ : Fact) (m : Int) : Fact × Int := ((m, m + 1, m + 1 + 1, (Int.tmod (m + 1 + 1 + 1) 3 == 0)), m + 1 + 1 + 1 + 1)
def mkItem (x : Item) (m : Int) : Item × Int := (((mkFact x.1 m).1, m + 1 + 1 + 1 + 1), m + 1 + 1 + 1 + 1 + 1)
def mkDoubt (d : Doubt) (m : Int) : Doubt × Int := ((m, m + 1, m + 1 + 1, (mks mkInt d.2.2.2 (m + 1 + 1 + 1)).1), (mks mkInt d.2.2.2 (m + 1 + 1 + 1)).2)
def mkPlace (d : Place) (m : Int) : Place × Int := ((m, (m + 1, m + 1 + 1, m + 1 + 1 + 1, m + 1 + 1 + 1 + 1), (mks mkInt d.2.2 (m + 1 + 1 + 1 + 1 + 1)).1), (mks mkInt d.2.2 (m + 1 + 1 + 1 + 1 + 1)).2)
def mkForeign (d : Foreign) (m : Int) : Foreign × Int := ((m, (mks mkFact d.2 (m + 1)).1), (mks mkFact d.2 (m + 1)).2)
def wInt (_ : Int) : Nat := 1
def wFact (_ : Fact) : Nat := 4
def wItem (_ : Item) : Nat := 5
def wDoubt (d : Doubt) : Nat := 3 + (d.2.2.2.map wInt).sum
def wPlace (d : Place) : Nat := 5 + (d.2.2.map wInt).sum
def wForeign (d : Foreign) : Nat := 1 + (d.2.map wFact).sum
theorem wInt_ok (x : Int) (m : Int) : (mkInt x m).2 = m + wInt x := by simp [mkInt, wInt]
theorem wFact_ok (x : Fact) (m : Int) : (mkFact x m).2 = m + wFact x := by simp only [mkFact, wFact]; omega
theorem wItem_ok (x : Item) (m : Int) : (mkItem x m).2 = m + wItem x := by simp only [mkItem, wItem]; omega
theorem wDoubt_ok (x : Doubt) (m : Int) : (mkDoubt x m).2 = m + wDoubt x := by simp only [mkDoubt, wDoubt, mks_next wInt_ok]; omega
theorem wPlace_ok (x : Place) (m : Int) : (mkPlace x m).2 = m + wPlace x := by simp only [mkPlace, wPlace, mks_next wInt_ok]; omega
theorem wForeign_ok (x : Foreign) (m : Int) : (mkForeign x m).2 = m + wForeign x := by simp only [mkForeign, wForeign, mks_next wFact_ok]; omega
theorem markIntS_ok (K : Nat) (xs : List Int) (m : Int) (hx : xs.length ≤ 1048576) (h0 : 0 ≤ m) (hm : m + ((xs.map wInt).sum : Nat) ≤ 4611686018427387904) (hK : 1048577 < K) :
    laws_markIntS.f K (xs, m, ()) = some (((mks mkInt xs m).2, ()), ((mks mkInt xs m).1, ())) := by
  refine mark_loop (step := fun rec a => laws_markIntS.l0.step K (xs, m, ()) rec a) mkInt wInt (fun _ => True) wInt_ok ?_ ?_ xs [] m K (by simpa using hx) (by omega) (fun _ _ => trivial) h0 hm
  · intro rec ys m i hi hl _ h0 hm
    simp only [wInt] at hm
    simp only [laws_markIntS.l0.step]
    rw [decLt (by omega : (i : Int) < (List.length ys : Int)), idx_get hi, wr_succ i (by omega), wrp h0 (by omega)]
    simp only [cond_true, Option.bind_some, Int.toNat_natCast, idx_get hi]
    rfl
  · intro rec ys m
    simp only [laws_markIntS.l0.step, decNl]
    rfl
theorem markFactS_ok (K : Nat) (xs : List Fact) (m : Int) (hx : xs.length ≤ 1048576) (h0 : 0 ≤ m) (hm : m + ((xs.map wFact).sum : Nat) ≤ 4611686018427387904) (hK : 1048577 < K) :
    laws_markFactS.f K (xs, m, ()) = some (((mks mkFact xs m).2, ()), ((mks mkFact xs m).1, ())) := by
  refine mark_loop (step := fun rec a => laws_markFactS.l0.step K (xs, m, ()) rec a) mkFact wFact (fun _ => True) wFact_ok ?_ ?_ xs [] m K (by simpa using hx) (by omega) (fun _ _ => trivial) h0 hm
  · intro rec ys m i hi hl _ h0 hm
    simp only [wFact] at hm
    simp only [laws_markFactS.l0.step]
    rw [decLt (by omega : (i : Int) < (List.length ys : Int)), idx_get hi, wr_succ i (by omega)]
    simp (disch := omega) only [wrp, cond_true, Option.bind_some, Int.toNat_natCast, List.set_set, idx_set hi, idx_get hi]
    rfl
  · intro rec ys m
    simp only [laws_markFactS.l0.step, decNl]
    rfl
theorem markItemS_ok (K : Nat) (xs : List Item) (m : Int) (hx : xs.length ≤ 1048576) (h0 : 0 ≤ m) (hm : m + ((xs.map wItem).sum : Nat) ≤ 4611686018427387904) (hK : 1048577 < K) :
    laws_markItemS.f K (xs, m, ()) = some (((mks mkItem xs m).2, ()), ((mks mkItem xs m).1, ())) := by
  refine mark_loop (step := fun rec a => laws_markItemS.l0.step K (xs, m, ()) rec a) mkItem wItem (fun _ => True) wItem_ok ?_ ?_ xs [] m K (by simpa using hx) (by omega) (fun _ _ => trivial) h0 hm
  · intro rec ys m i hi hl _ h0 hm
    simp only [wItem] at hm
    simp only [laws_markItemS.l0.step]
    rw [decLt (by omega : (i : Int) < (List.length ys : Int)), idx_get hi, wr_succ i (by omega)]
    simp (disch := omega) only [wrp, cond_true, Option.bind_some, Int.toNat_natCast, List.set_set, idx_set hi, idx_get hi]
    rfl
  · intro rec ys m
    simp only [laws_markItemS.l0.step, decNl]
    rfl
theorem markDoubtS_ok (K : Nat) (xs : List Doubt) (m : Int) (hx : xs.length ≤ 1048576) (hb : ∀ y ∈ xs, y.2.2.2.length ≤ 1048576) (h0 : 0 ≤ m) (hm : m + ((xs.map wDoubt).sum : Nat) ≤ 4611686018427387904) (hK : 1048577 < K) :
    laws_markDoubtS.f K (xs, m, ()) = some (((mks mkDoubt xs m).2, ()), ((mks mkDoubt xs m).1, ())) := by
  refine mark_loop (step := fun rec a => laws_markDoubtS.l0.step K (xs, m, ()) rec a) mkDoubt wDoubt (fun y => y.2.2.2.length ≤ 1048576) wDoubt_ok ?_ ?_ xs [] m K (by simpa using hx) (by omega) hb h0 hm
  · intro rec ys m i hi hl hb h0 hm
    simp only [wDoubt] at hm
    simp only [laws_markDoubtS.l0.step]
    rw [decLt (by omega : (i : Int) < (List.length ys : Int)), idx_get hi, wr_succ i (by omega)]
    simp (disch := omega) only [wrp, cond_true, Option.bind_some, Int.toNat_natCast, List.set_set, idx_set hi, idx_get hi]
    rw [markIntS_ok K _ _ hb (by omega) (by omega) hK]
    rfl
  · intro rec ys m
    simp only [laws_markDoubtS.l0.step, decNl]
    rfl
theorem markPlaceS_ok (K : Nat) (xs : List Place) (m : Int) (hx : xs.length ≤ 1048576) (hb : ∀ y ∈ xs, y.2.2.length ≤ 1048576) (h0 : 0 ≤ m) (hm : m + ((xs.map wPlace).sum : Nat) ≤ 4611686018427387904) (hK : 1048577 < K) :
    laws_markPlaceS.f K (xs, m, ()) = some (((mks mkPlace xs m).2, ()), ((mks mkPlace xs m).1, ())) := by
  refine mark_loop (step := fun rec a => laws_markPlaceS.l0.step K (xs, m, ()) rec a) mkPlace wPlace (fun y => y.2.2.length ≤ 1048576) wPlace_ok ?_ ?_ xs [] m K (by simpa using hx) (by omega) hb h0 hm
  · intro rec ys m i hi hl hb h0 hm
    simp only [wPlace] at hm
    simp only [laws_markPlaceS.l0.step]
    rw [decLt (by omega : (i : Int) < (List.length ys : Int)), idx_get hi, wr_succ i (by omega)]
    simp (disch := omega) only [wrp, cond_true, Option.bind_some, Int.toNat_natCast, List.set_set, idx_set hi, idx_get hi]
    rw [markIntS_ok K _ _ hb (by omega) (by omega) hK]
    rfl
  · intro rec ys m
    simp only [laws_markPlaceS.l0.step, decNl]
    rfl
theorem markForeignS_ok (K : Nat) (xs : List Foreign) (m : Int) (hx : xs.length ≤ 1048576) (hb : ∀ y ∈ xs, y.2.length ≤ 1048576) (h0 : 0 ≤ m) (hm : m + ((xs.map wForeign).sum : Nat) ≤ 4611686018427387904) (hK : 1048577 < K) :
    laws_markForeignS.f K (xs, m, ()) = some (((mks mkForeign xs m).2, ()), ((mks mkForeign xs m).1, ())) := by
  refine mark_loop (step := fun rec a => laws_markForeignS.l0.step K (xs, m, ()) rec a) mkForeign wForeign (fun y => y.2.length ≤ 1048576) wForeign_ok ?_ ?_ xs [] m K (by simpa using hx) (by omega) hb h0 hm
  · intro rec ys m i hi hl hb h0 hm
    simp only [wForeign] at hm
    simp only [laws_markForeignS.l0.step]
    rw [decLt (by omega : (i : Int) < (List.length ys : Int)), idx_get hi, wr_succ i (by omega)]
    simp (disch := omega) only [wrp, cond_true, Option.bind_some, Int.toNat_natCast, List.set_set, idx_set hi, idx_get hi]
    rw [markFactS_ok K _ _ hb (by omega) (by omega) hK]
    rfl
  · intro rec ys m
    simp only [laws_markForeignS.l0.step, decNl]
    rfl
end Go.Proofs.YthgnfidnmnkeaaaGreatEv
namespace Go.Proofs.YthgnfidnmnkeaaaGreatEv
open Go
theorem nneg {a : Int} (h : 0 ≤ a) : decide (a < 0) = false := decide_eq_false (by omega)
theorem sum_le {α : Type} {W : α → Nat} {c : Nat} : ∀ {xs : List α}, (∀ x ∈ xs, W x ≤ c) → (xs.map W).sum ≤ xs.length * c
  | [], _ => by simp
  | x :: xs, h => by
    have h1 := h x (List.mem_cons_self ..)
    have h2 := sum_le (xs := xs) (fun y hy => h y (List.mem_cons_of_mem _ hy))
    simp only [List.map_cons, List.sum_cons, List.length_cons, Nat.succ_mul]
    omega
theorem sum_bd {α : Type} {W : α → Nat} {xs : List α} (hx : xs.length ≤ 1048576) {c : Nat} (hc : c ≤ 4194309) (h : ∀ x ∈ xs, W x ≤ c) : (xs.map W).sum ≤ 1048576 * 4194309 :=
  Nat.le_trans (sum_le h) (Nat.mul_le_mul hx hc)
theorem wInts_le {xs : List Int} (h : xs.length ≤ 1048576) : (xs.map wInt).sum ≤ 1048576 := by
  have := sum_le (W := wInt) (c := 1) (xs := xs) (fun _ _ => Nat.le_refl _)
  omega
theorem wFacts_le {xs : List Fact} (h : xs.length ≤ 1048576) : (xs.map wFact).sum ≤ 4194304 := by
  have := sum_le (W := wFact) (c := 4) (xs := xs) (fun _ _ => Nat.le_refl _)
  omega
def wNode (n : Node) : Nat := (((Node.table n).map wFact).sum + ((Node.cast n).map wItem).sum + ((Node.doubts n).map wDoubt).sum + ((Node.places n).map wPlace).sum + ((Node.others n).map wForeign).sum)
def nodeWith (n : Node) (t : List Fact) (c : List Item) (d : List Doubt) (p : List Place) (o : List Foreign) : Node :=
  (n.1, n.2.1, n.2.2.1, n.2.2.2.1, n.2.2.2.2.1, n.2.2.2.2.2.1, n.2.2.2.2.2.2.1, n.2.2.2.2.2.2.2.1, t, c, Node.probe n, d, Node.coord n, p, o)
def mkNode (n : Node) (m : Int) : Node × Int :=
  let a := mks mkFact (Node.table n) m
  let b := mks mkItem (Node.cast n) a.2
  let c := mks mkDoubt (Node.doubts n) b.2
  let d := mks mkPlace (Node.places n) c.2
  let e := mks mkForeign (Node.others n) d.2
  (nodeWith n a.1 b.1 c.1 d.1 e.1, e.2)
theorem wNode_ok (n : Node) (m : Int) : (mkNode n m).2 = m + wNode n := by
  simp only [mkNode, wNode, mks_next wFact_ok, mks_next wItem_ok, mks_next wDoubt_ok, mks_next wPlace_ok, mks_next wForeign_ok]
  omega
theorem wNode_le {n : Node} (hn : NB n) : wNode n ≤ 5 * (1048576 * 4194309) := by
  have h1 := sum_bd (W := wFact) (c := 4) hn.table (by omega) (fun _ _ => Nat.le_refl _)
  have h2 := sum_bd (W := wItem) (c := 5) hn.cast (by omega) (fun _ _ => Nat.le_refl _)
  have h3 := sum_bd (W := wDoubt) (c := 1048580) hn.doubts (by omega) (fun x hx => by
    have := wInts_le (hn.by_ x hx)
    simp only [wDoubt]; omega)
  have h4 := sum_bd (W := wPlace) (c := 1048581) hn.places (by omega) (fun x hx => by
    have := wInts_le (hn.trips x hx)
    simp only [wPlace]; omega)
  have h5 := sum_bd (W := wForeign) (c := 4194305) hn.others (by omega) (fun x hx => by
    have := wFacts_le (hn.facts x hx)
    simp only [wForeign]; omega)
  simp only [wNode]
  omega
theorem markNode_ok (K : Nat) (n : Node) (hn : NB n) (m : Int) (h0 : 0 ≤ m) (hm : m + wNode n ≤ 4611686018427387904) (hK : 1048577 < K) :
    laws_markNode.f K (n, m, ()) = some (((mkNode n m).2, ()), ((mkNode n m).1, ())) := by
  simp only [wNode] at hm
  simp only [laws_markNode.f, laws_markNode.pre]
  rw [markFactS_ok K _ m hn.table h0 (by omega) hK]
  simp only [Option.bind_some]
  rw [markItemS_ok K _ _ hn.cast (by rw [mks_next wFact_ok]; omega) (by rw [mks_next wFact_ok]; omega) hK]
  simp only [Option.bind_some]
  rw [markDoubtS_ok K _ _ hn.doubts hn.by_ (by rw [mks_next wItem_ok, mks_next wFact_ok]; omega) (by rw [mks_next wItem_ok, mks_next wFact_ok]; omega) hK]
  simp only [Option.bind_some]
  rw [markPlaceS_ok K _ _ hn.places hn.trips (by rw [mks_next wDoubt_ok, mks_next wItem_ok, mks_next wFact_ok]; omega) (by rw [mks_next wDoubt_ok, mks_next wItem_ok, mks_next wFact_ok]; omega) hK]
  simp only [Option.bind_some]
  rw [markForeignS_ok K _ _ hn.others hn.facts (by rw [mks_next wPlace_ok, mks_next wDoubt_ok, mks_next wItem_ok, mks_next wFact_ok]; omega) (by rw [mks_next wPlace_ok, mks_next wDoubt_ok, mks_next wItem_ok, mks_next wFact_ok]; omega) hK]
  rfl
theorem heldIntS_ok (K : Nat) (xs : List Int) (m : Int) (hx : xs.length ≤ 1048576) (h0 : 0 ≤ m) (hm : m + ((xs.map wInt).sum : Nat) ≤ 4611686018427387904) (hK : 1048577 < K) :
    laws_heldIntS.f K ((mks mkInt xs m).1, m, ()) = some (((mks mkInt xs m).2, ()), ()) := by
  refine held_loop (step := fun rec a => laws_heldIntS.l0.step K ((mks mkInt xs m).1, m, ()) rec a) mkInt wInt (fun _ => True) wInt_ok (mks mkInt xs m).1 (by rw [mks_len]; exact hx) ?_ ?_ xs [] m K rfl (by omega) (fun _ _ => trivial) h0 hm
  · intro rec x m' i hi e _ h0 hm
    simp only [wInt] at hm
    rw [mks_len] at hi
    simp only [laws_heldIntS.l0.step]
    rw [decLt (by rw [mks_len]; omega : (i : Int) < (List.length (mks mkInt xs m).1 : Int)), idx_get (by rw [mks_len]; exact hi), wr_succ i (by omega), e]
    simp (disch := omega) only [wrp, cond_true, Option.bind_some, mkInt, bne_self_eq_false, cond_false]
  · intro rec m'
    simp only [laws_heldIntS.l0.step, decNl]
    rfl
end Go.Proofs.YthgnfidnmnkeaaaGreatEv
namespace Go.Proofs.YthgnfidnmnkeaaaGreatEv
open Go
theorem gather_loop {α β R : Type} (t : List α) (p : α → Bool) (g : α → β) (n : Nat) (fin : List β → Option R) {step : (List β × Int → Option R) → List β × Int → Option R}
    (h : ∀ (rec : List β × Int → Option R) (acc : List β) (i : Nat) (hi : i < t.length), acc.length ≤ i → acc.length < n → step rec (acc, (i : Int)) = rec (bif p t[i] then acc ++ [g t[i]] else acc, ((i + 1 : Nat) : Int)))
    (hn : ∀ (rec : List β × Int → Option R) (acc : List β) (i : Nat), i < t.length → acc.length ≤ i → n ≤ acc.length → step rec (acc, (i : Int)) = fin acc)
    (hend : ∀ (rec : List β × Int → Option R) (acc : List β), acc.length ≤ t.length → step rec (acc, (t.length : Int)) = fin acc) :
    ∀ (d i k : Nat) (acc : List β), i + d = t.length → d < k → acc.length ≤ i → acc.length ≤ n → iterate step k (acc, (i : Int)) = fin (acc ++ (((t.drop i).filter p).map g).take (n - acc.length)) := by
  intro d
  induction d with
  | zero =>
    intro i k acc hi hk ha _
    obtain ⟨k, rfl⟩ : ∃ k', k = k' + 1 := ⟨k - 1, by omega⟩
    have : i = t.length := by omega
    subst this
    show step (iterate step k) _ = _
    rw [hend _ _ ha]
    simp
  | succ d ih =>
    intro i k acc hi hk ha hle
    obtain ⟨k, rfl⟩ : ∃ k', k = k' + 1 := ⟨k - 1, by omega⟩
    have hlt : i < t.length := by omega
    show step (iterate step k) _ = _
    by_cases hc : acc.length < n
    · rw [h _ _ _ hlt ha hc, List.drop_eq_getElem_cons hlt, List.filter_cons]
      cases hp : p t[i] with
      | true =>
        simp only [cond_true, if_true, List.map_cons]
        rw [ih (i + 1) k _ (by omega) (by omega) (by simp; omega) (by simp; omega)]
        congr 1
        obtain ⟨m, hm⟩ : ∃ m, n - acc.length = m + 1 := ⟨n - acc.length - 1, by omega⟩
        rw [hm, List.take_succ_cons, List.append_assoc]
        simp only [List.length_append, List.length_cons, List.length_nil]
        rw [show n - (acc.length + (0 + 1)) = m by omega]
        rfl
      | false =>
        simp only [cond_false]
        rw [ih (i + 1) k _ (by omega) (by omega) (by omega) (by omega)]
        rfl
    · rw [hn _ _ _ hlt ha (by omega)]
      rw [show n - acc.length = 0 by omega]
      simp
theorem gather_all {α β R : Type} (t : List α) (p : α → Bool) (g : α → β) (fin : List β → Option R) {step : (List β × Int → Option R) → List β × Int → Option R}
    (h : ∀ (rec : List β × Int → Option R) (acc : List β) (i : Nat) (hi : i < t.length), acc.length ≤ i → step rec (acc, (i : Int)) = rec (bif p t[i] then acc ++ [g t[i]] else acc, ((i + 1 : Nat) : Int)))
    (hend : ∀ (rec : List β × Int → Option R) (acc : List β), acc.length ≤ t.length → step rec (acc, (t.length : Int)) = fin acc) {k : Nat} (hk : t.length < k) :
    iterate step k ([], 0) = fin ((t.filter p).map g) := by
  have := gather_loop t p g (t.length + 1) fin (fun rec acc i hi ha _ => h rec acc i hi ha) (fun rec acc i hi ha hn => by omega) hend t.length 0 k [] (by omega) hk (Nat.le_refl _) (by simp)
  refine this.trans ?_
  congr 1
  simp only [List.nil_append, List.length_nil, List.drop_zero]
  exact List.take_of_length_le (by have := List.length_filter_le p t; simp; omega)
theorem clone_ok {e : Ty} {b : Nat} {xs : List e.den} (h : xs.length * b ≤ 140737488355328) : cloneM e b xs = some ((xs, ()), ()) := by
  unfold cloneM
  rw [decide_eq_true (by simpa [sizeK] using h)]
  rfl
theorem app_ok {α β : Type} {xs ys : List α} {b : Nat} {x y : β} (h : (xs.length + ys.length) * b ≤ 140737488355328) : (bif decide ((List.length xs + List.length ys) * b ≤ sizeK) then x else y) = x := by
  rw [decide_eq_true (by simpa [sizeK] using h)]
  rfl
theorem first_i (K : Nat) (xs : List Int) (n : Int) (hx : xs.length ≤ 1048576) : impl_first.f K (xs, n, ()) = some ((xs.take n.toNat, ()), ()) := by
  simp only [impl_first.f, impl_first.pre, impl_clamp.f, impl_clamp.pre, Option.bind_some, m_slices_Clone_int_int.f]
  obtain ⟨c, hc, h0, h1, h2⟩ : ∃ c : Int, (bif decide (0 < (bif decide ((xs.length : Int) < n) then (xs.length : Int) else n)) then bif decide ((xs.length : Int) < n) then (xs.length : Int) else n else 0) = c ∧ 0 ≤ c ∧ c ≤ xs.length ∧ xs.take c.toNat = xs.take n.toNat := by
    by_cases h : (xs.length : Int) < n
    · rw [decide_eq_true h]
      simp only [cond_true]
      by_cases h2 : 0 < (xs.length : Int)
      · rw [decide_eq_true h2]
        refine ⟨_, rfl, by simp, by simp, ?_⟩
        simp only [cond_true]
        rw [List.take_of_length_le (by omega), List.take_of_length_le (by omega)]
      · rw [decide_eq_false h2]
        refine ⟨_, rfl, by simp, by simp, ?_⟩
        have : xs = [] := List.eq_nil_of_length_eq_zero (by omega)
        subst this
        simp
    · rw [decide_eq_false h]
      simp only [cond_false]
      by_cases h2 : 0 < n
      · rw [decide_eq_true h2]
        exact ⟨_, rfl, by simp; omega, by simp; omega, rfl⟩
      · rw [decide_eq_false h2]
        refine ⟨_, rfl, by simp, by simp, ?_⟩
        simp only [cond_false]
        rw [show n.toNat = 0 by omega]
        rfl
  rw [hc, decide_eq_true h0, decide_eq_true h1]
  simp only [Int.toNat_zero, List.drop_zero, decide_true, Bool.and_self, cond_true]
  rw [clone_ok (by
    have := List.length_take_le c.toNat xs
    have h3 : (List.take c.toNat xs).length ≤ 1048576 := by omega
    omega)]
  simp only [Option.bind_some]
  rw [h2]
  rfl
end Go.Proofs.YthgnfidnmnkeaaaGreatEv
namespace Go.Proofs.YthgnfidnmnkeaaaGreatEv
open Go
def insR {α : Type} (lt : α → α → Bool) (x : α) : List α → List α → List α
  | [], B => x :: B
  | y :: A, B => bif lt x y then insR lt x A (y :: B) else (y :: A).reverse ++ x :: B
def sortR {α : Type} (lt : α → α → Bool) : List α → List α → List α
  | done, [] => done
  | done, x :: xs => sortR lt (insR lt x done.reverse []) xs
theorem insR_app {α : Type} (lt : α → α → Bool) (x : α) : ∀ (A B C : List α), insR lt x A (B ++ C) = insR lt x A B ++ C
  | [], B, C => rfl
  | y :: A, B, C => by
    simp only [insR]
    cases lt x y with
    | true => exact insR_app lt x A (y :: B) C
    | false => simp
theorem insR_len {α : Type} (lt : α → α → Bool) (x : α) : ∀ (A B : List α), (insR lt x A B).length = A.length + B.length + 1
  | [], B => by simp [insR]
  | y :: A, B => by
    simp only [insR]
    cases lt x y with
    | true => simp only [cond_true]; rw [insR_len lt x A (y :: B)]; simp; omega
    | false => simp; omega
theorem insR_perm {α : Type} (lt : α → α → Bool) (x : α) : ∀ (A B : List α), (insR lt x A B).Perm (x :: (A.reverse ++ B))
  | [], B => by simp [insR]
  | y :: A, B => by
    simp only [insR]
    cases lt x y with
    | true => exact (insR_perm lt x A (y :: B)).trans (by simp)
    | false => simp only [cond_false]; exact List.perm_middle
theorem sortR_perm {α : Type} (lt : α → α → Bool) : ∀ (xs done : List α), (sortR lt done xs).Perm (done ++ xs)
  | [], done => by simp [sortR]
  | x :: xs, done => by
    simp only [sortR]
    refine (sortR_perm lt xs _).trans ?_
    have := insR_perm lt x done.reverse []
    simp only [List.reverse_reverse, List.append_nil] at this
    exact (this.append_right xs).trans (by simpa using (List.perm_middle (a := x) (l₁ := done) (l₂ := xs)).symm)
def NoLt {α : Type} (lt : α → α → Bool) (xs : List α) : Prop := xs.Pairwise fun a b => lt b a = false
theorem insR_filter {α : Type} (lt : α → α → Bool) (ht : ∀ a b c, lt a b = false → lt b c = false → lt a c = false) (x : α) :
    ∀ (A B : List α), NoLt lt A.reverse → insR lt x A B = (A.reverse.filter fun y => !lt x y) ++ x :: ((A.reverse.filter fun y => lt x y) ++ B)
  | [], B, _ => rfl
  | y :: A, B, h => by
    simp only [insR]
    have hA : NoLt lt A.reverse := by
      unfold NoLt at h ⊢
      rw [List.reverse_cons, List.pairwise_append] at h
      exact h.1
    cases hl : lt x y with
    | true =>
      simp only [cond_true]
      rw [insR_filter lt ht x A (y :: B) hA]
      simp [hl, List.filter_append]
    | false =>
      have hy : ∀ a ∈ A.reverse, lt x a = false := fun a ha => by
        unfold NoLt at h
        rw [List.reverse_cons, List.pairwise_append] at h
        exact ht x y a hl (h.2.2 a ha y (by simp))
      simp only [cond_false]
      have e1 : (y :: A).reverse.filter (fun y => !lt x y) = (y :: A).reverse := List.filter_eq_self.2 fun a ha => by
        rw [List.reverse_cons, List.mem_append, List.mem_singleton] at ha
        rcases ha with ha | rfl
        · rw [hy a ha]; rfl
        · rw [hl]; rfl
      have e2 : (y :: A).reverse.filter (fun y => lt x y) = [] := List.filter_eq_nil_iff.2 fun a ha => by
        rw [List.reverse_cons, List.mem_append, List.mem_singleton] at ha
        rcases ha with ha | rfl
        · rw [hy a ha]; simp
        · rw [hl]; simp
      rw [e1, e2]
      rfl
theorem ins_sorted {α : Type} (lt : α → α → Bool) (ht : ∀ a b c, lt a b = false → lt b c = false → lt a c = false) (has : ∀ a b, lt a b = true → lt b a = false) (x : α) (A : List α) (h : NoLt lt A) : NoLt lt (insR lt x A.reverse []) := by
  rw [insR_filter lt ht x A.reverse [] (by rwa [List.reverse_reverse])]
  unfold NoLt at h ⊢
  simp only [List.reverse_reverse, List.append_nil]
  rw [List.pairwise_append]
  refine ⟨h.filter _, ?_, ?_⟩
  · rw [List.pairwise_cons]
    refine ⟨fun a ha => ?_, h.filter _⟩
    exact has _ _ (by simpa using (List.mem_filter.1 ha).2)
  · intro a ha b hb
    have h1 : lt x a = false := by simpa using (List.mem_filter.1 ha).2
    rcases List.mem_cons.1 hb with rfl | hb
    · exact h1
    · have h2 : lt x b = true := by simpa using (List.mem_filter.1 hb).2
      exact ht b x a (has _ _ h2) h1
abbrev SoR (α : Type) := Unit × (List α × Unit)
theorem ins_rounds {α R : Type} (lt : α → α → Bool) (i : Int) (fin : List α × Int → Option R) {step : (List α × Int × Int → Option R) → List α × Int × Int → Option R}
    (h : ∀ (rec : List α × Int × Int → Option R) (A : List α) (y x : α) (B : List α), A.length + B.length ≤ 1048576 → step rec (A ++ y :: x :: B, i, ((A.length + 1 : Nat) : Int)) = bif lt x y then rec (A ++ x :: y :: B, i, (A.length : Int)) else fin (A ++ y :: x :: B, wr .i64 (i + 1)))
    (h0 : ∀ (rec : List α × Int × Int → Option R) (ys : List α), step rec (ys, i, 0) = fin (ys, wr .i64 (i + 1))) :
    ∀ (A B : List α) (x : α) (k : Nat), A.length + B.length ≤ 1048576 → A.length < k → iterate step k (A.reverse ++ x :: B, i, (A.length : Int)) = fin (insR lt x A B, wr .i64 (i + 1)) := by
  intro A
  induction A with
  | nil =>
    intro B x k hl hk
    obtain ⟨k, rfl⟩ : ∃ k', k = k' + 1 := ⟨k - 1, by simp at hk; omega⟩
    exact h0 (iterate step k) (x :: B)
  | cons y A ih =>
    intro B x k hl hk
    simp only [List.length_cons] at hk hl
    obtain ⟨k, rfl⟩ : ∃ k', k = k' + 1 := ⟨k - 1, by omega⟩
    have h1 := h (iterate step k) A.reverse y x B (by simp; omega)
    simp only [List.length_reverse] at h1
    show step (iterate step k) _ = _
    rw [List.reverse_cons, List.append_assoc]
    simp only [List.length_cons, List.cons_append, List.nil_append, insR]
    rw [h1]
    cases lt x y with
    | true => exact ih (y :: B) x k (by simp; omega) (by omega)
    | false => simp
theorem sort_rounds {α : Type} (lt : α → α → Bool) {step : (List α × Int → Option (SoR α)) → List α × Int → Option (SoR α)} (n : Nat) (hn : n ≤ 1048576)
    (h : ∀ (rec : List α × Int → Option (SoR α)) (done : List α) (x : α) (xs : List α), done.length + 1 + xs.length = n → step rec (done ++ x :: xs, (done.length : Int)) = rec (insR lt x done.reverse xs, wr .i64 ((done.length : Int) + 1)))
    (h0 : ∀ (rec : List α × Int → Option (SoR α)) (ys : List α) (i : Int), (n : Int) ≤ i → step rec (ys, i) = some ((), (ys, ()))) :
    ∀ (xs done : List α) (k : Nat), done.length + xs.length = n → xs.length < k → iterate step k (done ++ xs, (done.length : Int)) = some ((), (sortR lt done xs, ())) := by
  intro xs
  induction xs with
  | nil =>
    intro done k hl hk
    obtain ⟨k, rfl⟩ : ∃ k', k = k' + 1 := ⟨k - 1, by omega⟩
    show step (iterate step k) _ = _
    rw [h0 _ _ _ (by simp at hl; omega)]
    simp [sortR]
  | cons x xs ih =>
    intro done k hl hk
    simp only [List.length_cons] at hk hl
    obtain ⟨k, rfl⟩ : ∃ k', k = k' + 1 := ⟨k - 1, by omega⟩
    show step (iterate step k) _ = _
    rw [h _ _ _ _ (by omega), wr_succ _ (by omega)]
    have e : insR lt x done.reverse xs = insR lt x done.reverse [] ++ xs := insR_app lt x done.reverse [] xs
    have e2 : (insR lt x done.reverse []).length = done.length + 1 := by rw [insR_len]; simp
    rw [e, ← e2]
    exact ih _ k (by rw [e2]; omega) (by omega)
theorem sort_all {α : Type} (lt : α → α → Bool) {step : (List α × Int → Option (SoR α)) → List α × Int → Option (SoR α)} (xs : List α) (hn : xs.length ≤ 1048576)
    (h : ∀ (rec : List α × Int → Option (SoR α)) (done : List α) (x : α) (r : List α), done.length + 1 + r.length = xs.length → step rec (done ++ x :: r, (done.length : Int)) = rec (insR lt x done.reverse r, wr .i64 ((done.length : Int) + 1)))
    (h0 : ∀ (rec : List α × Int → Option (SoR α)) (ys : List α) (i : Int), (xs.length : Int) ≤ i → step rec (ys, i) = some ((), (ys, ()))) {k : Nat} (hk : xs.length < k) :
    iterate step k (xs, 1) = some ((), (sortR lt [] xs, ())) := by
  cases xs with
  | nil =>
    obtain ⟨k, rfl⟩ : ∃ k', k = k' + 1 := ⟨k - 1, by simp at hk; omega⟩
    exact h0 (iterate step k) [] 1 (by simp)
  | cons x xs =>
    simp only [List.length_cons] at hk
    have := sort_rounds lt (xs.length + 1) (by simpa using hn) h h0 xs [x] k (by simp; omega) (by omega)
    exact this
theorem idx_mid {α : Type} (A B : List α) (x : α) : idx (A ++ x :: B) (A.length : Int) = some x := by
  rw [idx_nat]; simp
theorem idx_mid1 {α : Type} (A B : List α) (y x : α) : idx (A ++ y :: x :: B) ((A.length + 1 : Nat) : Int) = some x := by
  rw [idx_nat]; simp [List.getElem?_append_right]
theorem set_mid {α : Type} (A B : List α) (x v : α) : (A ++ x :: B).set A.length v = A ++ v :: B := by simp
theorem set_mid1 {α : Type} (A B : List α) (y x v : α) : (A ++ y :: x :: B).set (A.length + 1) v = A ++ y :: v :: B := by
  simp [List.set_append_right]
end Go.Proofs.YthgnfidnmnkeaaaGreatEv
namespace Go.Proofs.YthgnfidnmnkeaaaGreatEv
open Go
theorem isortPlace (K : Nat) (xs : List Place) (φ : Place × Place × Unit → Option Int) (lt : Place → Place → Bool) (hφ : ∀ y z, ∃ c, φ (y, z, ()) = some c ∧ decide (c < 0) = lt y z) (hx : xs.length ≤ 1048576) (hK : 1048577 < K) :
    slices_insertionSortCmpFunc_impl_Place.f K (xs, 0, (xs.length : Int), φ, ()) = some ((), (sortR lt [] xs, ())) := by
  refine sort_all (step := fun rec a => slices_insertionSortCmpFunc_impl_Place.l0.step K (xs, 0, (xs.length : Int), φ, ()) (slices_insertionSortCmpFunc_impl_Place.l1 K (xs, 0, (xs.length : Int), φ, ()) rec) rec a) lt xs hx ?_ ?_ (by omega)
  · intro rec done x r hl
    simp only [slices_insertionSortCmpFunc_impl_Place.l0.step]
    rw [decide_eq_true (by omega : ((done.length : Int)) < (xs.length : Int))]
    simp only [cond_true]
    have := ins_rounds lt (done.length : Int) rec (step := fun rec1 a => slices_insertionSortCmpFunc_impl_Place.l1.step K (xs, 0, (xs.length : Int), φ, ()) rec rec1 a) ?_ ?_ done.reverse r x K (by simp; omega) (by simp; omega)
    · rw [List.reverse_reverse, List.length_reverse] at this
      exact this
    · intro rec1 A y z B hl2
      simp only [slices_insertionSortCmpFunc_impl_Place.l1.step]
      have e1 : wr .i64 (((A.length + 1 : Nat) : Int) - 1) = (A.length : Int) := (wr64 (by omega) (by omega)).trans (by omega)
      rw [decide_eq_true (by omega : ((A.length + 1 : Nat) : Int) > 0)]
      obtain ⟨c, hc, hd⟩ := hφ z y
      simp only [cond_true, e1, Int.toNat_natCast, idx_mid1, idx_mid, Option.bind_some, hc, hd, set_mid1, set_mid]
    · intro rec1 ys
      simp only [slices_insertionSortCmpFunc_impl_Place.l1.step]
      rw [decide_eq_false (by omega : ¬ (0 : Int) > 0)]
      rfl
  · intro rec ys i hi
    simp only [slices_insertionSortCmpFunc_impl_Place.l0.step]
    rw [decide_eq_false (by omega : ¬ i < (xs.length : Int))]
    rfl
theorem sortPlace (K : Nat) (xs : List Place) (φ : Place × Place × Unit → Option Int) (lt : Place → Place → Bool) (hφ : ∀ y z, ∃ c, φ (y, z, ()) = some c ∧ decide (c < 0) = lt y z) (hx : xs.length ≤ 19) (hK : 1048577 < K) :
    slices_SortStableFunc_impl_Place_impl_Place.f K (xs, φ, ()) = some ((), (sortR lt [] xs, ())) := by
  simp only [slices_SortStableFunc_impl_Place_impl_Place.f, slices_SortStableFunc_impl_Place_impl_Place.pre]
  have : slices_stableCmpFunc_impl_Place.f K (xs, (xs.length : Int), φ, ()) = some ((), (sortR lt [] xs, ())) := by
    obtain ⟨k, rfl⟩ : ∃ k', K = k' + 1 := ⟨K - 1, by omega⟩
    show slices_stableCmpFunc_impl_Place.l0.step _ _ _ _ _ = _
    simp only [slices_stableCmpFunc_impl_Place.l0.step]
    rw [decide_eq_false (by omega : ¬ (20 : Int) ≤ (xs.length : Int))]
    simp only [cond_false]
    rw [isortPlace (k + 1) xs φ lt hφ (by omega) hK]
    simp only [Option.bind_some]
    have hs : ∀ (rec1 : slices_stableCmpFunc_impl_Place.A_l1 → Option slices_stableCmpFunc_impl_Place.Res), slices_stableCmpFunc_impl_Place.l1.step (k + 1) (xs, (xs.length : Int), φ, ()) (slices_stableCmpFunc_impl_Place.l2 (k + 1) (xs, (xs.length : Int), φ, ()) rec1) rec1 (sortR lt [] xs, 20) = some ((), (sortR lt [] xs, ())) := by
      intro rec1
      simp only [slices_stableCmpFunc_impl_Place.l1.step]
      rw [decide_eq_false (by omega : ¬ (20 : Int) < (xs.length : Int))]
      rfl
    exact hs _
  rw [this]
  rfl
end Go.Proofs.YthgnfidnmnkeaaaGreatEv
namespace Go.Proofs.YthgnfidnmnkeaaaGreatEv
open Go
end Go.Proofs.YthgnfidnmnkeaaaGreatEv
namespace Go.Proofs.YthgnfidnmnkeaaaGreatEv
open Go
end Go.Proofs.YthgnfidnmnkeaaaGreatEv
namespace Go.Proofs.YthgnfidnmnkeaaaGreatEv
open Go
theorem siteI_of {n : Int} (h : InP n 0 7) : siteI n = n / 4 := by
  obtain ⟨h1, h2⟩ := h
  unfold siteI
  rw [Int.tdiv_eq_ediv_of_nonneg h1, wr64 (by omega) (by omega)]
theorem asc_far {α : Type} {k : α → Int} {xs : List α} (h : Asc k xs) : ∀ i (hi : i < xs.length), k (xs[0]'(by omega)) + i ≤ k xs[i] := by
  rw [asc_adj] at h
  intro i
  induction i with
  | zero => intro hi; simp
  | succ i ih =>
    intro hi
    have h1 := ih (by omega)
    have h2 := h (i + 1) hi (by omega)
    simp only [Nat.add_sub_cancel] at h2
    omega
end Go.Proofs.YthgnfidnmnkeaaaGreatEv
namespace Go.Proofs.YthgnfidnmnkeaaaGreatEv
open Go
theorem nodeOk_both (K : Nat) (n : Node) (hn : NB n) (hK : 1048577 < K) : ∃ b, spec_NodeOk.f K (n, ()) = rb b ∧ impl_NodeOk.f K (n, ()) = rb b ∧ (b = true ↔ NodeP n) := by
  obtain ⟨b, h1, h2⟩ := nodeOk_s K n hn hK
  obtain ⟨b', h3, h4⟩ := nodeOk_i K n hn hK
  have : b = b' := by rw [Bool.eq_iff_iff, h2, h4]
  subst this
  exact ⟨b, h1, h3, h2⟩
theorem NodeP.up {n : Node} (h : NodeP n) (hu : n.2.1 = true) : UpP n := by
  have := h.2.2.2.2.2
  rwa [if_pos hu] at this
theorem mark_copy (K : Nat) (n : Node) (hn : NB n) (hK : 1048577 < K) : ∃ m : Int, 0 ≤ m ∧ laws_markNode.f K (n, 1, ()) = some ((m, ()), ((mkNode n 1).1, ())) := by
  refine ⟨(mkNode n 1).2, ?_, markNode_ok K n hn 1 (by omega) ?_ hK⟩
  · rw [wNode_ok]; omega
  · have := wNode_le hn; omega
theorem ints_said (K : Nat) (r : List Int) (hr : r.length ≤ 1048576) (hK : 1048577 < K) : ∃ m : Int, 0 ≤ m ∧ laws_eqIntS.f K (r, r, ()) = rb true ∧ laws_markIntS.f K (r, 1, ()) = some ((m, ()), ((mks mkInt r 1).1, ())) ∧ laws_heldIntS.f K ((mks mkInt r 1).1, 1, ()) = some ((m, ()), ()) := by
  have := wInts_le hr
  refine ⟨(mks mkInt r 1).2, ?_, eqIntS_refl K r hr hK, markIntS_ok K r 1 hr (by omega) (by omega) hK, heldIntS_ok K r 1 hr (by omega) (by omega) hK⟩
  rw [mks_next wInt_ok]; omega
end Go.Proofs.YthgnfidnmnkeaaaGreatEv
namespace Go.Proofs.YthgnfidnmnkeaaaGreatEv
open Go
end Go.Proofs.YthgnfidnmnkeaaaGreatEv
namespace Go.Proofs.YthgnfidnmnkeaaaGreatEv
open Go
def Rt (v r : Nat) : Prop := r * r ≤ v ∧ v < (r + 1) * (r + 1)
theorem Rt.eq {v r s : Nat} (h1 : Rt v r) (h2 : Rt v s) : r = s := by
  obtain ⟨a1, a2⟩ := h1
  obtain ⟨b1, b2⟩ := h2
  rcases Nat.lt_trichotomy r s with h | h | h
  · have := Nat.mul_le_mul (show r + 1 ≤ s by omega) (show r + 1 ≤ s by omega)
    omega
  · exact h
  · have := Nat.mul_le_mul (show s + 1 ≤ r by omega) (show s + 1 ≤ r by omega)
    omega
theorem root_s (K : Nat) (v : Nat) (hv : v < 1500000001 * 1500000001) (hK : 1048577 < K) : ∃ r, Rt v r ∧ spec_l1Root.f K ((v : Int), ()) = some (((r : Int), ()), ()) := by
  have key : ∀ (e k l h : Nat), h - l < 2 ^ e → e < k → l ≤ h → h ≤ 1500000000 → l * l ≤ v → v < (h + 1) * (h + 1) → ∃ r, Rt v r ∧ iterate (fun rec a => spec_l1Root.l0.step K ((v : Int), ()) rec a) k ((l : Int), (h : Int)) = some (((r : Int), ()), ()) := by
    intro e
    induction e with
    | zero =>
      intro k l h h1 hk hlh hh h2 h3
      obtain ⟨k, rfl⟩ : ∃ k', k = k' + 1 := ⟨k - 1, by omega⟩
      have : l = h := by omega
      subst this
      refine ⟨l, ⟨h2, h3⟩, ?_⟩
      show spec_l1Root.l0.step K _ _ _ = _
      simp only [spec_l1Root.l0.step]
      rw [decide_eq_false (by omega)]
      rfl
    | succ e ih =>
      intro k l h h1 hk hlh hh h2 h3
      obtain ⟨k, rfl⟩ : ∃ k', k = k' + 1 := ⟨k - 1, by omega⟩
      show ∃ r, Rt v r ∧ spec_l1Root.l0.step K _ _ _ = _
      simp only [spec_l1Root.l0.step]
      by_cases hl : l < h
      · rw [decide_eq_true (show (l : Int) < (h : Int) by omega)]
        have e1 : wr .i64 ((l : Int) + (h : Int)) = (l : Int) + h := wr64 (by omega) (by omega)
        have e2 : wr .i64 ((l : Int) + (h : Int) + 1) = ((l + h + 1 : Nat) : Int) := (wr64 (by omega) (by omega)).trans (by omega)
        have e3 : Int.tdiv ((l + h + 1 : Nat) : Int) 2 = (((l + h + 1) / 2 : Nat) : Int) := by
          rw [Int.tdiv_eq_ediv_of_nonneg (by omega)]; omega
        rw [e1, e2, e3]
        have hm : l < (l + h + 1) / 2 ∧ (l + h + 1) / 2 ≤ h := by omega
        have hw : h - (l + h + 1) / 2 < 2 ^ e ∧ (l + h + 1) / 2 - 1 - l < 2 ^ e := by
          rw [Nat.pow_succ] at h1; omega
        generalize (l + h + 1) / 2 = m at *
        have e4 : wr .i64 (m : Int) = m := wr64 (by omega) (by omega)
        have e5 : Int.tdiv (v : Int) (m : Int) = ((v / m : Nat) : Int) := by
          rw [Int.tdiv_eq_ediv_of_nonneg (by omega)]; rfl
        have hvm : v / m ≤ v := Nat.div_le_self _ _
        have hq : m ≤ v / m ↔ m * m ≤ v := Nat.le_div_iff_mul_le (by omega)
        generalize v / m = q at *
        have e6 : wr .i64 (q : Int) = (q : Int) := wr64 (by omega) (by omega)
        rw [e4, e5, e6, decide_eq_false (show ¬ (m : Int) = 0 by omega)]
        simp only [cond_true, cond_false]
        by_cases hc : m ≤ q
        · rw [decide_eq_true (by omega)]
          exact ih k m h hw.1 (by omega) (by omega) hh (hq.1 hc) h3
        · rw [decide_eq_false (by omega)]
          have hc2 : ¬ m * m ≤ v := fun h4 => hc (hq.2 h4)
          have e7 : wr .i64 ((m : Int) - 1) = ((m - 1 : Nat) : Int) := wr_pred m (by omega) (by omega)
          rw [e7]
          exact ih k l (m - 1) hw.2 (by omega) (by omega) (by omega) h2 (by rw [show m - 1 + 1 = m by omega]; omega)
      · have : l = h := by omega
        subst this
        refine ⟨l, ⟨h2, h3⟩, ?_⟩
        rw [decide_eq_false (by omega)]
        rfl
  exact key 31 K 0 1500000000 (by decide) (by omega) (by omega) (by omega) (by omega) hv
theorem root_i (K : Nat) (v : Nat) (hv : v < 1500000001 * 1500000001) (hK : 1048577 < K) : ∃ r, Rt v r ∧ impl_root.f K ((v : Int), ()) = some (((r : Int), ()), ()) := by
  have key : ∀ (e k l h : Nat), h - l ≤ 2 ^ e → e < k → l < h → h ≤ 2147483648 → l * l ≤ v → v < h * h → ∃ r, Rt v r ∧ iterate (fun rec a => impl_root.l0.step K ((v : Int), ()) rec a) k ((l : Int), (h : Int)) = some (((r : Int), ()), ()) := by
    intro e
    induction e with
    | zero =>
      intro k l h h1 hk hlh hh h2 h3
      obtain ⟨k, rfl⟩ : ∃ k', k = k' + 1 := ⟨k - 1, by omega⟩
      have : h = l + 1 := by omega
      subst this
      refine ⟨l, ⟨h2, h3⟩, ?_⟩
      show impl_root.l0.step K _ _ _ = _
      simp only [impl_root.l0.step]
      have e0 : wr .i64 (((l + 1 : Nat) : Int) - (l : Int)) = ((l + 1 : Nat) : Int) - (l : Int) := wr64 (by omega) (by omega)
      rw [e0, decide_eq_false (by omega)]
      rfl
    | succ e ih =>
      intro k l h h1 hk hlh hh h2 h3
      obtain ⟨k, rfl⟩ : ∃ k', k = k' + 1 := ⟨k - 1, by omega⟩
      show ∃ r, Rt v r ∧ impl_root.l0.step K _ _ _ = _
      simp only [impl_root.l0.step]
      have e0 : wr .i64 ((h : Int) - (l : Int)) = (h : Int) - (l : Int) := wr64 (by omega) (by omega)
      rw [e0]
      by_cases hl : l + 1 < h
      · rw [decide_eq_true (show (h : Int) - (l : Int) > 1 by omega)]
        have e1 : wr .i64 ((l : Int) + (h : Int)) = ((l + h : Nat) : Int) := (wr64 (by omega) (by omega)).trans (by omega)
        have e3 : Int.tdiv ((l + h : Nat) : Int) 2 = (((l + h) / 2 : Nat) : Int) := by
          rw [Int.tdiv_eq_ediv_of_nonneg (by omega)]; omega
        rw [e1, e3]
        have hm : l < (l + h) / 2 ∧ (l + h) / 2 < h := by omega
        have hw : h - (l + h) / 2 ≤ 2 ^ e ∧ (l + h) / 2 - l ≤ 2 ^ e := by
          rw [Nat.pow_succ] at h1; omega
        generalize (l + h) / 2 = m at *
        have e4 : wr .i64 (m : Int) = m := wr64 (by omega) (by omega)
        have hmm : m * m ≤ 2147483648 * 2147483648 := Nat.mul_le_mul (by omega) (by omega)
        have e5 : (m : Int) * (m : Int) = ((m * m : Nat) : Int) := (Int.natCast_mul m m).symm
        have e6 : wr .i64 ((m * m : Nat) : Int) = ((m * m : Nat) : Int) := wr64 (by omega) (by omega)
        rw [e4, e5, e6]
        simp only [cond_true]
        by_cases hc : m * m ≤ v
        · rw [decide_eq_true (by omega)]
          exact ih k m h hw.1 (by omega) (by omega) hh hc h3
        · rw [decide_eq_false (by omega)]
          exact ih k l m hw.2 (by omega) (by omega) (by omega) h2 (by omega)
      · have : h = l + 1 := by omega
        subst this
        refine ⟨l, ⟨h2, h3⟩, ?_⟩
        rw [decide_eq_false (by omega)]
        rfl
  exact key 31 K 0 2147483648 (by decide) (by omega) (by omega) (by omega) (by omega) (by omega)
def clampI (x : Int) : Int := if x < -1000000000 then -1000000000 else if x > 1000000000 then 1000000000 else x
theorem clamp_s (K : Nat) (x : Int) : spec_FixClamp.f K (x, ()) = some ((clampI x, ()), ()) := by
  simp only [spec_FixClamp.f, spec_FixClamp.pre, spec_l1Box.f, spec_l1Box.pre, clampI]
  by_cases h : x < -1000000000
  · rw [decide_eq_true h, if_pos h]; rfl
  · rw [decide_eq_false h, if_neg h]
    by_cases h2 : x > 1000000000
    · rw [decide_eq_true h2, if_pos h2]; rfl
    · rw [decide_eq_false h2, if_neg h2]; rfl
theorem clamp_i (K : Nat) (x : Int) : impl_FixClamp.f K (x, ()) = some ((clampI x, ()), ()) := by
  simp only [impl_FixClamp.f, impl_FixClamp.pre, impl_clamp.f, impl_clamp.pre, clampI, Option.bind_some]
  by_cases h2 : x > 1000000000
  · rw [decide_eq_true (show (1000000000 : Int) < x by omega), if_neg (by omega : ¬ x < -1000000000), if_pos h2]; rfl
  · rw [decide_eq_false (show ¬ (1000000000 : Int) < x by omega)]
    simp only [cond_false]
    by_cases h : x < -1000000000
    · rw [decide_eq_false (show ¬ -1000000000 < x by omega), if_pos h]; rfl
    · rw [if_neg h, if_neg h2]
      by_cases h3 : -1000000000 < x
      · rw [decide_eq_true h3]; rfl
      · rw [decide_eq_false h3]
        have : x = -1000000000 := by omega
        rw [this]; rfl
theorem clamp_in (x : Int) : -1000000000 ≤ clampI x ∧ clampI x ≤ 1000000000 := by
  unfold clampI; split
  · omega
  · split <;> omega
theorem sq_in {a : Int} (h : -1000000000 ≤ a ∧ a ≤ 1000000000) : 0 ≤ a * a ∧ a * a ≤ 1000000000000000000 := by
  have e : ∃ b : Nat, b ≤ 1000000000 ∧ a * a = ((b * b : Nat) : Int) := by
    refine ⟨a.natAbs, by omega, ?_⟩
    exact (Int.natAbs_mul_self).symm
  obtain ⟨b, h1, h2⟩ := e
  have := Nat.mul_le_mul h1 h1
  omega
theorem norm_same (K : Nat) (x y : Int) (hK : 1048577 < K) : ∃ r, spec_FixNorm.f K (x, y, ()) = some ((r, ()), ()) ∧ impl_FixNorm.f K (x, y, ()) = some ((r, ()), ()) := by
  simp only [spec_FixNorm.f, spec_FixNorm.pre, impl_FixNorm.f, impl_FixNorm.pre]
  rw [clamp_s K x, clamp_s K y, clamp_i K x, clamp_i K y]
  simp only [Option.bind_some]
  have h1 := sq_in (clamp_in x); have h2 := sq_in (clamp_in y)
  generalize clampI x * clampI x = a at *
  generalize clampI y * clampI y = b at *
  have e1 : wr .i64 a = a := wr64 (by omega) (by omega)
  have e2 : wr .i64 b = b := wr64 (by omega) (by omega)
  have e3 : wr .i64 (a + b) = (((a + b).toNat : Nat) : Int) := (wr64 (by omega) (by omega)).trans (by omega)
  rw [e1, e2, e3]
  obtain ⟨r, r1, r2⟩ := root_s K (a + b).toNat (by omega) hK
  obtain ⟨s, s1, s2⟩ := root_i K (a + b).toNat (by omega) hK
  have : r = s := r1.eq s1
  subst this
  rw [r2, s2]
  simp only [Option.bind_some]
  rw [clamp_s K r, clamp_i K r]
  exact ⟨_, rfl, rfl⟩
theorem dist_same (K : Nat) (c d : Coord) (hK : 1048577 < K) : ∃ r, spec_CoordDist.f K (c, d, ()) = some ((r, ()), ()) ∧ impl_CoordDist.f K (c, d, ()) = some ((r, ()), ()) := by
  simp only [spec_CoordDist.f, spec_CoordDist.pre, impl_CoordDist.f, impl_CoordDist.pre]
  obtain ⟨b, h1, h2⟩ := coord_s K c
  obtain ⟨b', h3, h4⟩ := coord_i K c
  have : b = b' := by rw [Bool.eq_iff_iff, h2, h4]
  subst this
  rw [h1, h3]
  cases b with
  | false => exact ⟨_, rfl, rfl⟩
  | true =>
    simp only [Option.bind_some, Bool.not_true, cond_false]
    obtain ⟨b, h1, h2⟩ := coord_s K d
    obtain ⟨b', h3, h4⟩ := coord_i K d
    have : b = b' := by rw [Bool.eq_iff_iff, h2, h4]
    subst this
    rw [h1, h3]
    cases b with
    | false => exact ⟨_, rfl, rfl⟩
    | true =>
      simp only [Option.bind_some, Bool.not_true, cond_false]
      obtain ⟨r, h5, h6⟩ := norm_same K (wr .i64 (c.1 - d.1)) (wr .i64 (c.2.1 - d.2.1)) hK
      rw [h5, h6]
      exact ⟨_, rfl, rfl⟩
end Go.Proofs.YthgnfidnmnkeaaaGreatEv
