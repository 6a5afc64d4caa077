/- The relation: what is carried from state to state; operands; typed values out of leaves; what is dropped, frozen, written into a slot. -/
import Derived.Test.YthgnfidnmnkeaaaGreatEv1
namespace Go.Proofs.YthgnfidnmnkeaaaGreatEv
open Go Go.RowKit

section
variable {P : Program} {V : Env} {W W' : Wit} {st st' : St} {w w' : World}

theorem gd_mono {p q : Bool} (hpq : p = true → q = true) (hnw : ∀ k, W.nw k → W'.nw k) : ∀ k, gd V W p k → gd V W' q k := by
  intro k hk
  rcases hk with hk | ⟨hp, hk⟩
  · exact .inl (hnw k hk)
  · exact .inr ⟨hpq hp, hk⟩

/-- How a leaf that is not touched fares. -/
structure Step (V : Env) (W W' : Wit) (st st' : St) (w w' : World) : Prop where
  ver : ∀ r, (st r).ver ≤ (st' r).ver ∧ ((st' r).ver = (st r).ver → W'.cs r = W.cs r)
  box : ∀ b, live st b → live st' b ∧ W'.β b = W.β b
  nw : ∀ k, W.nw k → W'.nw k
  heap : ∀ k, (W.nw k ∨ V.prot k) → w'.heap[k]? = w.heap[k]?

theorem cell_same {w w' : World} {a : Addr} (h : w'.heap[a.block]? = w.heap[a.block]?) : w'.cell? a = w.cell? a := by simp [World.cell?, h]

theorem Step.gdheap (hro : ∀ k, V.ro0 k → V.prot k) (h : Step V W W' st st' w w') (p : Bool) : ∀ k, gd V W p k → w'.heap[k]? = w.heap[k]? := by
  intro k hk
  rcases hk with hk | ⟨_, hk⟩
  · exact h.heap k (.inl hk)
  · exact h.heap k (.inr (hro k hk))

theorem LeafOk.carry (hro : ∀ k, V.ro0 k → V.prot k) {bs bs' : List Nat} {l : Leaf} {v : Value} (h : LeafOk P V W st w bs l v) (hs : Step V W W' st st' w w')
    (hown : isOwn l → bs' = bs ∧ ∀ k ∈ bs, w'.heap[k]? = w.heap[k]?) : LeafOk P V W' st' w' bs' l v := by
  have hG : ∀ p k, gd V W p k → gd V W' p k := fun p => gd_mono (fun h => h) hs.nw
  have hP : ∀ k, (W.nw k ∨ V.prot k) → (W'.nw k ∨ V.prot k) := fun k hk => hk.imp (hs.nw k) id
  cases l with
  | int k n => exact h
  | bool b => exact h
  | str s => exact h
  | nil => exact h
  | ro p E e xs => exact Rd.carry (hG p) (hs.gdheap hro p) h
  | own p E e xs =>
    obtain ⟨rfl, hb⟩ := hown trivial
    exact Ow.carry h (hG p) (hs.gdheap hro p) hb
  | al r j n =>
    obtain ⟨h1, h2⟩ := h
    obtain ⟨h3, h4⟩ := hs.ver r
    refine ⟨Nat.le_trans h1 h3, fun hv => ?_⟩
    have : (st r).ver = n := by omega
    rw [h4 (by omega)]
    exact h2 this
  | ep r j n i sz off =>
    obtain ⟨h1, h2⟩ := h
    obtain ⟨h3, h4⟩ := hs.ver r
    refine ⟨Nat.le_trans h1 h3, fun hv => ?_⟩
    have : (st r).ver = n := by omega
    rw [h4 (by omega)]
    exact h2 this
  | rp p a x off =>
    obtain ⟨g, o, c, hv, hg, hr, hc⟩ := h
    exact ⟨g, o, c, hv, hP g hg, Rd.carry (hG p) (hs.gdheap hro p) hr, hc.same (hs.heap g hg)⟩
  | rpp p a x =>
    obtain ⟨b, ob, g, o, c, hv, hb, hcell, hg, hr, hc⟩ := h
    exact ⟨b, ob, g, o, c, hv, hP b hb, by rw [cell_same (hs.heap b hb)]; exact hcell, hP g hg, Rd.carry (hG p) (hs.gdheap hro p) hr, hc.same (hs.heap g hg)⟩
  | bp b off =>
    obtain ⟨h1, h2, h3⟩ := h
    obtain ⟨h4, h5⟩ := hs.box b ⟨h1, h2⟩
    exact ⟨h1, h4.2, by rw [h5]; exact h3⟩
  | clo f caps =>
    obtain ⟨h1, h2⟩ := h
    refine ⟨?_, fun b hb => (hs.box b (h2 b hb)).1⟩
    rw [h1]
    congr 2
    refine List.map_congr_left fun b hb => ?_
    rw [(hs.box b (h2 b hb)).2]
  | fn As B φ => exact h
  | dead => trivial

/-! ### Leaves and their cells, one by one -/
def LsOk (P : Program) (V : Env) (W : Wit) (st : St) (w : World) : List Leaf → List Value → Prop
  | [], [] => True
  | l :: ls, v :: cs => (LeafOk P V W st w [] l v ∧ ¬ isOwn l ∧ v.oneCell' = true) ∧ LsOk P V W st w ls cs
  | _, _ => False

theorem LsOk.length : ∀ {ls : List Leaf} {cs : List Value}, LsOk P V W st w ls cs → ls.length = cs.length
  | [], [], _ => rfl
  | _ :: _, _ :: _, h => by simp [LsOk.length h.2]

theorem LsOk.at_ : ∀ {ls : List Leaf} {cs : List Value}, LsOk P V W st w ls cs → ∀ (j : Nat) (l : Leaf) (v : Value), ls[j]? = some l → cs[j]? = some v → LeafOk P V W st w [] l v ∧ ¬ isOwn l ∧ v.oneCell' = true
  | [], [], _, j, l, v, h1, _ => by simp at h1
  | _ :: _, _ :: _, h, 0, l, v, h1, h2 => by
    simp at h1 h2
    subst h1; subst h2
    exact h.1
  | _ :: _, _ :: _, h, j + 1, l, v, h1, h2 => LsOk.at_ h.2 j l v (by simpa using h1) (by simpa using h2)

theorem LsOk.one' : ∀ {ls : List Leaf} {cs : List Value}, LsOk P V W st w ls cs → ∀ v ∈ cs, v.oneCell' = true
  | [], [], _, _, hv => by simp at hv
  | _ :: _, _ :: _, h, v, hv => by
    rcases List.mem_cons.1 hv with rfl | hv
    · exact h.1.2.2
    · exact LsOk.one' h.2 v hv

theorem LsOk.mk : ∀ {ls : List Leaf} {cs : List Value}, ls.length = cs.length → (∀ (j : Nat) (l : Leaf) (v : Value), ls[j]? = some l → cs[j]? = some v → LeafOk P V W st w [] l v ∧ ¬ isOwn l ∧ v.oneCell' = true) → LsOk P V W st w ls cs
  | [], [], _, _ => trivial
  | [], _ :: _, h, _ => by simp at h
  | _ :: _, [], h, _ => by simp at h
  | _ :: _, _ :: _, h, H => ⟨H 0 _ _ rfl rfl, LsOk.mk (by simpa using h) fun j l v h1 h2 => H (j + 1) l v (by simpa using h1) (by simpa using h2)⟩

theorem LsOk.drop {ls : List Leaf} {cs : List Value} (h : LsOk P V W st w ls cs) (n : Nat) : LsOk P V W st w (ls.drop n) (cs.drop n) :=
  LsOk.mk (by simp [h.length]) fun j l v h1 h2 => h.at_ (n + j) l v (by simpa using h1) (by simpa using h2)

theorem LsOk.take {ls : List Leaf} {cs : List Value} (h : LsOk P V W st w ls cs) (n : Nat) : LsOk P V W st w (ls.take n) (cs.take n) :=
  LsOk.mk (by simp [h.length]) fun j l v h1 h2 => by
    rw [List.getElem?_take] at h1 h2
    split at h1
    · rename_i hlt
      rw [if_pos hlt] at h2
      exact h.at_ j l v h1 h2
    · cases h1

theorem LsOk.append {l1 l2 : List Leaf} {c1 c2 : List Value} (h1 : LsOk P V W st w l1 c1) (h2 : LsOk P V W st w l2 c2) : LsOk P V W st w (l1 ++ l2) (c1 ++ c2) := by
  induction l1 generalizing c1 with
  | nil =>
    cases c1 with
    | nil => simpa using h2
    | cons => simp [LsOk] at h1
  | cons l ls ih =>
    cases c1 with
    | nil => simp [LsOk] at h1
    | cons v cs => exact ⟨h1.1, ih h1.2⟩

theorem LsOk.carry (hro : ∀ k, V.ro0 k → V.prot k) (hs : Step V W W' st st' w w') : ∀ {ls : List Leaf} {cs : List Value}, LsOk P V W st w ls cs → LsOk P V W' st' w' ls cs
  | [], [], _ => trivial
  | _ :: _, _ :: _, h => ⟨⟨h.1.1.carry hro hs (fun ho => absurd ho h.1.2.1), h.1.2⟩, LsOk.carry hro hs h.2⟩

/-- The leaves of a value that is read. -/
theorem leaves_ok {G : Nat → Prop} {p : Bool} (hG : ∀ k, G k → gd V W p k) : ∀ {a : Ty} {x : a.den} {cs : List Value}, Rd w G a x cs → LsOk P V W st w (leaves false p a x) cs
  | .int _, _, _, h => by rw [show _ = _ from h]; exact ⟨⟨rfl, id, rfl⟩, trivial⟩
  | .bool, _, _, h => by rw [show _ = _ from h]; exact ⟨⟨rfl, id, rfl⟩, trivial⟩
  | .str, _, _, h => by rw [show _ = _ from h]; exact ⟨⟨rfl, id, rfl⟩, trivial⟩
  | .unit, _, _, h => by rw [show _ = _ from h]; trivial
  | .pair _ _, _, _, ⟨c1, c2, e, h1, h2⟩ => by rw [e]; exact (leaves_ok hG h1).append (leaves_ok hG h2)
  | .list E e, xs, _, h => by
    obtain ⟨A, cap, rfl, h2, h3⟩ := h
    exact ⟨⟨Rd.mono hG (⟨A, cap, rfl, h2, h3⟩ : Rd w _ (.list E e) xs _), id, rfl⟩, trivial⟩

theorem leaves_length (ow p : Bool) : ∀ (a : Ty) (x : a.den), (leaves ow p a x).length = a.cells
  | .int _, _ => rfl
  | .bool, _ => rfl
  | .str, _ => rfl
  | .unit, _ => rfl
  | .pair a b, x => by simp [leaves, Ty.cells, leaves_length ow p a, leaves_length ow p b]
  | .list _ _, _ => rfl

/-! ### Operands -/
theorem viewFrom_length (t n : Nat) : ∀ (j : Nat) (ls : List Leaf), (viewFrom t n j ls).length = ls.length
  | _, [] => rfl
  | j, _ :: ls => by simp [viewFrom, viewFrom_length t n (j + 1) ls]

theorem viewFrom_at (t n : Nat) : ∀ (j : Nat) (ls : List Leaf) (i : Nat) (l : Leaf), ls[i]? = some l → (viewFrom t n j ls)[i]? = some (viewLeaf t (j + i) n l)
  | _, [], i, l, h => by simp at h
  | j, l' :: ls, 0, l, h => by
    simp at h; subst h
    simp [viewFrom]
  | j, l' :: ls, i + 1, l, h => by
    have := viewFrom_at t n (j + 1) ls i l (by simpa using h)
    simp only [viewFrom, List.getElem?_cons_succ, this]
    congr 2
    omega

/-- A resource's leaves, seen from outside. -/
theorem view_ok {a : Act} (h : RelAt P V W st a w) (r : Nat) : LsOk P V W st w (viewFrom r (st r).ver 0 (st r).ls) (W.cs r) := by
  refine LsOk.mk (by rw [viewFrom_length, h.len]) fun j l v hl hv => ?_
  have hj : j < (st r).ls.length := by
    have := (List.getElem?_eq_some_iff.1 hl).1
    simpa [viewFrom_length] using this
  have h0 : (st r).ls[j]? = some (st r).ls[j] := List.getElem?_eq_getElem hj
  have h1 := viewFrom_at r (st r).ver 0 (st r).ls j _ h0
  rw [h1] at hl
  have h2 := h.leaf r j _ v h0 hv
  have h3 := h.one r v (List.mem_of_getElem? hv)
  simp only [Option.some.injEq] at hl
  subst hl
  generalize hq : (st r).ls[j] = q at h2
  cases q with
  | own p E e xs => exact ⟨⟨Nat.le_refl _, fun _ => by simpa using hv⟩, id, h3⟩
  | _ => exact ⟨h2, id, h3⟩

theorem constLeaf_ok {v : Value} {l : Leaf} (h : constLeaf v = some l) : LeafOk P V W st w [] l v ∧ ¬ isOwn l ∧ v.oneCell' = true := by
  unfold constLeaf at h
  split at h <;> simp at h <;> subst h <;> exact ⟨rfl, id, rfl⟩

/-- What an operand is. -/
theorem opnd_ok {a : Act} (h : RelAt P V W st a w) (x : Operand) :
    ∃ cs, ShOk (opnd st x).1 (a.eval x) cs ∧ LsOk P V W st w (opnd st x).2 cs := by
  cases x with
  | tmp t =>
    simp only [opnd]
    cases ht : Nat.blt t B0 with
    | false => exact ⟨[], rfl, trivial⟩
    | true => exact ⟨W.cs t, h.slots t (by simpa [Nat.blt_eq] using ht), view_ok h t⟩
  | const v =>
    simp only [opnd, Act.eval]
    cases hc : constLeaf v with
    | none => exact ⟨[], rfl, trivial⟩
    | some l => exact ⟨[v], rfl, ⟨constLeaf_ok hc, trivial⟩⟩
  | func f => exact ⟨[.func (.func f) #[] #[]], rfl, ⟨⟨⟨rfl, fun b hb => by simp at hb⟩, id, rfl⟩, trivial⟩⟩
  | global g => exact ⟨[], rfl, trivial⟩

/-- An operand of one cell. -/
theorem one_ok {a : Act} (h : RelAt P V W st a w) (x : Operand) (hd : one st x ≠ .dead) :
    LeafOk P V W st w [] (one st x) (a.eval x) ∧ ¬ isOwn (one st x) ∧ (a.eval x).oneCell' = true ∧ (opnd st x).1 = .one ∧ (opnd st x).2 = [one st x] := by
  obtain ⟨cs, h1, h2⟩ := opnd_ok h x
  unfold one at hd ⊢
  split at hd
  · rename_i l he
    simp only [he] at h1 h2 ⊢
    have h1' : cs = [a.eval x] := h1
    subst h1'
    exact ⟨h2.1.1, h2.1.2.1, h2.1.2.2, by simp, by simp⟩
  · exact absurd rfl hd

theorem deref_own {a : Act} (h : RelAt P V W st a w) {r j n : Nat} {p : Bool} {E : TypeId} {e : Ty} {xs : List e.den} (hd : deref st (.al r j n) = .own p E e xs) :
    (st r).ver = n ∧ (st r).ls[j]? = some (.own p E e xs) := by
  simp only [deref] at hd
  cases hb : Nat.beq (st r).ver n with
  | false => simp [hb] at hd
  | true =>
    simp only [hb, cond_true] at hd
    refine ⟨Nat.eq_of_beq_eq_true hb, ?_⟩
    rw [List.getD_eq_getElem?_getD] at hd
    cases hq : (st r).ls[j]? with
    | none => simp [hq] at hd
    | some l => simp [hq] at hd; rw [hd]

/-- What an alias of something owned is. -/
theorem al_own {a : Act} (h : RelAt P V W st a w) {r j n : Nat} {p : Bool} {E : TypeId} {e : Ty} {xs : List e.den} {v : Value} (hd : deref st (.al r j n) = .own p E e xs)
    (hl : LeafOk P V W st w [] (.al r j n) v) : (W.cs r)[j]? = some v ∧ Ow w (gd V W p) E e xs v (W.bs r j) ∧ (st r).ls[j]? = some (.own p E e xs) ∧ (st r).ver = n := by
  obtain ⟨h1, h2⟩ := deref_own h hd
  have h3 := hl.2 h1
  exact ⟨h3, h.leaf r j _ v h2 h3, h2, h1⟩

/-! ### Typed values out of leaves -/
/-- What an operand's leaves reach. -/
def reach (V : Env) (W : Wit) (p : Bool) (ks : List (Nat × Nat)) (k : Nat) : Prop := gd V W p k ∨ ∃ x ∈ ks, k ∈ W.bs x.1 x.2

theorem castList_some {E : TypeId} {e : Ty} {E' : TypeId} {e' : Ty} {xs : List e'.den} {ys : List e.den} (h : castList E e E' e' xs = some ys) :
    ∃ (h1 : E' = E) (h2 : e' = e), h2 ▸ xs = ys := by
  unfold castList at h
  split at h
  · rename_i hh
    simp at h
    exact ⟨hh.1, hh.2, h⟩
  · cases h

theorem owned_append (st : St) : ∀ (l1 l2 : List Leaf), owned st (l1 ++ l2) = owned st l1 ++ owned st l2
  | [], _ => rfl
  | l :: l1, l2 => by
    have := owned_append st l1 l2
    cases l <;> simp [owned, this]

theorem asList_ok {a : Act} (h : RelAt P V W st a w) {E : TypeId} {e : Ty} {l : Leaf} {v : Value} {p : Bool} {xs : List e.den}
    (hl : LeafOk P V W st w [] l v) (hno : ¬ isOwn l) (ha : asList E e (deref st l) = some (p, xs)) : Rd w (reach V W p (owned st [l])) (.list E e) xs [v] := by
  cases l with
  | ro q E' e' ys =>
    simp only [deref, asList, Option.map_eq_some_iff, Prod.mk.injEq] at ha
    obtain ⟨zs, hc, rfl, rfl⟩ := ha
    obtain ⟨rfl, rfl, rfl⟩ := castList_some hc
    exact Rd.mono (fun k hk => .inl hk) hl
  | nil =>
    simp only [deref, asList, Option.some.injEq, Prod.mk.injEq] at ha
    obtain ⟨rfl, rfl⟩ := ha
    rw [show v = _ from hl]
    exact Rd.nil w _ E e
  | al r j n =>
    cases hd : deref st (.al r j n) with
    | own q E' e' ys =>
      simp only [hd, asList, Option.map_eq_some_iff, Prod.mk.injEq] at ha
      obtain ⟨zs, hc, rfl, rfl⟩ := ha
      obtain ⟨rfl, rfl, rfl⟩ := castList_some hc
      obtain ⟨_, ho, _, _⟩ := al_own h hd hl
      refine Rd.mono (fun k hk => ?_) (ho.rd (E' := E'))
      rcases hk with hk | hk
      · exact .inl hk
      · exact .inr ⟨(r, j), by simp [owned, hd], hk⟩
    | ro q E' e' ys =>
      -- what stands there is no longer owned, but read: the alias's own value is still there
      simp only [hd, asList, Option.map_eq_some_iff, Prod.mk.injEq] at ha
      obtain ⟨zs, hc, rfl, rfl⟩ := ha
      obtain ⟨rfl, rfl, rfl⟩ := castList_some hc
      simp only [deref] at hd
      cases hb : Nat.beq (st r).ver n with
      | false => simp [hb] at hd
      | true =>
        simp only [hb, cond_true] at hd
        have hv := hl.2 (Nat.eq_of_beq_eq_true hb)
        rw [List.getD_eq_getElem?_getD] at hd
        cases hq : (st r).ls[j]? with
        | none => simp [hq] at hd
        | some l =>
          simp [hq] at hd
          subst hd
          exact Rd.mono (fun k hk => .inl hk) (h.leaf r j _ v hq hv)
    | nil =>
      simp only [hd, asList, Option.some.injEq, Prod.mk.injEq] at ha
      obtain ⟨rfl, rfl⟩ := ha
      simp only [deref] at hd
      cases hb : Nat.beq (st r).ver n with
      | false => simp [hb] at hd
      | true =>
        simp only [hb, cond_true] at hd
        have hv := hl.2 (Nat.eq_of_beq_eq_true hb)
        rw [List.getD_eq_getElem?_getD] at hd
        cases hq : (st r).ls[j]? with
        | none => simp [hq] at hd
        | some l =>
          simp [hq] at hd
          subst hd
          have := h.leaf r j _ v hq hv
          rw [show v = _ from this]
          exact Rd.nil w _ E e
    | _ => simp [hd, asList] at ha
  | own q E' e' ys => exact absurd trivial hno
  | _ => simp [deref, asList] at ha

theorem gather_ok {a : Act} (h : RelAt P V W st a w) : ∀ (b : Ty) (ls : List Leaf) (cs : List Value) (p : Bool) (x : b.den) (rest : List Leaf), LsOk P V W st w ls cs →
    gather st b ls = some (p, x, rest) → ∃ c1 c2 l1, cs = c1 ++ c2 ∧ ls = l1 ++ rest ∧ LsOk P V W st w l1 c1 ∧ LsOk P V W st w rest c2 ∧ Rd w (reach V W p (owned st l1)) b x c1
  | .int k, ls, cs, p, x, rest, hl, hg => by
    simp only [gather] at hg
    split at hg
    · rename_i k' n ls
      split at hg
      · rename_i hk
        simp only [Option.some.injEq, Prod.mk.injEq] at hg
        obtain ⟨rfl, rfl, rfl⟩ := hg
        cases cs with
        | nil => exact hl.elim
        | cons v cs => exact ⟨[v], cs, [_], rfl, rfl, ⟨hl.1, trivial⟩, hl.2, by rw [show v = _ from hl.1.1, hk]; rfl⟩
      · cases hg
    · cases hg
  | .bool, ls, cs, p, x, rest, hl, hg => by
    simp only [gather] at hg
    split at hg
    · simp only [Option.some.injEq, Prod.mk.injEq] at hg
      obtain ⟨rfl, rfl, rfl⟩ := hg
      cases cs with
      | nil => exact hl.elim
      | cons v cs => exact ⟨[v], cs, [_], rfl, rfl, ⟨hl.1, trivial⟩, hl.2, by rw [show v = _ from hl.1.1]; rfl⟩
    · cases hg
  | .str, ls, cs, p, x, rest, hl, hg => by
    simp only [gather] at hg
    split at hg
    · simp only [Option.some.injEq, Prod.mk.injEq] at hg
      obtain ⟨rfl, rfl, rfl⟩ := hg
      cases cs with
      | nil => exact hl.elim
      | cons v cs => exact ⟨[v], cs, [_], rfl, rfl, ⟨hl.1, trivial⟩, hl.2, by rw [show v = _ from hl.1.1]; rfl⟩
    · cases hg
  | .unit, ls, cs, p, x, rest, hl, hg => by
    simp only [gather, Option.some.injEq, Prod.mk.injEq] at hg
    obtain ⟨rfl, _, rfl⟩ := hg
    exact ⟨[], cs, [], rfl, rfl, trivial, hl, rfl⟩
  | .pair b c, ls, cs, p, x, rest, hl, hg => by
    simp only [gather] at hg
    split at hg
    · rename_i q y ls1 hb
      split at hg
      · rename_i q' z ls2 hc
        simp only [Option.some.injEq, Prod.mk.injEq] at hg
        obtain ⟨rfl, rfl, rfl⟩ := hg
        obtain ⟨c1, c2, l1, e1, e2, h1, h2, h3⟩ := gather_ok h b ls cs q y ls1 hl hb
        obtain ⟨c3, c4, l2, e3, e4, h4, h5, h6⟩ := gather_ok h c ls1 c2 q' z ls2 h2 hc
        refine ⟨c1 ++ c3, c4, l1 ++ l2, by rw [e1, e3, List.append_assoc], by rw [e2, e4, List.append_assoc], h1.append h4, h5, c1, c3, rfl, ?_, ?_⟩
        · refine Rd.mono (fun k hk => ?_) h3
          rcases hk with hk | ⟨y, hy, hk⟩
          · exact .inl (gd_mono (by simp_all) (fun _ h => h) k hk)
          · exact .inr ⟨y, by rw [owned_append]; exact List.mem_append_left _ hy, hk⟩
        · refine Rd.mono (fun k hk => ?_) h6
          rcases hk with hk | ⟨y, hy, hk⟩
          · exact .inl (gd_mono (by simp_all) (fun _ h => h) k hk)
          · exact .inr ⟨y, by rw [owned_append]; exact List.mem_append_right _ hy, hk⟩
      · cases hg
    · cases hg
  | .list E e, ls, cs, p, x, rest, hl, hg => by
    simp only [gather] at hg
    split at hg
    · rename_i l ls1
      split at hg
      · rename_i q ys ha
        simp only [Option.some.injEq, Prod.mk.injEq] at hg
        obtain ⟨rfl, rfl, rfl⟩ := hg
        cases cs with
        | nil => exact hl.elim
        | cons v cs => exact ⟨[v], cs, [l], rfl, rfl, ⟨hl.1, trivial⟩, hl.2, asList_ok h hl.1.1 hl.1.2.1 ha⟩
      · cases hg
    · cases hg

theorem gatherAll_ok {a : Act} (h : RelAt P V W st a w) {b : Ty} {ls : List Leaf} {cs : List Value} {p : Bool} {x : b.den} (hl : LsOk P V W st w ls cs)
    (hg : gatherAll st b ls = some (p, x)) : Rd w (reach V W p (owned st ls)) b x cs := by
  unfold gatherAll at hg
  split at hg
  · rename_i q y hq
    simp only [Option.some.injEq, Prod.mk.injEq] at hg
    obtain ⟨rfl, rfl⟩ := hg
    obtain ⟨c1, c2, l1, e1, e2, h1, h2, h3⟩ := gather_ok h b ls cs _ _ _ hl hq
    have : c2 = [] := by
      cases c2 with
      | nil => rfl
      | cons => exact h2.elim
    subst this
    simp only [List.append_nil] at e1 e2
    subst e1; subst e2
    exact h3
  · cases hg

end
end Go.Proofs.YthgnfidnmnkeaaaGreatEv
