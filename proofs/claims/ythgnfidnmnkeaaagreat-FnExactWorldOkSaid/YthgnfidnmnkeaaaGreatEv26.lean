/- A function: how it ends. -/
import Derived.Test.YthgnfidnmnkeaaaGreatEv25
namespace Go.Proofs.YthgnfidnmnkeaaaGreatEv
open Go Go.RowKit

section
variable {P : Program} {V : Env} {W : Wit} {Γ : List Ctr} {T : TypeId → TI} {R : Type} {st : St} {a : Act} {w : World}

open Classical in
/-- The blocks that a result's leaf owns. -/
noncomputable def bsOf (W : Wit) (st : St) (ls : List Leaf) (j : Nat) : List Nat :=
  match ls[j]? with
  | some (.al r i v) => if isOwn (deref st (.al r i v)) then W.bs r i else []
  | _ => []

theorem bsOf_left {l1 l2 : List Leaf} {j : Nat} (h : j < l1.length) : bsOf W st (l1 ++ l2) j = bsOf W st l1 j := by
  unfold bsOf
  rw [List.getElem?_append_left h]

theorem bsOf_right {l1 l2 : List Leaf} {j : Nat} : bsOf W st (l1 ++ l2) (l1.length + j) = bsOf W st l2 j := by
  unfold bsOf
  rw [List.getElem?_append_right (by omega), Nat.add_sub_cancel_left]

theorem bsOf_mem {ls : List Leaf} {j k : Nat} (h : k ∈ bsOf W st ls j) : ∃ r i v, ls[j]? = some (.al r i v) ∧ isOwn (deref st (.al r i v)) ∧ k ∈ W.bs r i := by
  unfold bsOf at h
  split at h
  · rename_i r i v hl
    by_cases ho : isOwn (deref st (.al r i v))
    · rw [if_pos ho] at h
      exact ⟨r, i, v, hl, ho, h⟩
    · rw [if_neg ho] at h
      simp at h
  · simp at h

/-- What is asked of a result's leaves. -/
def LeafRes (V : Env) (W : Wit) (st : St) (G : Nat → Prop) (ow : Bool) (l : Leaf) : Prop :=
  (∀ q E e xs, deref st l = .ro q E e xs → ow = false ∧ ∀ k, gd V W q k → G k) ∧
  (∀ q E e xs, deref st l = .own q E e xs → (∀ k, gd V W q k → G k) ∧ (ow = false → ∀ r i v, l = .al r i v → ∀ k ∈ W.bs r i, G k))

theorem list_lv (hV : EnvOk V) (h : RelAt P V W st a w) {G : Nat → Prop} {ow p q : Bool} {E : TypeId} {e : Ty} {xs : List e.den} {l : Leaf} {u : Value} (hl : LeafOk P V W st w [] l u) (hno : ¬ isOwn l)
    (hg : asList E e (deref st l) = some (q, xs)) (hr : LeafRes V W st G ow l) : LvOk w G p (bsOf W st [l] 0) (bif ow then .own p E e xs else .ro p E e xs) u := by
  obtain ⟨hro, how⟩ := hr
  rcases deref_ok hV h hl hno with ⟨r, i, n, rfl, h1, h2, h3⟩ | ⟨h1, h2⟩
  · have hb : bsOf W st [.al r i n] 0 = W.bs r i := by simp [bsOf, h1]
    rw [hb]
    generalize hd : deref st (.al r i n) = d at h1 h2 hg
    cases d with
    | own q' E' e' ys =>
      simp only [asList, Option.map_eq_some_iff, Prod.mk.injEq] at hg
      obtain ⟨zs, hc, rfl, rfl⟩ := hg
      obtain ⟨rfl, rfl, rfl⟩ := castList_some hc
      obtain ⟨h4, h5⟩ := how q' E' e' ys hd
      cases ow with
      | true => exact ⟨rfl, Ow.carry h2 h4 (fun _ _ => rfl) (fun _ _ => rfl)⟩
      | false =>
        refine ⟨rfl, Rd.mono (fun k hk => ?_) (Ow.rd (E' := E') h2)⟩
        rcases hk with hk | hk
        · exact h4 k hk
        · exact h5 rfl r i n rfl k hk
    | _ => exact h1.elim
  · generalize hd : deref st l = d at h1 h2 hg
    cases d with
    | own q' E' e' ys => exact absurd trivial h1
    | ro q' E' e' ys =>
      simp only [asList, Option.map_eq_some_iff, Prod.mk.injEq] at hg
      obtain ⟨zs, hc, rfl, rfl⟩ := hg
      obtain ⟨rfl, rfl, rfl⟩ := castList_some hc
      obtain ⟨rfl, h4⟩ := hro q' E' e' ys hd
      exact ⟨rfl, Rd.mono h4 h2⟩
    | nil =>
      simp only [asList, Option.some.injEq, Prod.mk.injEq] at hg
      obtain ⟨rfl, rfl⟩ := hg
      have hu : u = .slice none 0 0 := h2
      subst hu
      have hb : bsOf W st [l] 0 = [] := by
        unfold bsOf
        simp only [List.getElem?_cons_zero]
        split
        · rename_i r i v hl'
          cases hl'
          rw [if_neg]
          rw [hd]
          exact id
        · rfl
      rw [hb]
      cases ow with
      | true => exact ⟨rfl, Ow.nil w G E e⟩
      | false => exact ⟨rfl, Rd.nil w G E e⟩
    | _ => simp [asList] at hg

theorem res_lv (hV : EnvOk V) (h : RelAt P V W st a w) {G : Nat → Prop} {ow : Bool} : ∀ (b : Ty) (ls : List Leaf) (cs : List Value) (q : Bool) (x : b.den) (rest : List Leaf), LsOk P V W st w ls cs →
    (∀ l ∈ ls, LeafRes V W st G ow l) → gather st b ls = some (q, x, rest) → ∃ c1 c2 l1, cs = c1 ++ c2 ∧ ls = l1 ++ rest ∧ LsOk P V W st w rest c2 ∧ l1.length = b.cells ∧ c1.length = b.cells ∧
      ∀ (p : Bool) (j : Nat) (l : Leaf) (u : Value), (leaves ow p b x)[j]? = some l → c1[j]? = some u → LvOk w G p (bsOf W st l1 j) l u
  | .int k, ls, cs, q, x, rest, hl, hr, hg => by
    simp only [gather] at hg
    split at hg
    · rename_i k' n ls
      split at hg
      · rename_i hk
        simp only [Option.some.injEq, Prod.mk.injEq] at hg
        obtain ⟨_, rfl, rfl⟩ := hg
        cases cs with
        | nil => exact hl.elim
        | cons v cs =>
          refine ⟨[v], cs, [_], rfl, rfl, hl.2, rfl, rfl, fun p j l u h1 h2 => ?_⟩
          cases j with
          | zero => simp [leaves] at h1 h2; subst hk; subst h1; subst h2; exact hl.1.1
          | succ j => simp [leaves] at h1
      · cases hg
    · cases hg
  | .bool, ls, cs, q, x, rest, hl, hr, hg => by
    simp only [gather] at hg
    split at hg
    · simp only [Option.some.injEq, Prod.mk.injEq] at hg
      obtain ⟨_, rfl, rfl⟩ := hg
      cases cs with
      | nil => exact hl.elim
      | cons v cs =>
        refine ⟨[v], cs, [_], rfl, rfl, hl.2, rfl, rfl, fun p j l u h1 h2 => ?_⟩
        cases j with
        | zero => simp [leaves] at h1 h2; subst h1; subst h2; exact hl.1.1
        | succ j => simp [leaves] at h1
    · cases hg
  | .str, ls, cs, q, x, rest, hl, hr, hg => by
    simp only [gather] at hg
    split at hg
    · simp only [Option.some.injEq, Prod.mk.injEq] at hg
      obtain ⟨_, rfl, rfl⟩ := hg
      cases cs with
      | nil => exact hl.elim
      | cons v cs =>
        refine ⟨[v], cs, [_], rfl, rfl, hl.2, rfl, rfl, fun p j l u h1 h2 => ?_⟩
        cases j with
        | zero => simp [leaves] at h1 h2; subst h1; subst h2; exact hl.1.1
        | succ j => simp [leaves] at h1
    · cases hg
  | .unit, ls, cs, q, x, rest, hl, hr, hg => by
    simp only [gather, Option.some.injEq, Prod.mk.injEq] at hg
    obtain ⟨_, _, rfl⟩ := hg
    exact ⟨[], cs, [], rfl, rfl, hl, rfl, rfl, fun p j l u h1 h2 => by simp at h2⟩
  | .pair b c, ls, cs, q, x, rest, hl, hr, hg => by
    simp only [gather] at hg
    split at hg
    · rename_i q1 y ls1 hb
      split at hg
      · rename_i q2 z ls2 hc
        simp only [Option.some.injEq, Prod.mk.injEq] at hg
        obtain ⟨_, rfl, rfl⟩ := hg
        obtain ⟨c1, c2, l1, e1, e2, h2, h3, h4, h5⟩ := res_lv hV h b ls cs q1 y ls1 hl hr hb
        obtain ⟨c3, c4, l2, e3, e4, h6, h7, h8, h9⟩ := res_lv hV h c ls1 c2 q2 z ls2 h2 (fun l hm => hr l (by rw [e2]; exact List.mem_append_right _ hm)) hc
        refine ⟨c1 ++ c3, c4, l1 ++ l2, by rw [e1, e3, List.append_assoc], by rw [e2, e4, List.append_assoc], h6, by simp [h3, h7, Ty.cells], by simp [h4, h8, Ty.cells], fun p j l u hj hu => ?_⟩
        simp only [leaves] at hj
        have hll := leaves_length ow p b y
        by_cases hlt : j < b.cells
        · rw [List.getElem?_append_left (by omega)] at hj hu
          rw [bsOf_left (by omega)]
          exact h5 p j l u hj hu
        · rw [List.getElem?_append_right (by omega)] at hj hu
          have e : j = l1.length + (j - b.cells) := by omega
          rw [e, bsOf_right]
          rw [hll] at hj
          rw [h4] at hu
          exact h9 p _ l u hj hu
      · cases hg
    · cases hg
  | .list E e, ls, cs, q, x, rest, hl, hr, hg => by
    simp only [gather] at hg
    split at hg
    · rename_i l ls1
      split at hg
      · rename_i q1 ys ha
        simp only [Option.some.injEq, Prod.mk.injEq] at hg
        obtain ⟨_, rfl, rfl⟩ := hg
        cases cs with
        | nil => exact hl.elim
        | cons v cs =>
          refine ⟨[v], cs, [l], rfl, rfl, hl.2, rfl, rfl, fun p j l' u h1 h2 => ?_⟩
          cases j with
          | zero =>
            simp [leaves] at h1 h2
            subst h1; subst h2
            exact list_lv hV h hl.1.1 hl.1.2.1 ha (hr l (List.mem_cons_self ..))
          | succ j => simp [leaves] at h1
      · cases hg
    · cases hg

/-- A result variable's value. -/
theorem var_ok (hT : TOk P T) (h : RelAt P V W st a w) (x : ResultVar) (hx : resSh st T x ≠ .off) :
    ∃ v cs, (match x with | .tmp t => (pure (a.tmps.getD t undef) : Sem Value) | .cell b t => (do loadVar t (← asAddr (a.tmps.getD b undef)) : Sem Value)).run P w = .ok v w ∧
      ShOk (resSh st T x) v cs ∧ LsOk P V W st w (resLs st T x) cs := by
  cases x with
  | tmp t =>
    obtain ⟨cs, h1, h2⟩ := opnd_ok h (.tmp t)
    exact ⟨_, cs, rfl, h1, h2⟩
  | cell t ty =>
    simp only [resSh] at hx ⊢
    split at hx
    · rename_i b off hb
      cases hc : decide ((st b).sh = .agg) && Nat.ble (off + (T ty).cells) (st b).ls.length && !Nat.beq (T ty).cells 0 with
      | false => rw [hc] at hx; exact absurd rfl hx
      | true =>
        simp only [hb, hc, cond_true, resLs]
        simp only [Bool.and_eq_true, decide_eq_true_eq, Bool.not_eq_true'] at hc
        obtain ⟨⟨h1, h2⟩, h3⟩ := hc
        have h2 : off + (T ty).cells ≤ (st b).ls.length := Nat.le_of_ble_eq_true h2
        have hnn : T ty ≠ .none := by
          intro e
          rw [e] at h3
          simp [TI.cells] at h3
        obtain ⟨hp, _, _, _, _⟩ := one_ok h (.tmp t) (by rw [hb]; simp)
        rw [hb] at hp
        obtain ⟨hB, hag, hv⟩ := hp
        have hv : a.tmps.getD t undef = .pointer (some ⟨W.β b, off, none⟩) := hv
        rcases h.boxes b hB with ⟨h8, _⟩ | ⟨_, E, h8⟩
        · rw [hag] at h8; cases h8
        · have hcell : Cells w (W.β b) 0 (W.cs b) := fun i v hv => by
            rw [Nat.zero_add, cell_of_row w (W.β b) i _ E (0, 0) h8]
            simpa using hv
          have hlen := h.len b
          have hc2 := hcell.sub off (T ty).cells
          rw [Nat.zero_add] at hc2
          obtain ⟨v, hrun, hsh⟩ := run_loadVar (hT ty) hnn hc2 (by simp; omega)
          refine ⟨v, _, ?_, hsh, ((view_ok h b).drop off).take _⟩
          simp only [hv]
          simpa [asAddr] using hrun
    · exact absurd rfl hx

/-- A result variable's reading. -/
def varSem (a : Act) : ResultVar → Sem Value
  | .tmp t => pure (a.tmps.getD t undef)
  | .cell b t => do loadVar t (← asAddr (a.tmps.getD b undef))

def RunsOk (P : Program) (a : Act) (w : World) : List ResultVar → List Value → Prop
  | [], vs => vs = []
  | x :: xs, vs => ∃ v vs', vs = v :: vs' ∧ (varSem a x).run P w = .ok v w ∧ RunsOk P a w xs vs'

theorem runs_mapM : ∀ (l : List ResultVar) (vs : List Value), RunsOk P a w l vs → (l.mapM (varSem a)).run P w = .ok vs w
  | [], _, h => by rw [show _ = _ from h]; rfl
  | x :: l, _, ⟨v, vs', e, h1, h2⟩ => by subst e; simp [List.mapM_cons, h1, runs_mapM l vs' h2]

theorem gather_len : ∀ (b : Ty) (ls : List Leaf) (q : Bool) (x : b.den) (rest : List Leaf), gather st b ls = some (q, x, rest) → ls.length = b.cells + rest.length
  | .int k, ls, q, x, rest, hg => by
    simp only [gather] at hg
    split at hg
    · split at hg
      · simp at hg; rw [← hg.2.2]; simp [Ty.cells]; omega
      · cases hg
    · cases hg
  | .bool, ls, q, x, rest, hg => by
    simp only [gather] at hg
    split at hg
    · simp at hg; rw [← hg.2.2]; simp [Ty.cells]; omega
    · cases hg
  | .str, ls, q, x, rest, hg => by
    simp only [gather] at hg
    split at hg
    · simp at hg; rw [← hg.2.2]; simp [Ty.cells]; omega
    · cases hg
  | .unit, ls, q, x, rest, hg => by
    simp only [gather, Option.some.injEq, Prod.mk.injEq] at hg
    rw [hg.2.2]; simp [Ty.cells]
  | .pair b c, ls, q, x, rest, hg => by
    simp only [gather] at hg
    split at hg
    · rename_i q1 y ls1 hb
      split at hg
      · rename_i q2 z ls2 hc
        simp at hg
        have h1 := gather_len b ls q1 y ls1 hb
        have h2 := gather_len c ls1 q2 z ls2 hc
        rw [← hg.2.2]
        simp only [Ty.cells]
        omega
      · cases hg
    · cases hg
  | .list E e, ls, q, x, rest, hg => by
    simp only [gather] at hg
    split at hg
    · split at hg
      · simp at hg; rw [← hg.2.2]; simp [Ty.cells]; omega
      · cases hg
    · cases hg

theorem gatherAll_some {b : Ty} {ls : List Leaf} {q : Bool} {x : b.den} (h : gatherAll st b ls = some (q, x)) : gather st b ls = some (q, x, []) := by
  unfold gatherAll at h
  split at h
  · rename_i p y hy
    simp only [Option.some.injEq, Prod.mk.injEq] at h
    obtain ⟨rfl, rfl⟩ := h
    exact hy
  · cases h

theorem resAll_lv (hV : EnvOk V) (h : RelAt P V W st a w) {G : Nat → Prop} {ow : Bool} {b : Ty} {ls : List Leaf} {cs : List Value} {q : Bool} {x : b.den} (hl : LsOk P V W st w ls cs) (hr : ∀ l ∈ ls, LeafRes V W st G ow l)
    (hg : gatherAll st b ls = some (q, x)) : ∀ (p : Bool) (j : Nat) (l : Leaf) (u : Value), (leaves ow p b x)[j]? = some l → cs[j]? = some u → LvOk w G p (bsOf W st ls j) l u := by
  obtain ⟨c1, c2, l1, e1, e2, h2, _, _, h5⟩ := res_lv hV h b ls cs q x [] hl hr (gatherAll_some hg)
  have : c2 = [] := by
    cases c2 with
    | nil => rfl
    | cons => exact h2.elim
  subst this
  simp only [List.append_nil] at e1 e2
  subst e1; subst e2
  exact h5

theorem allOwn_res {fresh : Bool} {ls : List Leaf} (h : allOwn fresh st ls = true) : ∀ l ∈ ls, (∀ q E e xs, deref st l ≠ .ro q E e xs) ∧ ∀ q E e xs, deref st l = .own q E e xs → (fresh = true → q = false) := by
  intro l hl
  unfold allOwn at h
  rw [List.all_eq_true] at h
  have := h l hl
  constructor
  · intro q E e xs e1
    rw [e1] at this
    cases this
  · intro q E e xs e1 hf
    rw [e1, hf] at this
    simpa using this

theorem allNew_res {ls : List Leaf} (h : allNew st ls = true) : ∀ l ∈ ls, (∀ q E e xs, deref st l = .ro q E e xs → q = false) ∧ ∀ q E e xs, deref st l = .own q E e xs → q = false := by
  intro l hl
  unfold allNew at h
  rw [List.all_eq_true] at h
  have := h l hl
  constructor
  · intro q E e xs e1
    rw [e1] at this
    simpa using this
  · intro q E e xs e1
    rw [e1] at this
    simpa using this

theorem leaves_isown (p : Bool) : ∀ (b : Ty) (x : b.den) (ow : Bool) (j : Nat), (∃ l, (leaves ow p b x)[j]? = some l ∧ isOwn l) ↔ ∃ l, (leaves ow false b x)[j]? = some l ∧ isOwn l
  | .int _, _, _, _ => Iff.rfl
  | .bool, _, _, _ => Iff.rfl
  | .str, _, _, _ => Iff.rfl
  | .unit, _, _, _ => Iff.rfl
  | .list E e, x, ow, j => by
    cases j with
    | zero => cases ow <;> simp [leaves, isOwn]
    | succ j => simp [leaves]
  | .pair a b, x, ow, j => by
    simp only [leaves]
    have h1 := leaves_length ow p a x.1
    have h2 := leaves_length ow false a x.1
    by_cases hj : j < a.cells
    · rw [List.getElem?_append_left (by omega), List.getElem?_append_left (by omega)]
      exact leaves_isown p a x.1 ow j
    · rw [List.getElem?_append_right (by omega), List.getElem?_append_right (by omega), h1, h2]
      exact leaves_isown p b x.2 ow _

/-- All results, side by side. -/
theorem ress_ok (hV : EnvOk V) (hT : TOk P T) (h : RelAt P V W st a w) {fresh : Bool} {G : Nat → Prop} (hG1 : ∀ k, W.nw k → G k) (hG2 : fresh = false → ∀ k, V.ro0 k → G k) : ∀ (rs : List RK) (vars : List ResultVar) (y : Ress rs),
    rs.all RK.isV = true → ressOf st T fresh rs vars = some y →
    (∀ (j : Nat) (r i v : Nat), (vars.flatMap (resLs st T))[j]? = some (.al r i v) → isOwn (deref st (.al r i v)) → (∀ l, ((rsLs false rs y).flatMap (·.2))[j]? = some l → ¬ isOwn l) → ∀ k ∈ W.bs r i, G k) →
    ∃ (vals cs : List Value), RunsOk P a w vars vals ∧ LsOk P V W st w (vars.flatMap (resLs st T)) cs ∧ TupSh ((rsLs false rs y).map fun x => (x.1, x.2.length)) vals cs ∧
      (∀ p, ((rsLs p rs y).flatMap (·.2)).length = cs.length) ∧
      (∀ (p : Bool) (j : Nat), (∃ l, ((rsLs p rs y).flatMap (·.2))[j]? = some l ∧ isOwn l) ↔ ∃ l, ((rsLs false rs y).flatMap (·.2))[j]? = some l ∧ isOwn l) ∧
      ∀ (p : Bool) (j : Nat) (l : Leaf) (u : Value), ((rsLs p rs y).flatMap (·.2))[j]? = some l → cs[j]? = some u → LvOk w G p (bsOf W st (vars.flatMap (resLs st T)) j) l u
  | [], [], y, _, _, _ => ⟨[], [], rfl, trivial, ⟨rfl, rfl⟩, fun _ => rfl, fun _ _ => Iff.rfl, fun p j l u h1 _ => by simp [rsLs] at h1⟩
  | [], _ :: _, _, _, hr, _ => by simp [ressOf] at hr
  | _ :: _, [], _, _, hr, _ => by simp [ressOf] at hr
  | .box b :: rs, x :: vars, y, hv, _, _ => by simp [RK.isV] at hv
  | .v ow b :: rs, x :: vars, y, hv, hr, hfr => by
    simp only [List.all_cons, Bool.and_eq_true] at hv
    simp only [ressOf] at hr
    cases hsh : decide (resSh st T x = RK.sh (.v ow b)) with
    | false => simp [hsh] at hr
    | true =>
      simp only [hsh, cond_true] at hr
      have hsh := of_decide_eq_true hsh
      split at hr
      · rename_i y1 hy1
        simp only [Option.map_eq_some_iff] at hr
        obtain ⟨y2, hy2, rfl⟩ := hr
        obtain ⟨v, cs1, hrun, hs1, hl1⟩ := var_ok hT h x (by rw [hsh]; show shOf b.isAgg ≠ _; cases b.isAgg <;> simp [shOf])
        rw [hsh] at hs1
        simp only [resOf] at hy1
        cases hchk : (!ow || allOwn fresh st (resLs st T x)) && (!fresh || allNew st (resLs st T x)) with
        | false => simp [hchk] at hy1
        | true =>
          simp only [hchk, cond_true, Option.map_eq_some_iff] at hy1
          obtain ⟨⟨q, y1'⟩, hga, rfl⟩ := hy1
          simp only [Bool.and_eq_true, Bool.or_eq_true, Bool.not_eq_true'] at hchk
          obtain ⟨hc1, hc2⟩ := hchk
          have hlen := gather_len b _ q y1' [] (gatherAll_some hga)
          simp only [List.length_nil, Nat.add_zero] at hlen
          have hlc := hl1.length
          have hll := fun p => leaves_length ow p b y1'
          have hgq : ∀ (q' : Bool), (fresh = true → q' = false) → ∀ k, gd V W q' k → G k := by
            intro q' hq k hk
            rcases hk with hk | ⟨h1, hk⟩
            · exact hG1 k hk
            · refine hG2 ?_ k hk
              cases hf : fresh with
              | false => rfl
              | true => rw [hq hf] at h1; cases h1
          have hres : ∀ l ∈ resLs st T x, LeafRes V W st G ow l := by
            intro l hl
            have hnew : fresh = true → allNew st (resLs st T x) = true := fun hf => hc2.resolve_left (by simp [hf])
            refine ⟨fun q' E e xs hd => ⟨?_, hgq q' fun hf => ((allNew_res (hnew hf)) l hl).1 q' E e xs hd⟩, fun q' E e xs hd => ⟨hgq q' fun hf => ((allNew_res (hnew hf)) l hl).2 q' E e xs hd, fun how r i v' e1 => ?_⟩⟩
            · rcases hc1 with hc1 | hc1
              · exact hc1
              · exact absurd hd ((allOwn_res hc1 l hl).1 q' E e xs)
            · subst e1
              subst how
              obtain ⟨j, hj, e2⟩ := List.getElem_of_mem hl
              refine hfr j r i v' ?_ (by rw [hd]; trivial) (fun l hl2 => ?_)
              · rw [List.flatMap_cons, List.getElem?_append_left hj, List.getElem?_eq_getElem hj, e2]
              · simp only [rsLs, List.flatMap_cons] at hl2
                rw [List.getElem?_append_left (by rw [hll]; omega)] at hl2
                exact leaves_own false b y1' j l hl2
          have hlv := resAll_lv hV h hl1 hres hga
          obtain ⟨vals, cs2, h1, h2, h3, h4, h5, h6⟩ := ress_ok hV hT h hG1 hG2 rs vars y2 hv.2 hy2 (fun j r i v' hj ho hn k hk => hfr (b.cells + j) r i v' (by
              rw [List.flatMap_cons, List.getElem?_append_right (by omega)]
              rw [hlen, Nat.add_sub_cancel_left]
              exact hj) ho (fun l hl2 => hn l (by
              simp only [rsLs, List.flatMap_cons] at hl2
              rw [List.getElem?_append_right (by rw [hll]; omega), hll, Nat.add_sub_cancel_left] at hl2
              exact hl2)) k hk)
          refine ⟨v :: vals, cs1 ++ cs2, ⟨v, vals, rfl, ?_, h1⟩, ?_, ?_, ?_, ?_, ?_⟩
          · cases x <;> exact hrun
          · rw [List.flatMap_cons]; exact hl1.append h2
          · simp only [rsLs, List.map_cons]
            exact ⟨v, vals, cs1, cs2, rfl, rfl, by rw [hll]; omega, valOk_of hs1, h3⟩
          · intro p
            simp only [rsLs, List.flatMap_cons, List.length_append, h4 p, hll]
            omega
          · intro p j
            simp only [rsLs, List.flatMap_cons]
            by_cases hj : j < b.cells
            · rw [List.getElem?_append_left (by rw [hll]; omega), List.getElem?_append_left (by rw [hll]; omega)]
              exact leaves_isown p b y1' ow j
            · rw [List.getElem?_append_right (by rw [hll]; omega), List.getElem?_append_right (by rw [hll]; omega), hll, hll]
              exact h5 p _
          · intro p j l u hj hu
            simp only [rsLs, List.flatMap_cons] at hj ⊢
            by_cases hjl : j < b.cells
            · rw [List.getElem?_append_left (by rw [hll]; omega)] at hj
              rw [List.getElem?_append_left (by omega)] at hu
              rw [bsOf_left (by omega)]
              exact hlv p j l u hj hu
            · rw [List.getElem?_append_right (by rw [hll]; omega), hll] at hj
              rw [List.getElem?_append_right (by omega)] at hu
              have e : j = (resLs st T x).length + (j - b.cells) := by omega
              rw [e, bsOf_right]
              have e2 : j - cs1.length = j - b.cells := by omega
              rw [e2] at hu
              exact h6 p _ l u hj hu
      · cases hr

end
end Go.Proofs.YthgnfidnmnkeaaaGreatEv
