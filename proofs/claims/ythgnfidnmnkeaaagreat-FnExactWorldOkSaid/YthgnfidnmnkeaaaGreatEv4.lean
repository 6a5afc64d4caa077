/- One operation: those that only compute, and those that only read. -/
import Derived.Test.YthgnfidnmnkeaaaGreatEv3
import Derived.WalkKit
namespace Go.Proofs.YthgnfidnmnkeaaaGreatEv
open Go Go.RowKit

/-! ### What is asked of the table of types -/
def zeroCells : Ty → List Value
  | .int k => [.int k 0]
  | .bool => [.bool false]
  | .str => [.string ByteArray.empty]
  | .unit => []
  | .pair a b => zeroCells a ++ zeroCells b
  | .list _ _ => [.slice none 0 0]

def SizedAt (P : Program) (t : TypeId) (n : Nat) : Prop := (P.info? t).map (·.size) = some n
def ZeroAt (P : Program) (t : TypeId) (z : Value) : Prop := (P.info? t).map (·.zero) = some (some z)

/-- '==' at a struct type, cell by cell. -/
def EqAt (P : Program) (t : TypeId) (a : Ty) : Prop := a.flat = true → ∀ (w : World) (G : Nat → Prop) (x y : a.den) (cx cy : List Value), Rd w G a x cx → Rd w G a y cy →
  (Op.equal t (.agg cx.toArray) (.agg cy.toArray)).run P w = .ok (a.eqv x y) w

def TIok (P : Program) (t : TypeId) : TI → Prop
  | .int k => P.underlying t = some (.int k) ∧ SizedAt P t 1 ∧ ZeroAt P t (.int k 0)
  | .bool => P.underlying t = some .bool ∧ SizedAt P t 1 ∧ ZeroAt P t (.bool false)
  | .str => P.underlying t = some .string ∧ SizedAt P t 1 ∧ ZeroAt P t (.string ByteArray.empty)
  | .slice E e bytes => P.underlying t = some (.slice E) ∧ SizedAt P t 1 ∧ ZeroAt P t (.slice none 0 0) ∧ 0 < e.cells ∧ 0 < bytes ∧
      ∃ i z, P.info? E = some i ∧ i.size = e.cells ∧ i.bytes = bytes ∧ i.zero = some z ∧ z.cells.toList = zeroCells e
  | .struct a flds => (∃ fs, P.underlying t = some (.struct fs) ∧ fs.toList.mapM (fun f => (P.info? f.type).map fun i => (f.offset, i.size)) = some (flds.map fun x => (x.1, x.2.1)) ∧
      ∀ (i off n : Nat) (agg : Bool), flds[i]? = some (off, n, agg) → (agg = false → n = 1) ∧ ∃ f : Field, fs[i]? = some f ∧ f.offset = off ∧ 0 < n ∧ off + n ≤ a.cells ∧ SizedAt P f.type n ∧
        (P.underlying f.type).map (fun d => match d with | .struct _ | .array _ _ => true | _ => false) = some agg) ∧
      SizedAt P t a.cells ∧ ZeroAt P t (.agg (zeroCells a).toArray) ∧ EqAt P t a ∧ P.eqGuardType P.depth t = false
  | .ptr => (∃ e, P.underlying t = some (.pointer e)) ∧ SizedAt P t 1 ∧ ZeroAt P t (.pointer none)
  | .fn => (∃ x y z, P.underlying t = some (.func x y z)) ∧ SizedAt P t 1 ∧ ZeroAt P t .nilFunc
  | .none => True

def TOk (P : Program) (T : TypeId → TI) : Prop := ∀ t, TIok P t (T t)

theorem tlook_ok {P : Program} : ∀ {l : List (TypeId × TI)}, (∀ x ∈ l, TIok P x.1 x.2) → TOk P (tlook l)
  | [], _, _ => trivial
  | (t, i) :: l, h, u => by
    simp only [tlook]
    cases hb : Nat.beq t u with
    | false => exact tlook_ok (fun x hx => h x (List.mem_cons_of_mem _ hx)) u
    | true =>
      have := Nat.eq_of_beq_eq_true hb
      subst this
      exact h (t, i) (List.mem_cons_self ..)

section
variable {P : Program} {V : Env} {W : Wit} {st : St} {w : World} {a : Act} {o : Oper}

/-- The operation, from this state on, leads to a state that U tells. -/
def Goes (P : Program) (V : Env) (o : Oper) (st : St) (U : Upd) (a : Act) (w : World) : Prop :=
  ∀ (next : Act → World → Prop) (Q : Exit → Act → World → Prop), (∀ a' w', Rel P V (look U st) a' w' → next a' w') → o.wp P a w next Q

theorem wp_value {v : Value} {w' : World} {next : Act → World → Prop} {Q : Exit → Act → World → Prop} (h : (execOp a.eval o).run P w = .ok (.value v) w') (hn : next (a.put o.dst v) w') : o.wp P a w next Q := by
  unfold Oper.wp
  rw [h]
  exact hn

theorem wp_skipped {w' : World} {next : Act → World → Prop} {Q : Exit → Act → World → Prop} (h : (execOp a.eval o).run P w = .ok .skip w') (hn : next (a.put o.dst undef) w') : o.wp P a w next Q := by
  unfold Oper.wp
  rw [h]
  exact hn

/-- An operation's slot may be written. -/
def DstOk (V : Env) (o : Oper) : Prop := ∀ d, o.dst = some d → d < V.nt ∧ ∀ x ∈ V.fixt, x.1 ≠ d

theorem goes_put (hV : EnvOk V) (h : RelAt P V W st a w) {d : Nat} (hd : o.dst = some d) (hok : DstOk V o) {v : Value} {sh : Shape} {ls : List Leaf} {cs : List Value}
    (hrun : (execOp a.eval o).run P w = .ok (.value v) w) (hs : ShOk sh v cs) (hl : LsOk P V W st w ls cs) : Goes P V o st (putU st [] d sh ls) a w := by
  intro next Q hn
  refine wp_value hrun ?_
  rw [hd]
  exact hn _ _ (h.putLs hV d (hok d hd).1 (hok d hd).2 _ sh ls v cs (Nat.lt_succ_self _) hs hl)

theorem goes_one (hV : EnvOk V) (h : RelAt P V W st a w) {d : Nat} (hd : o.dst = some d) (hok : DstOk V o) {v : Value} {l : Leaf}
    (hrun : (execOp a.eval o).run P w = .ok (.value v) w) (hl : LeafOk P V W st w [] l v) (hno : ¬ isOwn l) (h1 : v.oneCell' = true) : Goes P V o st (putU st [] d .one [l]) a w :=
  goes_put hV h hd hok hrun (cs := [v]) rfl ⟨⟨hl, hno, h1⟩, trivial⟩

theorem shOf_ok {agg : Bool} {v : Value} {cs : List Value} (h : ValOk agg v cs) : ShOk (shOf agg) v cs := by
  cases agg <;> exact h

/-! ### Whole numbers -/
theorem int_one (h : RelAt P V W st a w) {x : Operand} {k : IntKind} {n : Int} (hx : one st x = .int k n) : a.eval x = .int k n := by
  have := (one_ok h x (by rw [hx]; simp)).1
  rw [hx] at this
  exact this

theorem bool_one (h : RelAt P V W st a w) {x : Operand} {b : Bool} (hx : one st x = .bool b) : a.eval x = .bool b := by
  have := (one_ok h x (by rw [hx]; simp)).1
  rw [hx] at this
  exact this

theorem str_one (h : RelAt P V W st a w) {x : Operand} {b : ByteArray} (hx : one st x = .str b) : a.eval x = .string b := by
  have := (one_ok h x (by rw [hx]; simp)).1
  rw [hx] at this
  exact this

theorem run_binInt (op : BinOp) (k : IntKind) (t t' : TypeId) (x y : Operand) (m n : Int) (l : Leaf) (hl : binInt op k m n = some l) (hx : a.eval x = .int k m) (hy : a.eval y = .int k n) (ho : o.op = .binOp op t x y t') :
    ∃ v, (execOp a.eval o).run P w = .ok (.value v) w ∧ LeafOk P V W st w [] l v ∧ ¬ isOwn l ∧ v.oneCell' = true := by
  cases op <;> simp only [binInt, Option.some.injEq, reduceCtorEq] at hl <;> subst hl <;>
    exact ⟨_, by simp [execOp, ho, hx, hy, eqGuard, Go.binOp, Op.intArith, Op.intCmp], rfl, id, rfl⟩

/-! ### What is moved, what is frozen -/
theorem step_kill (hV : EnvOk V) (h : RelAt P V W st a w) (ks : List (Nat × Nat)) : Step V W W st (look (killU st ks) st) w w := by
  obtain ⟨_, _, h3⟩ := killU_ok hV ks h
  exact ⟨fun q => ⟨(h3 q).2, fun _ => rfl⟩, fun b hb => ⟨⟨hb.1, by rw [(h3 b).1]; exact hb.2⟩, rfl⟩, fun _ h => h, fun _ _ => rfl⟩

theorem step_frz (hV : EnvOk V) (h : RelAt P V W st a w) (ks : List (Nat × Nat)) : Step V W (W.frz st ks) st (look (frzU st ks) st) w w := by
  obtain ⟨_, _, h3⟩ := frzU_ok hV ks h
  exact ⟨fun q => ⟨(h3 q).2, fun _ => rfl⟩, fun b hb => ⟨⟨hb.1, by rw [(h3 b).1]; exact hb.2⟩, rfl⟩, fun _ h => .inl h, fun _ _ => rfl⟩

/-- The blocks of leaves that are moved. -/
def movedBs (W : Wit) (ls : List Leaf) (j : Nat) : List Nat :=
  match ls[j]? with
  | some (.al r i _) => W.bs r i
  | _ => []

theorem owned_mem : ∀ {ls : List Leaf} {j r i n : Nat}, ls[j]? = some (.al r i n) → isOwn (deref st (.al r i n)) → (r, i) ∈ owned st ls
  | [], j, _, _, _, h, _ => by simp at h
  | l :: ls, 0, r, i, n, h, ho => by
    simp at h; subst h
    generalize hd : deref st (.al r i n) = q at ho
    cases q <;> first | exact ho.elim | simp [owned, hd]
  | l :: ls, j + 1, r, i, n, h, ho => by
    have := owned_mem (ls := ls) (by simpa using h) ho
    cases l <;> simp [owned, this]

theorem distinct_at : ∀ {ls : List Leaf} {j j' r i n n' : Nat}, distinct (owned st ls) = true → ls[j]? = some (.al r i n) → isOwn (deref st (.al r i n)) →
    ls[j']? = some (.al r i n') → isOwn (deref st (.al r i n')) → j = j'
  | [], j, _, _, _, _, _, _, h, _, _, _ => by simp at h
  | l :: ls, j, j', r, i, n, n', hd, h1, h2, h3, h4 => by
    have key : ∀ (m : Nat) (k : Nat), l = .al r i m → isOwn (deref st (.al r i m)) → (∃ n'', ls[k]? = some (.al r i n'') ∧ isOwn (deref st (.al r i n''))) → False := by
      rintro m k rfl ho ⟨n'', h5, h6⟩
      have h7 := owned_mem h5 h6
      have h8 : owned st (.al r i m :: ls) = (r, i) :: owned st ls := by
        generalize hq : deref st (.al r i m) = q at ho
        cases q <;> first | exact ho.elim | simp [owned, hq]
      rw [h8] at hd
      simp only [distinct, Bool.and_eq_true, Bool.not_eq_true'] at hd
      have := hd.1
      rw [List.any_eq_false] at this
      have := this _ h7
      simp at this
    have hd' : distinct (owned st ls) = true := by
      cases l <;> first
        | exact hd
        | (rename_i r' j' v'
           simp only [owned] at hd
           split at hd
           · simp only [List.cons_append, List.nil_append, distinct, Bool.and_eq_true] at hd
             exact hd.2
           · simpa using hd)
    cases j with
    | zero =>
      cases j' with
      | zero => rfl
      | succ j' =>
        simp at h1
        exact (key n j' h1 h2 ⟨n', by simpa using h3, h4⟩).elim
    | succ j =>
      cases j' with
      | zero =>
        simp at h3
        exact (key n' j h3 h4 ⟨n, by simpa using h1, h2⟩).elim
      | succ j' =>
        have := distinct_at (ls := ls) hd' (by simpa using h1) h2 (by simpa using h3) h4
        omega

/-- An alias that is followed. -/
theorem deref_ok (hV : EnvOk V) (h : RelAt P V W st a w) {l : Leaf} {v : Value} (hl : LeafOk P V W st w [] l v) (hno : ¬ isOwn l) :
    (∃ r i n, l = .al r i n ∧ isOwn (deref st l) ∧ LeafOk P V W st w (W.bs r i) (deref st l) v ∧ (st r).ls[i]? = some (deref st l)) ∨
    (¬ isOwn (deref st l) ∧ LeafOk P V W st w [] (deref st l) v) := by
  cases l with
  | al r j n =>
    by_cases ho : isOwn (deref st (.al r j n))
    · refine .inl ⟨r, j, n, rfl, ho, ?_⟩
      generalize hd : deref st (.al r j n) = q at ho
      cases q with
      | own p E e xs =>
        obtain ⟨h1, h2, h3, _⟩ := al_own h hd hl
        exact ⟨h2, h3⟩
      | _ => exact ho.elim
    · refine .inr ⟨ho, ?_⟩
      simp only [deref] at ho ⊢
      cases hb : Nat.beq (st r).ver n with
      | false => trivial
      | true =>
        simp only [hb, cond_true] at ho ⊢
        rw [List.getD_eq_getElem?_getD] at ho ⊢
        cases hq : (st r).ls[j]? with
        | none => trivial
        | some q =>
          rw [hq] at ho
          simp only [Option.getD_some] at ho ⊢
          have hv := hl.2 (Nat.eq_of_beq_eq_true hb)
          exact (h.leaf r j q v hq hv).carry hV.ro ⟨fun _ => ⟨Nat.le_refl _, fun _ => rfl⟩, fun b hb => ⟨hb, rfl⟩, fun _ h => h, fun _ _ => rfl⟩ (fun h => absurd h ho)
  | own p E e xs => exact absurd trivial hno
  | _ => exact .inr ⟨id, hl⟩

end
end Go.Proofs.YthgnfidnmnkeaaaGreatEv
