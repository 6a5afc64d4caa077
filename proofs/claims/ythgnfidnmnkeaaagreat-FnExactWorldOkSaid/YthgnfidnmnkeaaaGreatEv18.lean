/- One operation looks at some slots alone. -/
import Derived.Test.YthgnfidnmnkeaaaGreatEv17
namespace Go.Proofs.YthgnfidnmnkeaaaGreatEv
open Go Go.RowKit

section
variable {P : Program} {V : Env} {Γ : List Ctr} {T : TypeId → TI} {st st' : St} {o : Oper} {R : Type} {κ : Upd → Option R} {r : R}

theorem cond_bind {α β : Type} (b : Bool) (x y : Option α) (f : α → Option β) : (bif b then x else y).bind f = bif b then x.bind f else y.bind f := by cases b <;> rfl

theorem callK_bind {d : Nat} {f : FuncId} {xs : List (Shape × List Leaf)} : callK Γ st d f xs κ = (callK Γ st d f xs some).bind κ := by
  unfold callK
  cases findC Γ f with
  | none => rfl
  | some c =>
    simp only
    cases getArgsF Γ st c.ps xs with
    | none => rfl
    | some g =>
      simp only [cond_bind, Option.bind_assoc, Option.bind_none, Option.bind_some]

theorem appendK_bind {d : Nat} {E : TypeId} {e : Ty} {bytes : Nat} {x y : Leaf} : appendK st d E e bytes x y κ = (appendK st d E e bytes x y some).bind κ := by
  unfold appendK
  simp only
  split
  · split
    · simp only [cond_bind, Option.bind_none, Option.bind_some]
    · rfl
  · rfl

theorem act_bind : act Γ T o st κ = (act Γ T o st some).bind κ := by
  cases hop : o.op <;> simp only [act, wrU, hop] <;> (repeat' split) <;>
    (try simp only [cond_bind, Option.bind_assoc, Option.bind_none, Option.bind_some]) <;> (try rfl) <;> (try exact callK_bind) <;> (try (rw [appendK_bind]; done))

/-! ### What is looked at -/
theorem look_fr {q : Nat} (h : st' q = st q) : ∀ (U : Upd), look U st' q = look U st q
  | [] => h
  | (r, c) :: U => by simp only [look, look_fr h U]

theorem opnd_fr {x : Operand} (h : ∀ t, x = .tmp t → st' t = st t) : opnd st' x = opnd st x := by
  cases x with
  | tmp t => simp only [opnd, h t rfl]
  | _ => rfl

theorem one_fr {x : Operand} (h : ∀ t, x = .tmp t → st' t = st t) : one st' x = one st x := by
  unfold one
  rw [opnd_fr h]

theorem deref_fr {l : Leaf} (h : ∀ q ∈ alps [l], st' q = st q) : deref st' l = deref st l := by
  cases l with
  | al r j v => simp only [deref, h r (by simp [alps])]
  | _ => rfl

theorem gather_suffix : ∀ (a : Ty) (ls : List Leaf) (p : Bool) (x : a.den) (rest : List Leaf), gather st a ls = some (p, x, rest) → ∃ l1, ls = l1 ++ rest
  | .int k, ls, p, x, rest, h => by
    simp only [gather] at h
    split at h
    · split at h
      · simp at h; exact ⟨[_], by rw [← h.2.2]; rfl⟩
      · cases h
    · cases h
  | .bool, ls, p, x, rest, h => by
    simp only [gather] at h
    split at h
    · simp at h; exact ⟨[_], by rw [← h.2.2]; rfl⟩
    · cases h
  | .str, ls, p, x, rest, h => by
    simp only [gather] at h
    split at h
    · simp at h; exact ⟨[_], by rw [← h.2.2]; rfl⟩
    · cases h
  | .unit, ls, p, x, rest, h => by
    simp only [gather, Option.some.injEq, Prod.mk.injEq] at h
    exact ⟨[], by rw [h.2.2]; rfl⟩
  | .pair a b, ls, p, x, rest, h => by
    simp only [gather] at h
    split at h
    · rename_i q y ls1 ha
      split at h
      · rename_i q' z ls2 hb
        simp at h
        obtain ⟨l1, e1⟩ := gather_suffix a ls q y ls1 ha
        obtain ⟨l2, e2⟩ := gather_suffix b ls1 q' z ls2 hb
        exact ⟨l1 ++ l2, by rw [e1, e2, h.2.2, List.append_assoc]⟩
      · cases h
    · cases h
  | .list E e, ls, p, x, rest, h => by
    simp only [gather] at h
    split at h
    · split at h
      · simp at h; exact ⟨[_], by rw [← h.2.2]; rfl⟩
      · cases h
    · cases h

theorem alps_append : ∀ (l1 l2 : List Leaf), alps (l1 ++ l2) = alps l1 ++ alps l2
  | [], _ => rfl
  | l :: l1, l2 => by cases l <;> simp [alps, alps_append l1 l2]

theorem alps_cons (l : Leaf) (ls : List Leaf) : alps (l :: ls) = alps [l] ++ alps ls := alps_append [l] ls

theorem gather_fr : ∀ (a : Ty) (ls : List Leaf), (∀ q ∈ alps ls, st' q = st q) → gather st' a ls = gather st a ls
  | .int k, ls, h => rfl
  | .bool, ls, h => rfl
  | .str, ls, h => rfl
  | .unit, ls, h => rfl
  | .pair a b, ls, h => by
    simp only [gather, gather_fr a ls h]
    cases ha : gather st a ls with
    | none => rfl
    | some x =>
      obtain ⟨p, y, ls1⟩ := x
      obtain ⟨l1, e1⟩ := gather_suffix a ls p y ls1 ha
      simp only
      rw [gather_fr b ls1 (fun q hq => h q (by rw [e1, alps_append]; exact List.mem_append_right _ hq))]
  | .list E e, ls, h => by
    cases ls with
    | nil => rfl
    | cons l ls =>
      simp only [gather]
      rw [deref_fr (l := l) (fun q hq => h q (by rw [alps_cons]; exact List.mem_append_left _ hq))]

theorem gatherAll_fr {a : Ty} {ls : List Leaf} (h : ∀ q ∈ alps ls, st' q = st q) : gatherAll st' a ls = gatherAll st a ls := by
  unfold gatherAll
  rw [gather_fr a ls h]

theorem gather_flat : ∀ (a : Ty) (ls : List Leaf), a.flat = true → gather st' a ls = gather st a ls
  | .int k, ls, h => rfl
  | .bool, ls, h => rfl
  | .str, ls, h => rfl
  | .unit, ls, h => rfl
  | .pair a b, ls, h => by
    simp only [Ty.flat, Bool.and_eq_true] at h
    simp only [gather, gather_flat a ls h.1]
    cases ha : gather st a ls with
    | none => rfl
    | some x =>
      obtain ⟨p, y, ls1⟩ := x
      simp only
      rw [gather_flat b ls1 h.2]
  | .list E e, ls, h => by simp [Ty.flat] at h

theorem gatherAll_flat {a : Ty} {ls : List Leaf} (h : a.flat = true) : gatherAll st' a ls = gatherAll st a ls := by
  unfold gatherAll
  rw [gather_flat a ls h]

theorem owned_fr : ∀ {ls : List Leaf}, (∀ q ∈ alps ls, st' q = st q) → owned st' ls = owned st ls
  | [], _ => rfl
  | l :: ls, h => by
    have ih := owned_fr (ls := ls) (fun q hq => h q (by rw [alps_cons]; exact List.mem_append_right _ hq))
    cases l with
    | al r j v => simp only [owned, ih, deref_fr (l := .al r j v) (fun q hq => h q (by rw [alps_cons]; exact List.mem_append_left _ hq))]
    | _ => simpa [owned] using ih

theorem map_deref_fr {ls : List Leaf} (h : ∀ q ∈ alps ls, st' q = st q) : ls.map (deref st') = ls.map (deref st) := by
  induction ls with
  | nil => rfl
  | cons l ls ih =>
    rw [List.map_cons, List.map_cons, ih (fun q hq => h q (by rw [alps_cons]; exact List.mem_append_right _ hq)), deref_fr (fun q hq => h q (by rw [alps_cons]; exact List.mem_append_left _ hq))]

theorem taken_fr {ls : List Leaf} (h : ∀ q ∈ alps ls, st' q = st q) : taken st' ls = taken st ls := map_deref_fr h

theorem frozen_fr {ls : List Leaf} (h : ∀ q ∈ alps ls, st' q = st q) : frozen' st' ls = frozen' st ls := by
  have := congrArg (List.map frzLeaf) (map_deref_fr h)
  simpa [frozen', Function.comp_def] using this

theorem owned_alps_mem : ∀ {ls : List Leaf} {x : Nat × Nat}, x ∈ owned st ls → x.1 ∈ alps ls
  | [], _, h => by simp [owned] at h
  | l :: ls, x, h => by
    cases l with
    | al r j v =>
      simp only [owned, List.mem_append] at h
      rcases h with h | h
      · split at h
        · simp at h; subst h; simp [alps]
        · simp at h
      · rw [alps_cons]; exact List.mem_append_right _ (owned_alps_mem h)
    | _ => (simp only [owned] at h; rw [alps_cons]; exact List.mem_append_right _ (owned_alps_mem h))

theorem killU_fr : ∀ {ks : List (Nat × Nat)}, (∀ x ∈ ks, st' x.1 = st x.1) → killU st' ks = killU st ks
  | [], _ => rfl
  | (r, j) :: ks, h => by
    simp only [killU, killU_fr (ks := ks) (fun x hx => h x (List.mem_cons_of_mem _ hx)), look_fr (h (r, j) (List.mem_cons_self ..))]

theorem frzU_fr : ∀ {ks : List (Nat × Nat)}, (∀ x ∈ ks, st' x.1 = st x.1) → frzU st' ks = frzU st ks
  | [], _ => rfl
  | (r, j) :: ks, h => by
    simp only [frzU, frzU_fr (ks := ks) (fun x hx => h x (List.mem_cons_of_mem _ hx)), look_fr (h (r, j) (List.mem_cons_self ..))]

theorem putU_fr {U : Upd} {d : Nat} {sh : Shape} {ls : List Leaf} (h : st' d = st d) : putU st' U d sh ls = putU st U d sh ls := by
  simp only [putU, look_fr h]

theorem slots_mem : ∀ {xs : List Operand} {t : Nat}, Operand.tmp t ∈ xs → t ∈ slotsOf xs
  | [], _, h => by simp at h
  | x :: xs, t, h => by
    rcases List.mem_cons.1 h with rfl | h
    · simp [slotsOf]
    · have ih := slots_mem h
      cases x <;> simp [slotsOf, ih]

theorem alps_view (t n : Nat) : ∀ (j : Nat) (ls : List Leaf) (q : Nat), q ∈ alps (viewFrom t n j ls) → q = t ∨ q ∈ alps ls
  | _, [], _, h => by simp [viewFrom, alps] at h
  | j, l :: ls, q, h => by
    simp only [viewFrom] at h
    rw [alps_cons, List.mem_append] at h
    rw [alps_cons, List.mem_append]
    rcases h with h | h
    · cases l with
      | own p E e xs => simp [viewLeaf, alps] at h; exact .inl h
      | _ => exact .inr (.inl h)
    · exact (alps_view t n (j + 1) ls q h).imp id .inr

theorem refs_append : ∀ (l1 l2 : List Leaf), refs (l1 ++ l2) = refs l1 ++ refs l2
  | [], _ => rfl
  | l :: l1, l2 => by cases l <;> simp [refs, refs_append l1 l2]

theorem refs_cons (l : Leaf) (ls : List Leaf) : refs (l :: ls) = refs [l] ++ refs ls := refs_append [l] ls

theorem alps_refs : ∀ {ls : List Leaf} {q : Nat}, q ∈ alps ls → q ∈ refs ls
  | [], _, h => by simp [alps] at h
  | l :: ls, q, h => by
    rw [alps_cons, List.mem_append] at h
    rw [refs_cons, List.mem_append]
    rcases h with h | h
    · left
      cases l <;> simp [alps] at h <;> simp [refs, h]
    · exact .inr (alps_refs h)

theorem refs_view (t n : Nat) : ∀ (j : Nat) (ls : List Leaf) (q : Nat), q ∈ refs (viewFrom t n j ls) → q = t ∨ q ∈ refs ls
  | _, [], _, h => by simp [viewFrom, refs] at h
  | j, l :: ls, q, h => by
    simp only [viewFrom] at h
    rw [refs_cons, List.mem_append] at h
    rw [refs_cons, List.mem_append]
    rcases h with h | h
    · cases l with
      | own p E e xs => simp [viewLeaf, refs] at h; exact .inl h
      | _ => exact .inr (.inl h)
    · exact (refs_view t n (j + 1) ls q h).imp id .inr

/-- What an operand's leaves stand for. -/
theorem alps_opnd {x : Operand} {q : Nat} (h : q ∈ alps (opnd st x).2) : ∃ t, x = .tmp t ∧ (q = t ∨ q ∈ alps (st t).ls) := by
  cases x with
  | tmp t =>
    simp only [opnd] at h
    cases hb : Nat.blt t B0 with
    | false => simp [hb, alps] at h
    | true => simp only [hb, cond_true] at h; exact ⟨t, rfl, alps_view _ _ _ _ _ h⟩
  | const v =>
    simp only [opnd] at h
    split at h
    · rename_i l hl
      unfold constLeaf at hl
      split at hl <;> simp at hl <;> subst hl <;> simp [alps] at h
    · simp [alps] at h
  | func f => simp [opnd, alps] at h
  | global g => simp [opnd, alps] at h

theorem refs_opnd {x : Operand} {q : Nat} (h : q ∈ refs (opnd st x).2) : ∃ t, x = .tmp t ∧ (q = t ∨ q ∈ refs (st t).ls) := by
  cases x with
  | tmp t =>
    simp only [opnd] at h
    cases hb : Nat.blt t B0 with
    | false => simp [hb, refs] at h
    | true => simp only [hb, cond_true] at h; exact ⟨t, rfl, refs_view _ _ _ _ _ h⟩
  | const v =>
    simp only [opnd] at h
    split at h
    · rename_i l hl
      unfold constLeaf at hl
      split at hl <;> simp at hl <;> subst hl <;> simp [refs] at h
    · simp [refs] at h
  | func f => simp [opnd, refs] at h
  | global g => simp [opnd, refs] at h

theorem one_mem {x : Operand} {l : Leaf} (h : one st x = l) (hd : l ≠ .dead) : (opnd st x).2 = [l] := by
  unfold one at h
  split at h
  · rename_i l' he; rw [he, h]
  · exact absurd h.symm hd

theorem alps_one {x : Operand} {q : Nat} (h : q ∈ alps [one st x]) : q ∈ alps (opnd st x).2 := by
  by_cases hd : one st x = .dead
  · rw [hd] at h; simp [alps] at h
  · rw [one_mem rfl hd]; exact h

theorem refs_one {x : Operand} {q : Nat} (h : q ∈ refs [one st x]) : q ∈ refs (opnd st x).2 := by
  by_cases hd : one st x = .dead
  · rw [hd] at h; simp [refs] at h
  · rw [one_mem rfl hd]; exact h

end
end Go.Proofs.YthgnfidnmnkeaaaGreatEv
