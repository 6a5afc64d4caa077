/- One operation looks at some slots alone. -/
import Derived.Test.YtdjmnbdicpgmiaaE5
namespace Go.Proofs.YtdjmnbdicpgmiaaEv
open Go Go.RowKit
section
variable {P : Program} {V : Env} {Γ : List Ctr} {T : TypeId → TI} {st st' : St} {o : Oper} {R : Type} {κ : Upd → Option R} {r : R}
theorem cond_bind {α β : Type} (b : Bool) (x y : Option α) (f : α → Option β) : (bif b then x else y).bind f = bif b then x.bind f else y.bind f := by cases b <;> rfl
theorem backK_bind {b : Option (Bool × Nat × Nat)} {U : Upd} : backK st b U κ = (backK st b U some).bind κ := by
  unfold backK
  split
  · split
    · simp only [Option.bind_assoc]
      congr 1
      funext y
      split <;> rfl
    · rfl
  · rfl
theorem callK_bind {d : Nat} {f : FuncId} {xs : List (Shape × List Leaf)} : callK Γ st d f xs κ = (callK Γ st d f xs some).bind κ := by
  unfold callK
  cases findC Γ f with
  | none => rfl
  | some c =>
    simp only [nestArgsK_eq, Option.bind_assoc]
    congr 1
    funext u
    cases getArgsF Γ (look u.1 st) c.ps u.2.1 with
    | none => rfl
    | some g =>
      simp only [cond_bind, Option.bind_assoc, Option.bind_none]
      congr 2
      funext y
      exact backK_bind
theorem appendTo_bind {st0 : St} {U0 : Upd} {d : Nat} {E : TypeId} {e : Ty} {bytes : Nat} {p : Bool} {xs : List e.den} {ks : List (Nat × Nat)} {y : Leaf} : appendTo st st0 U0 d E e bytes p xs ks y κ = (appendTo st st0 U0 d E e bytes p xs ks y some).bind κ := by
  unfold appendTo
  split
  · simp only [cond_bind, Option.bind_none, Option.bind_some]
  · rfl
theorem appendL_bind {U0 : Upd} {d : Nat} {E : TypeId} {e : Ty} {bytes : Nat} {x y : Leaf} : appendL st U0 d E e bytes x y κ = (appendL st U0 d E e bytes x y some).bind κ := by
  unfold appendL
  split
  · split
    · rw [cond_bind, ← appendTo_bind]
      rfl
    · rfl
  · exact appendTo_bind
  · rfl
theorem appendK_bind {d : Nat} {E : TypeId} {e : Ty} {bytes : Nat} {x y : Leaf} : appendK st d E e bytes x y κ = (appendK st d E e bytes x y some).bind κ := by
  unfold appendK
  simp only [nestOutK_eq, cond_bind, Option.bind_assoc, ← appendL_bind]
theorem storeEl_bind {r j i off n : Nat} {p : Bool} {E : TypeId} {e : Ty} {xs : List e.den} {h : Option (Nat × Nat)} {ls : List Leaf} : storeEl st r j i off n p E e xs h ls κ = (storeEl st r j i off n p E e xs h ls some).bind κ := by
  unfold storeEl
  simp only [Option.bind_assoc]
  congr 1
  funext old
  split
  · rw [cond_bind]
    congr 1
    split
    · rfl
    · simp only [cond_bind, Option.bind_some]
  · rfl
theorem act_bind : act Γ T o st κ = (act Γ T o st some).bind κ := by
  cases hop : o.op <;> simp only [act, wrU, hop] <;> (repeat' split) <;>
    (try simp only [cond_bind, Option.bind_assoc, Option.bind_none, Option.bind_some]) <;> (try rfl) <;> (try exact callK_bind) <;> (try (rw [appendK_bind]; done)) <;> (try (rw [storeEl_bind]; done)) <;> (try (rw [← storeEl_bind]; done))
theorem look_fr {q : Nat} (h : st' q = st q) : ∀ (U : Upd), look U st' q = look U st q
  | [] => h
  | (r, c) :: U => by simp only [look, look_fr h U]
theorem opnd_fr {x : Operand} (h : ∀ t, x = .tmp t → st' t = st t) : opnd st' x = opnd st x := by
  cases x with
  | tmp t => simp only [opnd, h t rfl]
  | _ => rfl
theorem one_fr {x : Operand} (h : ∀ t, x = .tmp t → st' t = st t) : one st' x = one st x := by
  unfold one
  rw [opnd_fr h]
theorem alps_append : ∀ (l1 l2 : List Leaf), alps (l1 ++ l2) = alps l1 ++ alps l2
  | [], _ => rfl
  | l :: l1, l2 => by cases l <;> simp [alps, alps_append l1 l2]
theorem alps_cons (l : Leaf) (ls : List Leaf) : alps (l :: ls) = alps [l] ++ alps ls := alps_append [l] ls
theorem alps_drop : ∀ (n : Nat) (ls : List Leaf) (q : Nat), q ∈ alps (ls.drop n) → q ∈ alps ls
  | 0, _, _, h => h
  | n + 1, [], _, h => h
  | n + 1, l :: ls, q, h => by rw [alps_cons]; exact List.mem_append_right _ (alps_drop n ls q h)
theorem alps_take : ∀ (n : Nat) (ls : List Leaf) (q : Nat), q ∈ alps (ls.take n) → q ∈ alps ls
  | 0, _, _, h => by simp [alps] at h
  | n + 1, [], _, h => by simp [alps] at h
  | n + 1, l :: ls, q, h => by
    rw [List.take_succ_cons, alps_cons, List.mem_append] at h
    rw [alps_cons, List.mem_append]
    exact h.imp id (alps_take n ls q)
theorem alps_at : ∀ {ls : List Leaf} {k : Nat} {l : Leaf}, ls[k]? = some l → ∀ q ∈ alps [l], q ∈ alps ls
  | [], _, _, h, _, _ => by simp at h
  | l' :: ls, 0, l, h, q, hq => by simp at h; subst h; rw [alps_cons]; exact List.mem_append_left _ hq
  | l' :: ls, k + 1, l, h, q, hq => by rw [alps_cons]; exact List.mem_append_right _ (alps_at (by simpa using h) q hq)
theorem validK_fr {ks : List (Nat × Nat × Nat)} {ep : Nat} (h : ∀ q ∈ EPO :: ks.map (·.1), st' q = st q) : validK st' ks ep = validK st ks ep := by
  unfold validK
  rw [h EPO (List.mem_cons_self ..)]
  congr 1
  induction ks with
  | nil => rfl
  | cons k ks ih =>
    rw [List.all_cons, List.all_cons, ih (fun q hq => h q (by simp at hq ⊢; rcases hq with hq | hq; exact .inl hq; exact .inr (.inr hq))), h k.1 (by simp)]
theorem nal_alps {p : Bool} {ks : List (Nat × Nat × Nat)} {ep : Nat} {loc : Option (Nat × Nat × Nat)} {E : TypeId} {e : Ty} {xs : List e.den} : alps [.nal p ks ep loc E e xs] = EPO :: ks.map (·.1) := by simp [alps]
theorem np_alps {p : Bool} {ks : List (Nat × Nat × Nat)} {ep : Nat} {a : Ty} {x : a.den} {off : Nat} : alps [.np p ks ep a x off] = EPO :: ks.map (·.1) := by simp [alps]
theorem deref_fr {l : Leaf} (h : ∀ q ∈ alps [l], st' q = st q) : deref st' l = deref st l := by
  cases l with
  | al r j v => simp only [deref, h r (by simp [alps])]
  | nal p ks ep loc E e xs => rw [nal_alps] at h; simp only [deref, validK_fr h]
  | _ => rfl
theorem gather_suffix : ∀ (a : Ty) (ls : List Leaf) (p : Bool) (x : a.den) (rest : List Leaf), gather st a ls = some (p, x, rest) → ∃ l1, ls = l1 ++ rest
  | .int k, ls, p, x, rest, h => by
    simp only [gather] at h
    split at h
    · split at h
      · simp at h; exact ⟨[_], by rw [← h.2.2]; rfl⟩
      · cases h
    · cases h
  | .bool, ls, p, x, rest, h => by
    simp only [gather] at h
    split at h
    · simp at h; exact ⟨[_], by rw [← h.2.2]; rfl⟩
    · cases h
  | .str, ls, p, x, rest, h => by
    simp only [gather] at h
    split at h
    · simp at h; exact ⟨[_], by rw [← h.2.2]; rfl⟩
    · cases h
  | .unit, ls, p, x, rest, h => by
    simp only [gather, Option.some.injEq, Prod.mk.injEq] at h
    exact ⟨[], by rw [h.2.2]; rfl⟩
  | .hdr, ls, p, x, rest, h => by
    simp only [gather] at h
    split at h
    · split at h
      · simp at h; exact ⟨[_], by rw [← h.2.2]; rfl⟩
      · cases h
    · cases h
  | .pair a b, ls, p, x, rest, h => by
    simp only [gather] at h
    split at h
    · rename_i q y ls1 ha
      split at h
      · rename_i q' z ls2 hb
        simp at h
        obtain ⟨l1, e1⟩ := gather_suffix a ls q y ls1 ha
        obtain ⟨l2, e2⟩ := gather_suffix b ls1 q' z ls2 hb
        exact ⟨l1 ++ l2, by rw [e1, e2, h.2.2, List.append_assoc]⟩
      · cases h
    · cases h
  | .list m E e, ls, p, x, rest, h => by
    simp only [gather] at h
    split at h
    · split at h
      · simp at h; exact ⟨[_], by rw [← h.2.2]; rfl⟩
      · cases h
    · cases h
theorem gather_fr : ∀ (a : Ty) (ls : List Leaf), (∀ q ∈ alps ls, st' q = st q) → gather st' a ls = gather st a ls
  | .int k, ls, h => rfl
  | .bool, ls, h => rfl
  | .str, ls, h => rfl
  | .unit, ls, h => rfl
  | .hdr, ls, h => by
    cases ls with
    | nil => rfl
    | cons l ls =>
      simp only [gather]
      rw [deref_fr (l := l) (fun q hq => h q (by rw [alps_cons]; exact List.mem_append_left _ hq))]
  | .pair a b, ls, h => by
    simp only [gather, gather_fr a ls h]
    cases ha : gather st a ls with
    | none => rfl
    | some x =>
      obtain ⟨p, y, ls1⟩ := x
      obtain ⟨l1, e1⟩ := gather_suffix a ls p y ls1 ha
      simp only
      rw [gather_fr b ls1 (fun q hq => h q (by rw [e1, alps_append]; exact List.mem_append_right _ hq))]
  | .list m E e, ls, h => by
    cases ls with
    | nil => rfl
    | cons l ls =>
      simp only [gather]
      rw [deref_fr (l := l) (fun q hq => h q (by rw [alps_cons]; exact List.mem_append_left _ hq))]
theorem gatherAll_fr {a : Ty} {ls : List Leaf} (h : ∀ q ∈ alps ls, st' q = st q) : gatherAll st' a ls = gatherAll st a ls := by
  unfold gatherAll
  rw [gather_fr a ls h]
theorem gatherEls_fr {e : Ty} : ∀ (n : Nat) (ls : List Leaf), (∀ q ∈ alps ls, st' q = st q) → gatherEls st' e n ls = gatherEls st e n ls
  | 0, _, _ => rfl
  | n + 1, ls, h => by
    simp only [gatherEls, gatherAll_fr (ls := ls.take e.cells) (fun q hq => h q (alps_take _ _ q hq)), gatherEls_fr n (ls.drop e.cells) (fun q hq => h q (alps_drop _ _ q hq))]
theorem owned_fr : ∀ {ls : List Leaf}, (∀ q ∈ alps ls, st' q = st q) → owned st' ls = owned st ls
  | [], _ => rfl
  | l :: ls, h => by
    have ih := owned_fr (ls := ls) (fun q hq => h q (by rw [alps_cons]; exact List.mem_append_right _ hq))
    cases l with
    | al r j v => simp only [owned, ih, deref_fr (l := .al r j v) (fun q hq => h q (by rw [alps_cons]; exact List.mem_append_left _ hq))]
    | nal p ks ep loc E e xs => simp only [owned, ih, deref_fr (l := .nal p ks ep loc E e xs) (fun q hq => h q (by rw [alps_cons]; exact List.mem_append_left _ hq))]
    | _ => simpa [owned] using ih
theorem moved_fr : ∀ {ls : List Leaf}, (∀ q ∈ alps ls, st' q = st q) → moved st' ls = moved st ls
  | [], _ => rfl
  | l :: ls, h => by
    have ih := moved_fr (ls := ls) (fun q hq => h q (by rw [alps_cons]; exact List.mem_append_right _ hq))
    cases l with
    | al r j v => simp only [moved, ih, deref_fr (l := .al r j v) (fun q hq => h q (by rw [alps_cons]; exact List.mem_append_left _ hq))]
    | _ => simpa [moved] using ih
theorem cuts_fr : ∀ {ls : List Leaf}, (∀ q ∈ alps ls, st' q = st q) → cuts st' ls = cuts st ls
  | [], _ => rfl
  | l :: ls, h => by
    have ih := cuts_fr (ls := ls) (fun q hq => h q (by rw [alps_cons]; exact List.mem_append_right _ hq))
    cases l with
    | nal p ks ep loc E e xs =>
      cases loc with
      | none => simp only [cuts, ih, deref_fr (l := .nal p ks ep none E e xs) (fun q hq => h q (by rw [alps_cons]; exact List.mem_append_left _ hq))]
      | some x => simpa [cuts] using ih
    | _ => simpa [cuts] using ih
theorem taken_fr {ls : List Leaf} (h : ∀ q ∈ alps ls, st' q = st q) : taken st' ls = taken st ls := by
  unfold taken
  induction ls with
  | nil => rfl
  | cons l ls ih =>
    rw [List.map_cons, List.map_cons, ih (fun q hq => h q (by rw [alps_cons]; exact List.mem_append_right _ hq))]
    unfold tkLeaf
    rw [deref_fr (fun q hq => h q (by rw [alps_cons]; exact List.mem_append_left _ hq))]
theorem owned_alps_mem : ∀ {ls : List Leaf} {x : Nat × Nat}, x ∈ owned st ls → x.1 ∈ alps ls
  | [], _, h => by simp [owned] at h
  | l :: ls, x, h => by
    cases l with
    | al r j v =>
      simp only [owned, List.mem_append] at h
      rcases h with h | h
      · split at h
        · simp at h; subst h; simp [alps]
        · simp at h
      · rw [alps_cons]; exact List.mem_append_right _ (owned_alps_mem h)
    | nal p ks ep loc E e xs =>
      simp only [owned, List.mem_append] at h
      rcases h with h | h
      · split at h
        · obtain ⟨k, hk, rfl⟩ := List.mem_map.1 h
          rw [alps_cons, nal_alps]
          exact List.mem_append_left _ (List.mem_cons_of_mem _ (List.mem_map.2 ⟨k, hk, rfl⟩))
        · simp at h
      · rw [alps_cons]; exact List.mem_append_right _ (owned_alps_mem h)
    | _ => (simp only [owned] at h; rw [alps_cons]; exact List.mem_append_right _ (owned_alps_mem h))
theorem moved_alps_mem : ∀ {ls : List Leaf} {x : Nat × Nat}, x ∈ moved st ls → x.1 ∈ alps ls
  | [], _, h => by simp [moved] at h
  | l :: ls, x, h => by
    cases l with
    | al r j v =>
      simp only [moved, List.mem_append] at h
      rcases h with h | h
      · split at h
        · simp at h; subst h; simp [alps]
        · simp at h
      · rw [alps_cons]; exact List.mem_append_right _ (moved_alps_mem h)
    | _ => (simp only [moved] at h; rw [alps_cons]; exact List.mem_append_right _ (moved_alps_mem h))
theorem cuts_alps_mem : ∀ {ls : List Leaf} {x : Nat × Nat}, x ∈ cuts st ls → x.1 ∈ alps ls
  | [], _, h => by simp [cuts] at h
  | l :: ls, x, h => by
    cases l with
    | nal p ks ep loc E e xs =>
      cases loc with
      | none =>
        simp only [cuts, List.mem_append] at h
        rcases h with h | h
        · split at h
          · obtain ⟨k, hk, rfl⟩ := List.mem_map.1 h
            rw [alps_cons, nal_alps]
            exact List.mem_append_left _ (List.mem_cons_of_mem _ (List.mem_map.2 ⟨k, hk, rfl⟩))
          · simp at h
        · rw [alps_cons]; exact List.mem_append_right _ (cuts_alps_mem h)
      | some y => (simp only [cuts] at h; rw [alps_cons]; exact List.mem_append_right _ (cuts_alps_mem h))
    | _ => (simp only [cuts] at h; rw [alps_cons]; exact List.mem_append_right _ (cuts_alps_mem h))
theorem killU_fr : ∀ {ks : List (Nat × Nat)}, (∀ x ∈ ks, st' x.1 = st x.1) → killU st' ks = killU st ks
  | [], _ => rfl
  | (r, j) :: ks, h => by
    simp only [killU, killU_fr (ks := ks) (fun x hx => h x (List.mem_cons_of_mem _ hx)), look_fr (h (r, j) (List.mem_cons_self ..))]
theorem frzU_fr : ∀ {ks : List (Nat × Nat)}, (∀ x ∈ ks, st' x.1 = st x.1) → frzU st' ks = frzU st ks
  | [], _ => rfl
  | (r, j) :: ks, h => by
    simp only [frzU, frzU_fr (ks := ks) (fun x hx => h x (List.mem_cons_of_mem _ hx)), look_fr (h (r, j) (List.mem_cons_self ..))]
theorem mvU_fr {ls : List Leaf} (h : ∀ q ∈ alps ls, st' q = st q) : mvU st' ls = mvU st ls := by
  unfold mvU
  rw [cuts_fr h, moved_fr h, frzU_fr (fun x hx => h _ (cuts_alps_mem hx))]
  simp only
  rw [killU_fr (fun x hx => look_fr (h _ (moved_alps_mem hx)) _)]
theorem mvOk_fr {ls : List Leaf} (h : ∀ q ∈ alps ls, st' q = st q) : mvOk st' ls = mvOk st ls := by
  unfold mvOk
  rw [cuts_fr h, moved_fr h]
theorem take_fr : ∀ (a : Ty) (ls : List Leaf), (∀ q ∈ alps ls, st' q = st q) → take st' a ls = take st a ls
  | .int k, ls, h => by simp only [take, gather_fr (.int k) ls h]
  | .bool, ls, h => by simp only [take, gather_fr .bool ls h]
  | .str, ls, h => by simp only [take, gather_fr .str ls h]
  | .unit, ls, h => rfl
  | .hdr, ls, h => by simp only [take, gather_fr .hdr ls h]
  | .pair a b, ls, h => by
    simp only [take, take_fr a ls h]
    cases ha : take st a ls with
    | none => rfl
    | some x =>
      have hr := take_al.take_rest a ls x ha
      simp only
      rw [take_fr b x.rest (fun q hq => h q (alps_drop a.cells ls q (by rw [← hr]; exact hq)))]
  | .list m E e, ls, h => by
    cases ls with
    | nil => rfl
    | cons l ls =>
      have hl : ∀ q ∈ alps [l], st' q = st q := fun q hq => h q (by rw [alps_cons]; exact List.mem_append_left _ hq)
      simp only [take, deref_fr hl, owned_fr hl]
      congr 1
      split
      · rename_i r j v
        rw [deref_fr hl]
      · rfl
      · rfl
theorem takeAll_fr {a : Ty} {ls : List Leaf} (h : ∀ q ∈ alps ls, st' q = st q) : takeAll st' a ls = takeAll st a ls := by
  unfold takeAll
  rw [take_fr a ls h]
theorem take_pl : ∀ (a : Ty) (ls : List Leaf) (t : Took a.den), take st a ls = some t → (∀ z ∈ t.frz, z.1 ∈ alps ls) ∧ ∀ z ∈ t.kill, z.1 ∈ alps ls
  | .int k, ls, t, h => by simp only [take, Option.map_eq_some_iff] at h; obtain ⟨_, _, rfl⟩ := h; exact ⟨by simp, by simp⟩
  | .bool, ls, t, h => by simp only [take, Option.map_eq_some_iff] at h; obtain ⟨_, _, rfl⟩ := h; exact ⟨by simp, by simp⟩
  | .str, ls, t, h => by simp only [take, Option.map_eq_some_iff] at h; obtain ⟨_, _, rfl⟩ := h; exact ⟨by simp, by simp⟩
  | .hdr, ls, t, h => by simp only [take, Option.map_eq_some_iff] at h; obtain ⟨_, _, rfl⟩ := h; exact ⟨by simp, by simp⟩
  | .unit, ls, t, h => by simp only [take, Option.some.injEq] at h; subst h; exact ⟨by simp, by simp⟩
  | .pair a b, ls, t, h => by
    simp only [take] at h
    split at h
    · rename_i x hx
      split at h
      · rename_i y hy
        simp only [Option.some.injEq] at h
        subst h
        have hr := take_al.take_rest a ls x hx
        obtain ⟨h1, h2⟩ := take_pl a ls x hx
        obtain ⟨h3, h4⟩ := take_pl b x.rest y hy
        rw [hr] at h3 h4
        exact ⟨fun z hz => (List.mem_append.1 hz).elim (h1 z) (fun hz => alps_drop _ _ _ (h3 z hz)), fun z hz => (List.mem_append.1 hz).elim (h2 z) (fun hz => alps_drop _ _ _ (h4 z hz))⟩
      · cases h
    · cases h
  | .list m E e, ls, t, h => by
    cases ls with
    | nil => simp [take] at h
    | cons l ls =>
      have hl : ∀ q ∈ alps [l], q ∈ alps (l :: ls) := fun q hq => by rw [alps_cons]; exact List.mem_append_left _ hq
      cases m with
      | false =>
        simp only [take, cond_false] at h
        split at h
        · simp only [Option.some.injEq] at h
          subst h
          exact ⟨fun z hz => hl _ (owned_alps_mem hz), by simp⟩
        · cases h
      | true =>
        simp only [take, cond_true] at h
        split at h
        · split at h
          · simp only [Option.map_eq_some_iff] at h
            obtain ⟨_, _, rfl⟩ := h
            exact ⟨by simp, fun z hz => by simp at hz; subst hz; exact hl _ (by simp [alps])⟩
          · cases h
        · simp only [Option.some.injEq] at h
          subst h
          exact ⟨by simp, by simp⟩
        · cases h
theorem takeAll_pl {a : Ty} {ls : List Leaf} {t : Took a.den} (h : takeAll st a ls = some t) : (∀ z ∈ t.frz, z.1 ∈ alps ls) ∧ ∀ z ∈ t.kill, z.1 ∈ alps ls := by
  unfold takeAll at h
  split at h
  · rename_i p x f k hq
    simp only [Option.some.injEq] at h
    subst h
    exact take_pl a ls _ hq
  · cases h
theorem putEl_rest : ∀ {off n : Nat} (a : Ty) (pos : Nat) (x : a.den) (ls : List Leaf) (t : Took a.den), putEl st off n a pos x ls = some t → ∃ k, t.rest = ls.drop k
  | off, n, .pair a b, pos, x, ls, t, h => by
    simp only [putEl] at h
    split at h
    · rename_i u hu
      split at h
      · rename_i v hv
        simp only [Option.some.injEq] at h
        subst h
        obtain ⟨k1, e1⟩ := putEl_rest a pos x.1 ls u hu
        obtain ⟨k2, e2⟩ := putEl_rest b (pos + a.cells) x.2 u.rest v hv
        exact ⟨k1 + k2, by show v.rest = _; rw [e2, e1, List.drop_drop]⟩
      · cases h
    · cases h
  | off, n, .unit, pos, x, ls, t, h => by simp only [putEl, Option.some.injEq] at h; subst h; exact ⟨0, rfl⟩
  | off, n, .hdr, pos, x, ls, t, h => by simp [putEl] at h
  | off, n, .int k, pos, x, ls, t, h => sc (a := .int k) h
  | off, n, .bool, pos, x, ls, t, h => sc (a := .bool) h
  | off, n, .str, pos, x, ls, t, h => sc (a := .str) h
  | off, n, .list m E e, pos, x, ls, t, h => sc (a := .list m E e) h
where
  sc {a : Ty} {b : Bool} {x : a.den} {ls : List Leaf} {t : Took a.den} (h : (bif b then take st a ls else some ⟨false, x, [], [], ls⟩) = some t) : ∃ k, t.rest = ls.drop k := by
    cases b with
    | true => exact ⟨_, take_al.take_rest a ls t h⟩
    | false => simp only [cond_false, Option.some.injEq] at h; subst h; exact ⟨0, rfl⟩
theorem putEl_fr : ∀ {off n : Nat} (a : Ty) (pos : Nat) (x : a.den) (ls : List Leaf), (∀ q ∈ alps ls, st' q = st q) → putEl st' off n a pos x ls = putEl st off n a pos x ls
  | off, n, .pair a b, pos, x, ls, h => by
    simp only [putEl, putEl_fr a pos x.1 ls h]
    cases hu : putEl st off n a pos x.1 ls with
    | none => rfl
    | some u =>
      obtain ⟨k, e⟩ := putEl_rest a pos x.1 ls u hu
      simp only
      rw [putEl_fr b (pos + a.cells) x.2 u.rest (fun q hq => h q (alps_drop k ls q (by rw [← e]; exact hq)))]
  | off, n, .unit, pos, x, ls, h => rfl
  | off, n, .hdr, pos, x, ls, h => rfl
  | off, n, .int k, pos, x, ls, h => by simp only [putEl, take_fr (.int k) ls h]
  | off, n, .bool, pos, x, ls, h => by simp only [putEl, take_fr .bool ls h]
  | off, n, .str, pos, x, ls, h => by simp only [putEl, take_fr .str ls h]
  | off, n, .list m E e, pos, x, ls, h => by simp only [putEl, take_fr (.list m E e) ls h]
theorem putEl_pl : ∀ {off n : Nat} (a : Ty) (pos : Nat) (x : a.den) (ls : List Leaf) (t : Took a.den), putEl st off n a pos x ls = some t → (∀ z ∈ t.frz, z.1 ∈ alps ls) ∧ ∀ z ∈ t.kill, z.1 ∈ alps ls
  | off, n, .pair a b, pos, x, ls, t, h => by
    simp only [putEl] at h
    split at h
    · rename_i u hu
      split at h
      · rename_i v hv
        simp only [Option.some.injEq] at h
        subst h
        obtain ⟨k, e⟩ := putEl_rest a pos x.1 ls u hu
        obtain ⟨h1, h2⟩ := putEl_pl a pos x.1 ls u hu
        obtain ⟨h3, h4⟩ := putEl_pl b (pos + a.cells) x.2 u.rest v hv
        rw [e] at h3 h4
        exact ⟨fun z hz => (List.mem_append.1 hz).elim (h1 z) (fun hz => alps_drop _ _ _ (h3 z hz)), fun z hz => (List.mem_append.1 hz).elim (h2 z) (fun hz => alps_drop _ _ _ (h4 z hz))⟩
      · cases h
    · cases h
  | off, n, .unit, pos, x, ls, t, h => by simp only [putEl, Option.some.injEq] at h; subst h; exact ⟨by simp, by simp⟩
  | off, n, .hdr, pos, x, ls, t, h => by simp [putEl] at h
  | off, n, .int k, pos, x, ls, t, h => sc (a := .int k) h
  | off, n, .bool, pos, x, ls, t, h => sc (a := .bool) h
  | off, n, .str, pos, x, ls, t, h => sc (a := .str) h
  | off, n, .list m E e, pos, x, ls, t, h => sc (a := .list m E e) h
where
  sc {a : Ty} {b : Bool} {x : a.den} {ls : List Leaf} {t : Took a.den} (h : (bif b then take st a ls else some ⟨false, x, [], [], ls⟩) = some t) : (∀ z ∈ t.frz, z.1 ∈ alps ls) ∧ ∀ z ∈ t.kill, z.1 ∈ alps ls := by
    cases b with
    | true => exact take_pl a ls t h
    | false => simp only [cond_false, Option.some.injEq] at h; subst h; exact ⟨by simp, by simp⟩
theorem putU_fr {U : Upd} {d : Nat} {sh : Shape} {ls : List Leaf} (h : st' d = st d) : putU st' U d sh ls = putU st U d sh ls := by
  simp only [putU, look_fr h]
theorem slots_mem : ∀ {xs : List Operand} {t : Nat}, Operand.tmp t ∈ xs → t ∈ slotsOf xs
  | [], _, h => by simp at h
  | x :: xs, t, h => by
    rcases List.mem_cons.1 h with rfl | h
    · simp [slotsOf]
    · have ih := slots_mem h
      cases x <;> simp [slotsOf, ih]
theorem alps_view (t n : Nat) : ∀ (j : Nat) (ls : List Leaf) (q : Nat), q ∈ alps (viewFrom t n j ls) → q = t ∨ q ∈ alps ls
  | _, [], _, h => by simp [viewFrom, alps] at h
  | j, l :: ls, q, h => by
    simp only [viewFrom] at h
    rw [alps_cons, List.mem_append] at h
    rw [alps_cons, List.mem_append]
    rcases h with h | h
    · cases l with
      | own p hh E e xs => simp [viewLeaf, alps] at h; exact .inl h
      | _ => exact .inr (.inl h)
    · exact (alps_view t n (j + 1) ls q h).imp id .inr
theorem refs_append : ∀ (l1 l2 : List Leaf), refs (l1 ++ l2) = refs l1 ++ refs l2
  | [], _ => rfl
  | l :: l1, l2 => by cases l <;> simp [refs, refs_append l1 l2]
theorem refs_cons (l : Leaf) (ls : List Leaf) : refs (l :: ls) = refs [l] ++ refs ls := refs_append [l] ls
theorem alps_refs : ∀ {ls : List Leaf} {q : Nat}, q ∈ alps ls → q ∈ refs ls
  | [], _, h => by simp [alps] at h
  | l :: ls, q, h => by
    rw [alps_cons, List.mem_append] at h
    rw [refs_cons, List.mem_append]
    rcases h with h | h
    · left
      cases l with
      | nal p ks ep loc E e xs => simp [alps] at h; simpa [refs] using h
      | np p ks ep a x off => simp [alps] at h; simpa [refs] using h
      | _ => simp [alps] at h <;> simp [refs, h]
    · exact .inr (alps_refs h)
theorem refs_view (t n : Nat) : ∀ (j : Nat) (ls : List Leaf) (q : Nat), q ∈ refs (viewFrom t n j ls) → q = t ∨ q ∈ refs ls
  | _, [], _, h => by simp [viewFrom, refs] at h
  | j, l :: ls, q, h => by
    simp only [viewFrom] at h
    rw [refs_cons, List.mem_append] at h
    rw [refs_cons, List.mem_append]
    rcases h with h | h
    · cases l with
      | own p hh E e xs => simp [viewLeaf, refs] at h; exact .inl h
      | _ => exact .inr (.inl h)
    · exact (refs_view t n (j + 1) ls q h).imp id .inr
theorem alps_opnd {x : Operand} {q : Nat} (h : q ∈ alps (opnd st x).2) : ∃ t, x = .tmp t ∧ (q = t ∨ q ∈ alps (st t).ls) := by
  cases x with
  | tmp t =>
    simp only [opnd] at h
    cases hb : Nat.blt t GH with
    | false => simp [hb, alps] at h
    | true => simp only [hb, cond_true] at h; exact ⟨t, rfl, alps_view _ _ _ _ _ h⟩
  | const v =>
    simp only [opnd] at h
    split at h
    · rename_i l hl
      unfold constLeaf at hl
      split at hl <;> simp at hl <;> subst hl <;> simp [alps] at h
    · simp [alps] at h
  | func f => simp [opnd, alps] at h
  | global g => simp [opnd, alps] at h
theorem refs_opnd {x : Operand} {q : Nat} (h : q ∈ refs (opnd st x).2) : ∃ t, x = .tmp t ∧ (q = t ∨ q ∈ refs (st t).ls) := by
  cases x with
  | tmp t =>
    simp only [opnd] at h
    cases hb : Nat.blt t GH with
    | false => simp [hb, refs] at h
    | true => simp only [hb, cond_true] at h; exact ⟨t, rfl, refs_view _ _ _ _ _ h⟩
  | const v =>
    simp only [opnd] at h
    split at h
    · rename_i l hl
      unfold constLeaf at hl
      split at hl <;> simp at hl <;> subst hl <;> simp [refs] at h
    · simp [refs] at h
  | func f => simp [opnd, refs] at h
  | global g => simp [opnd, refs] at h
theorem one_mem {x : Operand} {l : Leaf} (h : one st x = l) (hd : l ≠ .dead) : (opnd st x).2 = [l] := by
  unfold one at h
  split at h
  · rename_i l' he; rw [he, h]
  · exact absurd h.symm hd
theorem alps_one {x : Operand} {q : Nat} (h : q ∈ alps [one st x]) : q ∈ alps (opnd st x).2 := by
  by_cases hd : one st x = .dead
  · rw [hd] at h; simp [alps] at h
  · rw [one_mem rfl hd]; exact h
theorem refs_one {x : Operand} {q : Nat} (h : q ∈ refs [one st x]) : q ∈ refs (opnd st x).2 := by
  by_cases hd : one st x = .dead
  · rw [hd] at h; simp [refs] at h
  · rw [one_mem rfl hd]; exact h
def hLeaf : Leaf → Bool × Leaf
  | .own _ _ _ e xs => (true, .ep 0 0 0 e.cells xs.length 0)
  | l => (false, l)
def hCont (c : Cont) : Nat × Shape × List (Bool × Leaf) := (c.ver, c.sh, c.ls.map hLeaf)
theorem hLeaf_eq {l l' : Leaf} (h : hLeaf l' = hLeaf l) : l' = l ∨ ∃ (p p' : Bool) (hh hh' : Option (Nat × Nat)) (E E' : TypeId) (e e' : Ty) (xs : List e.den) (xs' : List e'.den), l = .own p hh E e xs ∧ l' = .own p' hh' E' e' xs' ∧ e'.cells = e.cells ∧ xs'.length = xs.length := by
  cases l <;> cases l' <;> simp only [hLeaf, Prod.mk.injEq, Bool.false_eq_true, reduceCtorEq, false_and, and_false, true_and, Leaf.ep.injEq, Bool.true_eq_false] at h <;>
    first
    | exact .inr ⟨_, _, _, _, _, _, _, _, _, _, rfl, rfl, h.1, h.2.1⟩
    | exact .inr ⟨_, _, _, _, _, _, _, _, _, _, rfl, rfl, h.1, h.2⟩
    | exact .inl rfl
    | exact .inl (by rw [h])
    | exact .inl h
    | (obtain ⟨rfl, rfl, rfl, rfl, rfl, rfl⟩ := h; exact .inl rfl)
theorem viewFrom_h (t n : Nat) : ∀ (j : Nat) (ls ls' : List Leaf), ls'.map hLeaf = ls.map hLeaf → viewFrom t n j ls' = viewFrom t n j ls
  | _, [], [], _ => rfl
  | _, [], _ :: _, h => by simp at h
  | _, _ :: _, [], h => by simp at h
  | j, l :: ls, l' :: ls', h => by
    simp only [List.map_cons, List.cons.injEq] at h
    simp only [viewFrom, viewFrom_h t n (j + 1) ls ls' h.2]
    rcases hLeaf_eq h.1 with e | ⟨p, p', hh, hh', E, E', e, e', xs, xs', e1, e2, _, _⟩
    · rw [e]
    · rw [e1, e2]; rfl
theorem opnd_h {x : Operand} (h : ∀ t, x = .tmp t → hCont (st' t) = hCont (st t)) : opnd st' x = opnd st x := by
  cases x with
  | tmp t =>
    have := h t rfl
    simp only [hCont, Prod.mk.injEq] at this
    simp only [opnd, this.1, this.2.1, viewFrom_h _ _ _ _ _ this.2.2]
  | _ => rfl
theorem one_h {x : Operand} (h : ∀ t, x = .tmp t → hCont (st' t) = hCont (st t)) : one st' x = one st x := by
  unfold one
  rw [opnd_h h]
theorem getD_h {c c' : Cont} (h : hCont c' = hCont c) (j : Nat) : hLeaf (c'.ls.getD j .dead) = hLeaf (c.ls.getD j .dead) := by
  simp only [hCont, Prod.mk.injEq] at h
  have := congrArg (fun l => l[j]?) h.2.2
  simp only [List.getElem?_map] at this
  rw [List.getD_eq_getElem?_getD, List.getD_eq_getElem?_getD]
  generalize c'.ls[j]? = a at this
  generalize c.ls[j]? = b at this
  match a, b, this with
  | none, none, _ => rfl
  | some x, some y, h => exact Option.some.inj h
theorem ownLeaf_h (l : Leaf) : ownLeaf l = (hLeaf l).1 := by cases l <;> rfl
theorem validK_h {ks : List (Nat × Nat × Nat)} {ep : Nat} (h : ∀ q ∈ EPO :: ks.map (·.1), hCont (st' q) = hCont (st q)) : validK st' ks ep = validK st ks ep := by
  unfold validK
  have hE := h EPO (List.mem_cons_self ..)
  simp only [hCont, Prod.mk.injEq] at hE
  rw [hE.1]
  congr 1
  induction ks with
  | nil => rfl
  | cons k ks ih =>
    have hk := h k.1 (by simp)
    have hv : (st' k.1).ver = (st k.1).ver := by simp only [hCont, Prod.mk.injEq] at hk; exact hk.1
    rw [List.all_cons, List.all_cons, ih (fun q hq => h q (by simp at hq ⊢; rcases hq with hq | hq; exact .inl hq; exact .inr (.inr hq))), ownLeaf_h, ownLeaf_h, getD_h hk, hv]
end
end Go.Proofs.YtdjmnbdicpgmiaaEv
namespace Go.Proofs.YtdjmnbdicpgmiaaEv
open Go Go.RowKit
section
variable {P : Program} {V : Env} {Γ : List Ctr} {T : TypeId → TI} {st st' : St} {o : Oper} {R : Type} {κ : Upd → Option R} {r : R}
theorem dst_fr {d : Nat} (hd : o.dst = some d) (h : ∀ q ∈ looksOf st o, st' q = st q) : st' d = st d ∧ st' (B0 + d) = st (B0 + d) := by
  refine ⟨h d ?_, h (B0 + d) ?_⟩ <;> simp [looksOf, dstOf, hd]
theorem owned_pl_fr {ls : List Leaf} (h : ∀ q ∈ alps ls, st' q = st q) : ∀ x ∈ owned st ls, st' x.1 = st x.1 := fun x hx => h _ (owned_alps_mem hx)
theorem buildLs_fr {flds : List (Nat × Nat × Bool)} : ∀ (ps : List (Nat × Operand)) (ls : List Leaf), (∀ x ∈ ps, ∀ t, x.2 = .tmp t → st' t = st t) → buildLs st' flds ps ls = buildLs st flds ps ls
  | [], _, _ => rfl
  | (i, x) :: ps, ls, h => by
    simp only [buildLs, opnd_fr (h (i, x) (List.mem_cons_self ..))]
    split
    · rw [buildLs_fr ps _ (fun y hy => h y (List.mem_cons_of_mem _ hy))]
    · rfl
theorem buildEls_fr {e : Ty} : ∀ (ps : List (Nat × Operand)) (k : Nat), (∀ x ∈ ps, (∀ t, x.2 = .tmp t → st' t = st t) ∧ ∀ q ∈ alps (opnd st x.2).2, st' q = st q) → buildEls st' e k ps = buildEls st e k ps
  | [], _, _ => rfl
  | (i, x) :: ps, k, h => by
    have h1 := h (i, x) (List.mem_cons_self ..)
    simp only [buildEls, opnd_fr h1.1, takeAll_fr h1.2, buildEls_fr ps (k + 1) (fun y hy => h y (List.mem_cons_of_mem _ hy))]
theorem buildEls_pl {e : Ty} : ∀ (ps : List (Nat × Operand)) (k : Nat) (u : Took (List e.den)), buildEls st e k ps = some u → ∀ z, z ∈ u.frz ∨ z ∈ u.kill → ∃ x ∈ ps, z.1 ∈ alps (opnd st x.2).2
  | [], _, _, h => by simp only [buildEls, Option.some.injEq] at h; subst h; simp
  | (i, x) :: ps, k, u, h => by
    simp only [buildEls] at h
    cases hb : Nat.beq i k && decide ((opnd st x).1 = shOf e.isAgg) with
    | false => simp [hb] at h
    | true =>
      simp only [hb, cond_true] at h
      split at h
      · rename_i t1 u1 hg hbe
        simp only [Option.some.injEq] at h
        subst h
        intro z hz
        obtain ⟨p1, p2⟩ := takeAll_pl hg
        have hmem : (z ∈ t1.frz ∨ z ∈ t1.kill) ∨ (z ∈ u1.frz ∨ z ∈ u1.kill) := by
          rcases hz with hz | hz <;> rcases List.mem_append.1 hz with hz | hz
          · exact .inl (.inl hz)
          · exact .inr (.inl hz)
          · exact .inl (.inr hz)
          · exact .inr (.inr hz)
        rcases hmem with hz | hz
        · exact ⟨(i, x), List.mem_cons_self .., hz.elim (p1 z) (p2 z)⟩
        · obtain ⟨y, hy, h2⟩ := buildEls_pl ps (k + 1) u1 hbe z hz
          exact ⟨y, List.mem_cons_of_mem _ hy, h2⟩
      · cases h
theorem boundK_fr {x : Option Operand} {n : Int} (h : ∀ y, x = some y → ∀ t, y = .tmp t → st' t = st t) : boundK st' x n = boundK st x n := by
  cases x with
  | none => rfl
  | some y => simp only [boundK, one_fr (h y rfl)]
theorem caps_fr : ∀ (xs : List Operand) (acc : Option (List Nat)), (∀ x ∈ xs, ∀ t, x = .tmp t → st' t = st t) →
    xs.foldl (fun (acc : Option (List Nat)) x => acc.bind fun l => match one st' x with | .bp b 0 => some (l ++ [b]) | _ => none) acc =
    xs.foldl (fun (acc : Option (List Nat)) x => acc.bind fun l => match one st x with | .bp b 0 => some (l ++ [b]) | _ => none) acc
  | [], _, _ => rfl
  | x :: xs, acc, h => by
    simp only [List.foldl_cons, one_fr (h x (List.mem_cons_self ..))]
    exact caps_fr xs _ (fun y hy => h y (List.mem_cons_of_mem _ hy))
theorem nestOut_fr {l : Leaf} (hT : st' TMP = st TMP) (hE : st' EPO = st EPO) (h : ∀ q ∈ alps [l], st' q = st q) : nestOut st' l = nestOut st l := by
  cases l with
  | nal p ks ep loc E e xs =>
    rw [nal_alps] at h
    simp only [nestOut, validK_fr h, hT, hE]
    congr 1
    match ks, loc, h with
    | [(r, j, n)], some (i, sz, off), h =>
      have hr := h r (by simp)
      simp only [hr]
    | [(r, j, n)], none, _ => rfl
    | [], _, _ => rfl
    | _ :: _ :: _, _, _ => rfl
  | _ => rfl
theorem nestOut_upd {l l' : Leaf} {U : Upd} (h : nestOut st l = some (U, l')) : ∃ n, l' = .al TMP 0 n ∧ ∀ q, q ≠ TMP → ∀ z ∈ refs (look U st q).ls, z ∈ refs (st q).ls := by
  cases l with
  | nal p ks ep loc E e xs =>
    simp only [nestOut] at h
    cases hvk : validK st ks ep with
    | false => simp [hvk] at h
    | true =>
      rw [hvk] at h
      simp only [cond_true] at h
      split at h
      · rename_i r j n0 i sz off
        split at h
        · rename_i p' E' e' xs' hg
          cases hb : !Nat.beq r TMP && !Nat.beq r EPO && Nat.beq sz e'.cells with
          | false => simp [hb] at h
          | true =>
            rw [hb] at h
            simp only [cond_true] at h
            split at h
            · split at h
              · rename_i y _ _ _ _ _
                simp only [Option.some.injEq, Prod.mk.injEq] at h
                obtain ⟨rfl, rfl⟩ := h
                refine ⟨_, rfl, fun q hq z hz => ?_⟩
                rw [look_cons] at hz
                rcases look_cases r q ⟨(st r).ver, (st r).sh, setL (st r).ls j (.own p' (some (i, off)) E' e' xs')⟩ (look [(TMP, ⟨(st TMP).ver + 1, .one, [.own (p' && e'.shy) none _ _ _]⟩), (EPO, bump (st EPO))] st) with ⟨rfl, e0⟩ | ⟨_, e0⟩
                · rw [e0] at hz
                  exact refs_set hz
                · rw [e0, look_cons, look_other hq] at hz
                  rcases look_cases EPO q (bump (st EPO)) st with ⟨rfl, e1⟩ | ⟨_, e1⟩ <;> rw [e1] at hz <;> exact hz
              · cases h
            · cases h
        · cases h
      · cases h
  | _ => simp [nestOut] at h
where
  refs_set {ls : List Leaf} {j z : Nat} {p : Bool} {hh : Option (Nat × Nat)} {E : TypeId} {e : Ty} {xs : List e.den} (h : z ∈ refs (setL ls j (.own p hh E e xs))) : z ∈ refs ls := by
    unfold setL at h
    induction ls generalizing j with
    | nil => simpa using h
    | cons l ls ih =>
      cases j with
      | zero =>
        rw [List.set_cons_zero, refs_cons, List.mem_append] at h
        rw [refs_cons, List.mem_append]
        rcases h with h | h
        · simp [refs] at h
        · exact .inr h
      | succ j =>
        rw [List.set_cons_succ, refs_cons, List.mem_append] at h
        rw [refs_cons, List.mem_append]
        exact h.imp id ih
theorem nestOut_tmp {l l' : Leaf} {U : Upd} (h : nestOut st l = some (U, l')) : refs (look U st TMP).ls = [] := by
  cases l with
  | nal p ks ep loc E e xs =>
    simp only [nestOut] at h
    cases hvk : validK st ks ep with
    | false => simp [hvk] at h
    | true =>
      rw [hvk] at h
      simp only [cond_true] at h
      split at h
      · rename_i r j n0 i sz off
        split at h
        · rename_i p' E' e' xs' hg
          cases hb : !Nat.beq r TMP && !Nat.beq r EPO && Nat.beq sz e'.cells with
          | false => simp [hb] at h
          | true =>
            rw [hb] at h
            simp only [cond_true] at h
            have hrT : TMP ≠ r := fun e => by subst e; simp at hb
            split at h
            · split at h
              · simp only [Option.some.injEq, Prod.mk.injEq] at h
                obtain ⟨rfl, rfl⟩ := h
                rw [look_cons, look_other hrT, look_cons, look_same]
                rfl
              · cases h
            · cases h
        · cases h
      · cases h
  | _ => simp [nestOut] at h
theorem takeEls_fr {E : TypeId} {e : Ty} {y : Leaf} (hy : ∀ q ∈ alps [y], st' q = st q) : takeEls st' E e y = takeEls st E e y := by
  unfold takeEls
  rw [deref_fr hy, owned_fr hy, takeAll_fr hy]
theorem takeEls_pl {E : TypeId} {e : Ty} {y : Leaf} {t : Took (List e.den)} (h : takeEls st E e y = some t) : (∀ z ∈ t.frz, z.1 ∈ alps [y]) ∧ ∀ z ∈ t.kill, z.1 ∈ alps [y] := by
  unfold takeEls at h
  cases hf : e.flat with
  | true =>
    rw [hf] at h
    simp only [cond_true, Option.map_eq_some_iff] at h
    obtain ⟨_, _, rfl⟩ := h
    exact ⟨by simp, by simp⟩
  | false =>
    rw [hf] at h
    simp only [cond_false] at h
    cases hs : decide (e.sh = e) with
    | true =>
      rw [hs] at h
      simp only [cond_true, Option.map_eq_some_iff] at h
      obtain ⟨_, _, rfl⟩ := h
      exact ⟨fun z hz => owned_alps_mem hz, by simp⟩
    | false =>
      rw [hs] at h
      simp only [cond_false, Option.map_eq_some_iff] at h
      obtain ⟨t', ht, rfl⟩ := h
      exact takeAll_pl ht
theorem appendTo_fr {U0 : Upd} {d : Nat} {E : TypeId} {e : Ty} {bytes : Nat} {p : Bool} {xs : List e.den} {ks : List (Nat × Nat)} {y : Leaf} (hks : ∀ z ∈ ks, st' z.1 = st z.1) (hy : ∀ q ∈ alps [y], st' q = st q) (hd : st' d = st d) :
    appendTo st' (look U0 st') U0 d E e bytes p xs ks y κ = appendTo st (look U0 st) U0 d E e bytes p xs ks y κ := by
  unfold appendTo
  have h0 : ∀ q, st' q = st q → look U0 st' q = look U0 st q := fun q h => look_fr h U0
  rw [takeEls_fr (st := look U0 st) (st' := look U0 st') (fun q hq => h0 q (hy q hq))]
  split
  · rename_i t ht
    obtain ⟨p1, p2⟩ := takeEls_pl ht
    have e1 : frzU (look U0 st') t.frz = frzU (look U0 st) t.frz := frzU_fr (fun z hz => h0 _ (hy _ (p1 z hz)))
    have e2 : ∀ U : Upd, killU (look U (look U0 st')) (t.kill ++ ks) = killU (look U (look U0 st)) (t.kill ++ ks) := fun U => killU_fr (fun z hz => look_fr (h0 _ ((List.mem_append.1 hz).elim (fun hz => hy _ (p2 z hz)) (hks z))) U)
    simp only [e1, e2, putU_fr hd]
  · rfl
theorem appendL_fr {U0 : Upd} {d : Nat} {E : TypeId} {e : Ty} {bytes : Nat} {x y : Leaf} (hx : ∀ q ∈ alps [x], st' q = st q) (hy : ∀ q ∈ alps [y], st' q = st q) (hd : st' d = st d) : appendL st' U0 d E e bytes x y κ = appendL st U0 d E e bytes x y κ := by
  unfold appendL
  cases x with
  | al r j v =>
    have hr : st' r = st r := hx r (by simp [alps])
    simp only
    rw [deref_fr (st := look U0 st) (st' := look U0 st') (l := .al r j v) (fun q hq => look_fr (hx q hq) U0)]
    split
    · rw [appendTo_fr (fun z hz => by simp at hz; subst hz; exact hr) hy hd]
    · rfl
  | nil => exact appendTo_fr (by simp) hy hd
  | _ => rfl
theorem appendK_fr {d : Nat} {E : TypeId} {e : Ty} {bytes : Nat} {x y : Leaf} (hT : st' TMP = st TMP) (hx : ∀ q ∈ alps [x], st' q = st q) (hy : ∀ q ∈ alps [y], st' q = st q) (hd : st' d = st d) : appendK st' d E e bytes x y κ = appendK st d E e bytes x y κ := by
  unfold appendK
  rw [appendL_fr hx hy hd, nestOutK_eq, nestOutK_eq]
  cases hn : isNal x with
  | false => rfl
  | true =>
    simp only [cond_true]
    have hE : st' EPO = st EPO := by
      cases x with
      | nal p ks ep loc E e xs => exact hx EPO (by rw [nal_alps]; exact List.mem_cons_self ..)
      | _ => simp [isNal] at hn
    rw [nestOut_fr hT hE hx]
    cases hu : nestOut st x with
    | none => rfl
    | some u =>
      obtain ⟨n, e1, _⟩ := nestOut_upd (U := u.1) (l' := u.2) hu
      simp only [Option.bind_some]
      rw [e1]
      unfold appendL
      simp only
      have e2 : ∀ q, q = TMP → look u.1 st' q = look u.1 st q := fun q hq => by rw [hq]; exact look_fr hT u.1
      rw [deref_fr (st := look u.1 st) (st' := look u.1 st') (l := .al TMP 0 n) (fun q hq => e2 q (by simpa [alps] using hq))]
      split
      · rw [appendTo_fr (fun z hz => by simp at hz; subst hz; exact hT) hy hd]
      · rfl
structure Deep (st st' : St) (ls : List Leaf) : Prop where
  d1 : ∀ q ∈ refs ls, st' q = st q
  d2 : ∀ r ∈ refs ls, ∀ q ∈ refs (st r).ls, st' q = st q
  d3 : ∀ r ∈ refs ls, ∀ r2 ∈ refs (st r).ls, ∀ q ∈ refs (st r2).ls, st' q = st q
theorem refs_leavesR (p : Bool) : ∀ (a : Ty) (x : a.den), refs (leavesR p a x) = []
  | .int _, _ => rfl
  | .bool, _ => rfl
  | .str, _ => rfl
  | .unit, _ => rfl
  | .hdr, _ => rfl
  | .pair a b, x => by simp [leavesR, refs_append, refs_leavesR p a, refs_leavesR p b]
  | .list _ _ _, _ => rfl
theorem target_fr {l : Leaf} (h : ∀ q ∈ refs [l], st' q = st q) : target st' l = target st l := by
  unfold target
  cases l with
  | bp b off =>
    have hb := h b (by simp [refs])
    cases off with
    | zero => simp only [hb]
    | succ n => rfl
  | rp p a x off => cases off <;> rfl
  | _ => rfl
theorem target_refs {l : Leaf} {ls : List Leaf} (h : target st l = some ls) : ∀ q ∈ refs ls, q ∈ refs [l] ∨ ∃ r ∈ refs [l], q ∈ refs (st r).ls := by
  unfold target at h
  split at h
  · rename_i b
    cases hb : decide ((st b).sh = .agg) with
    | false => simp [hb] at h
    | true =>
      simp only [hb, cond_true, Option.some.injEq] at h
      subst h
      intro q hq
      rcases refs_view _ _ _ _ _ hq with rfl | hq
      · exact .inl (by simp [refs])
      · exact .inr ⟨b, by simp [refs], hq⟩
  · simp only [Option.some.injEq] at h
    subst h
    intro q hq
    rw [refs_leavesR] at hq
    simp at hq
  · simp only [Option.some.injEq] at h
    subst h
    intro q hq
    simp [refs] at hq
  · cases h
theorem oneLeaf_refs {x : Shape × List Leaf} {q : Nat} (h : q ∈ refs [oneLeaf x]) : q ∈ refs x.2 := by
  unfold oneLeaf at h
  split at h
  · exact h
  · simp [refs] at h
theorem Deep.target {l : Leaf} {ls : List Leaf} (h : Deep st st' [l]) (ht : Go.Proofs.YtdjmnbdicpgmiaaEv.target st l = some ls) : (∀ q ∈ refs ls, st' q = st q) ∧ ∀ r ∈ refs ls, ∀ q ∈ refs (st r).ls, st' q = st q := by
  constructor
  · intro q hq
    rcases target_refs ht q hq with h1 | ⟨r, h1, h2⟩
    · exact h.d1 q h1
    · exact h.d2 r h1 q h2
  · intro r hr q hq
    rcases target_refs ht r hr with h1 | ⟨r', h1, h2⟩
    · exact h.d2 r h1 q hq
    · exact h.d3 r' h1 r h2 q hq
theorem Deep.one {x : Shape × List Leaf} (h : Deep st st' x.2) : Deep st st' [oneLeaf x] :=
  ⟨fun q hq => h.d1 q (oneLeaf_refs hq), fun r hr => h.d2 r (oneLeaf_refs hr), fun r hr => h.d3 r (oneLeaf_refs hr)⟩
def PlOk {α : Type} (st st' : St) (g : Got α) : Prop := (∀ z ∈ g.frz, st' z.1 = st z.1) ∧ (∀ z ∈ g.kill, st' z.1 = st z.1)
theorem getCap_fr {c : Bool × Ty} {l : Leaf} (h1 : Deep st st' [l]) : getCap st' c l = getCap st c l ∧ ∀ g, getCap st c l = some g → PlOk st st' g := by
  unfold getCap
  rw [target_fr h1.d1]
  cases ht : target st l with
  | none => cases c.1 <;> exact ⟨rfl, by simp⟩
  | some ls =>
    have h2 := h1.target ht
    cases hc : c.1 with
    | false =>
      have h3 : ∀ q ∈ alps ls, st' q = st q := fun q hq => h2.1 q (alps_refs hq)
      simp only [cond_false, gatherAll_fr h3, owned_fr h3, true_and]
      intro g hg
      simp only [Option.map_eq_some_iff] at hg
      obtain ⟨_, _, rfl⟩ := hg
      exact ⟨owned_pl_fr h3, by simp [Got.ofRd]⟩
    | true =>
      simp only [cond_true]
      match ls, h2, ht with
      | [], _, _ => exact ⟨rfl, by simp⟩
      | _ :: _ :: _, _, _ => exact ⟨rfl, by simp⟩
      | [l'], h2, ht =>
        simp only [target_fr h2.1]
        cases ht' : target st l' with
        | none => exact ⟨rfl, by simp⟩
        | some ls' =>
          have h3 : ∀ q ∈ alps ls', st' q = st q := by
            intro q hq
            rcases target_refs ht' q (alps_refs hq) with h4 | ⟨r, h4, h5⟩
            · exact h2.1 q h4
            · exact h2.2 r h4 q h5
          simp only [gatherAll_fr h3, owned_fr h3, true_and]
          intro g hg
          simp only [Option.map_eq_some_iff] at hg
          obtain ⟨_, _, rfl⟩ := hg
          exact ⟨owned_pl_fr h3, by simp [Got.ofRd]⟩
theorem getCaps_fr : ∀ (cs : List (Bool × Ty)) (ls : List Leaf), (∀ l ∈ ls, Deep st st' [l]) → getCaps st' cs ls = getCaps st cs ls ∧ ∀ g, getCaps st cs ls = some g → PlOk st st' g
  | [], [], _ => ⟨rfl, fun g hg => by simp only [getCaps, Option.some.injEq] at hg; subst hg; exact ⟨by simp, by simp⟩⟩
  | [], _ :: _, _ => ⟨rfl, fun g hg => by simp [getCaps] at hg⟩
  | _ :: _, [], _ => ⟨rfl, fun g hg => by simp [getCaps] at hg⟩
  | c :: cs, l :: ls, h => by
    obtain ⟨h1, h2⟩ := getCap_fr (c := c) (h l (List.mem_cons_self ..))
    obtain ⟨h3, h4⟩ := getCaps_fr cs ls (fun y hy => h y (List.mem_cons_of_mem _ hy))
    simp only [getCaps, h1, h3, true_and]
    intro g hg
    split at hg
    · rename_i g1 hg1
      split at hg
      · rename_i g2 hg2
        simp only [Option.some.injEq] at hg
        subst hg
        exact ⟨fun z hz => (List.mem_append.1 hz).elim ((h2 g1 hg1).1 z) ((h4 g2 hg2).1 z), by simp⟩
      · cases hg
    · cases hg
theorem alps_setNil {c : Nat} {q : Nat} : ∀ {ls : List Leaf} {c : Nat}, q ∈ alps (setL ls c .nil) → q ∈ alps ls
  | [], _, h => h
  | l :: ls, 0, h => by
    rw [show setL (l :: ls) 0 .nil = .nil :: ls from rfl, alps_cons, List.mem_append] at h
    rw [alps_cons, List.mem_append]
    rcases h with h | h
    · simp [alps] at h
    · exact .inr h
  | l :: ls, c + 1, h => by
    rw [show setL (l :: ls) (c + 1) .nil = l :: setL ls c .nil from rfl, alps_cons, List.mem_append] at h
    rw [alps_cons, List.mem_append]
    exact h.imp id (alps_setNil (c := c))
theorem bps_deep {caps : List Nat} {f : FuncId} (h1 : Deep st st' [.clo f caps]) : ∀ l ∈ caps.map (fun b => Leaf.bp b 0), Deep st st' [l] := by
  intro l hl
  obtain ⟨b, hb, rfl⟩ := List.mem_map.1 hl
  have hcap : b ∈ refs [Leaf.clo f caps] := by simp [refs, hb]
  have hbb : ∀ r ∈ refs [Leaf.bp b 0], r = b := fun r hr => by simpa [refs] using hr
  exact ⟨fun q hq => h1.d1 q (by rw [hbb q hq]; exact hcap), fun r hr => h1.d2 r (by rw [hbb r hr]; exact hcap), fun r hr => h1.d3 r (by rw [hbb r hr]; exact hcap)⟩
theorem caps_deep {caps : List (Bool × Bool × (a : Ty) × a.den)} : ∀ l ∈ caps.map capLeaf, Deep st st' [l] := by
  intro l hl
  obtain ⟨c, hc, rfl⟩ := List.mem_map.1 hl
  have : ∀ q, q ∉ refs [capLeaf c] := by
    intro q hq
    unfold capLeaf at hq
    cases hcc : c.2.1 <;> rw [hcc] at hq <;> simp [refs] at hq
  exact ⟨fun q hq => absurd hq (this q), fun q hq => absurd hq (this q), fun q hq => absurd hq (this q)⟩
theorem getArg_fr {pk : PK} {x : Shape × List Leaf} (h : Deep st st' x.2) : getArg st' pk x = getArg st pk x ∧ ∀ g, getArg st pk x = some g → PlOk st st' g := by
  have hx : ∀ q ∈ alps x.2, st' q = st q := fun q hq => h.d1 q (alps_refs hq)
  have h1 := h.one
  have taking : ∀ {b : Bool} {a : Ty} {g : Got a.den}, (bif b then (takeAll st a x.2).map (fun t => (⟨t.p, t.val, t.frz, t.kill, [], []⟩ : Got a.den)) else none) = some g → PlOk st st' g := by
    intro b a g hg
    cases b with
    | false => simp at hg
    | true =>
      simp only [cond_true, Option.map_eq_some_iff] at hg
      obtain ⟨t, ht, rfl⟩ := hg
      obtain ⟨p1, p2⟩ := takeAll_pl ht
      exact ⟨fun z hz => hx _ (p1 z hz), fun z hz => hx _ (p2 z hz)⟩
  cases pk with
  | rd a =>
    simp only [getArg, gatherAll_fr hx, owned_fr hx, true_and]
    intro g hg
    cases hb : decide (x.1 = shOf a.isAgg) with
    | false => simp [hb] at hg
    | true =>
      simp only [hb, cond_true, Option.map_eq_some_iff] at hg
      obtain ⟨y, _, rfl⟩ := hg
      exact ⟨owned_pl_fr hx, by simp [Got.ofRd]⟩
  | own a =>
    simp only [getArg, takeAll_fr hx, true_and]
    exact fun g hg => taking hg
  | io a =>
    simp only [getArg, takeAll_fr hx, true_and]
    exact fun g hg => taking hg
  | rref a => exact getCap_fr (c := (false, a)) h1
  | rref2 a => exact getCap_fr (c := (true, a)) h1
  | iop a =>
    simp only [getArg]
    split
    · rename_i b hlf
      rw [hlf] at h1
      have hb := h1.d1 b (by simp [refs])
      have h3 : ∀ q ∈ alps (viewFrom b (st b).ver 0 (st b).ls), st' q = st q := by
        intro q hq
        rcases alps_view _ _ _ _ _ hq with rfl | hq
        · exact hb
        · exact h1.d2 b (by simp [refs]) q (alps_refs hq)
      simp only [hb, takeAll_fr h3, true_and]
      intro g hg
      cases hbb : decide ((st b).sh = .agg) with
      | false => simp [hbb] at hg
      | true =>
        simp only [hbb, cond_true, Option.map_eq_some_iff] at hg
        obtain ⟨t, ht, rfl⟩ := hg
        obtain ⟨p1, p2⟩ := takeAll_pl ht
        exact ⟨fun z hz => h3 _ (p1 z hz), fun z hz => h3 _ (p2 z hz)⟩
    · exact ⟨rfl, by simp⟩
  | fn As B =>
    simp only [getArg, true_and]
    intro g hg
    split at hg
    · split at hg
      · simp only [Option.some.injEq] at hg
        subst hg
        exact ⟨by simp, by simp⟩
      · cases hg
    · cases hg
  | clo f cs =>
    simp only [getArg]
    split
    · rename_i f' caps hlf
      rw [hlf] at h1
      have := getCaps_fr cs _ (bps_deep h1)
      rw [this.1]
      refine ⟨rfl, fun g hg => ?_⟩
      cases hb : Nat.beq f' f with
      | false => simp [hb] at hg
      | true => rw [hb] at hg; exact this.2 g hg
    · rename_i f' caps hlf
      have := getCaps_fr (st := st) (st' := st') cs _ (caps_deep (caps := caps))
      rw [this.1]
      refine ⟨rfl, fun g hg => ?_⟩
      cases hb : Nat.beq f' f with
      | false => simp [hb] at hg
      | true => rw [hb] at hg; exact this.2 g hg
    · exact ⟨rfl, by simp⟩
  | hol a c off =>
    simp only [getArg]
    have hset : ∀ q ∈ alps (setL x.2 c .nil), st' q = st q := fun q hq => hx q (alps_setNil (c := c) hq)
    rw [takeAll_fr hset]
    cases hb : decide (x.1 = shOf a.isAgg) with
    | false => exact ⟨rfl, by simp⟩
    | true =>
      simp only [cond_true]
      split
      · rename_i r j v hal
        have hlc : x.2[c]? = some (.al r j v) := by
          rw [List.getD_eq_getElem?_getD] at hal
          cases hq : x.2[c]? with
          | none => rw [hq] at hal; simp at hal
          | some l0 => rw [hq] at hal; simp at hal; rw [hal]
        have hr := fun q hq => hx q (alps_at hlc q hq)
        rw [deref_fr hr]
        refine ⟨rfl, fun g hg => ?_⟩
        split at hg
        · rename_i p i o' E e xs _
          cases hbo : Nat.beq o' off with
          | false => simp [hbo] at hg
          | true =>
            rw [hbo] at hg
            simp only [cond_true] at hg
            split at hg
            · rename_i t ht
              split at hg
              · simp only [Option.some.injEq] at hg
                subst hg
                obtain ⟨p1, p2⟩ := takeAll_pl ht
                refine ⟨fun z hz => hset _ (p1 z hz), fun z hz => ?_⟩
                rcases List.mem_cons.1 hz with rfl | hz
                · exact hr r (by simp [alps])
                · exact hset _ (p2 z hz)
              · cases hg
            · cases hg
        · cases hg
      · exact ⟨rfl, by simp⟩
theorem getArgsBy_fr {ga ga' : (pk : PK) → Shape × List Leaf → Option (Got pk.den)} : ∀ (ps : List PK) (xs : List (Shape × List Leaf)),
    (∀ x ∈ xs, ∀ pk, ga' pk x = ga pk x ∧ ∀ g, ga pk x = some g → PlOk st st' g) →
    getArgsBy ga' ps xs = getArgsBy ga ps xs ∧ ∀ g, getArgsBy ga ps xs = some g → PlOk st st' g
  | [], [], _ => ⟨rfl, fun g hg => by simp only [getArgsBy, Option.some.injEq] at hg; subst hg; exact ⟨by simp, by simp⟩⟩
  | [], _ :: _, _ => ⟨rfl, fun g hg => by simp [getArgsBy] at hg⟩
  | _ :: _, [], _ => ⟨rfl, fun g hg => by simp [getArgsBy] at hg⟩
  | p :: ps, x :: xs, h => by
    obtain ⟨h1, h2⟩ := h x (List.mem_cons_self ..) p
    obtain ⟨h3, h4⟩ := getArgsBy_fr ps xs (fun y hy => h y (List.mem_cons_of_mem _ hy))
    simp only [getArgsBy, h1, h3, true_and]
    intro g hg
    split at hg
    · rename_i g1 hg1
      split at hg
      · rename_i g2 hg2
        simp only [Option.some.injEq] at hg
        subst hg
        exact ⟨fun z hz => (List.mem_append.1 hz).elim ((h2 g1 hg1).1 z) ((h4 g2 hg2).1 z), fun z hz => (List.mem_append.1 hz).elim ((h2 g1 hg1).2 z) ((h4 g2 hg2).2 z)⟩
      · cases hg
    · cases hg
theorem cloFn_fr {As : List Ty} {B : Ty} {f : FuncId} {ls : List Leaf} (h : ∀ l ∈ ls, Deep st st' [l]) : cloFn Γ st' As B f ls = cloFn Γ st As B f ls ∧ ∀ g, cloFn Γ st As B f ls = some g → PlOk st st' g := by
  have hargs := fun (q : List PK) => getArgsBy_fr (st := st) (st' := st') (ga := getArg st) (ga' := getArg st') q (ls.map fun l => (Shape.one, [l])) (fun y hy pk => by
    obtain ⟨l, hl, rfl⟩ := List.mem_map.1 hy
    exact getArg_fr (h l hl))
  unfold cloFn
  split
  · rename_i c hc
    unfold cloGo
    simp only [getArgs, (hargs _).1, true_and]
    intro g hg
    split at hg
    · cases hb : (c.ps.drop As.length).all PK.reads && B.flat && c.fresh with
      | false => simp [hb] at hg
      | true =>
        simp only [hb, cond_true] at hg
        split at hg
        · rename_i g0 hg0
          simp only [Option.some.injEq] at hg
          subst hg
          exact ⟨((hargs _).2 g0 hg0).1, by simp⟩
        · cases hg
    · cases hg
  · exact ⟨rfl, by simp⟩
theorem getArgF_fr {pk : PK} {x : Shape × List Leaf} (h : Deep st st' x.2) : getArgF Γ st' pk x = getArgF Γ st pk x ∧ ∀ g, getArgF Γ st pk x = some g → PlOk st st' g := by
  cases pk with
  | fn As B =>
    simp only [getArgF]
    split
    · rename_i fc hfc
      have hx : (∃ caps, oneLeaf x = .clo fc.1 caps ∧ fc.2 = caps.map fun b => Leaf.bp b 0) ∨ ∃ caps, oneLeaf x = .clr fc.1 caps ∧ fc.2 = caps.map capLeaf := by
        generalize oneLeaf x = l at hfc
        cases l <;> simp only [cloOf, Option.some.injEq, reduceCtorEq] at hfc
        · subst hfc; exact .inl ⟨_, rfl, rfl⟩
        · subst hfc; exact .inr ⟨_, rfl, rfl⟩
      have h1 := h.one
      rcases hx with ⟨caps, hx, he⟩ | ⟨caps, hx, he⟩
      · rw [hx] at h1
        rw [he]
        exact cloFn_fr (bps_deep h1)
      · rw [he]
        exact cloFn_fr caps_deep
    · exact getArg_fr h
  | rd a => exact getArg_fr (pk := .rd a) h
  | own a => exact getArg_fr (pk := .own a) h
  | io a => exact getArg_fr (pk := .io a) h
  | rref a => exact getArg_fr (pk := .rref a) h
  | rref2 a => exact getArg_fr (pk := .rref2 a) h
  | iop a => exact getArg_fr (pk := .iop a) h
  | clo f cs => exact getArg_fr (pk := .clo f cs) h
  | hol a c off => exact getArg_fr (pk := .hol a c off) h
theorem putIo_fr : ∀ (xl ls : List Leaf), st' EPO = st EPO → (∀ q ∈ refs xl, st' q = st q) → putIo st' xl ls = putIo st xl ls
  | [], _, _, _ => by simp [putIo]
  | x :: xl, [], _, _ => by cases x <;> simp [putIo]
  | x :: xl, l :: ls, hE, h => by
    have ih := putIo_fr xl ls hE (fun q hq => h q (by rw [refs_cons]; exact List.mem_append_right _ hq))
    cases x with
    | al r j v =>
      have hr : st' r = st r := h r (by simp [refs])
      simp only [putIo, ih, look_fr hr, look_fr hE]
    | _ => simp only [putIo, ih]
theorem putOuts_fr {p : Bool} : ∀ (ps : List PK) (xs : List (Shape × List Leaf)) (y : Outs ps), st' EPO = st EPO → (∀ x ∈ xs, ∀ q ∈ refs x.2, st' q = st q) → putOuts st' p ps xs y = putOuts st p ps xs y
  | [], _, _, _, _ => by simp [putOuts]
  | pk :: ps, [], y, _, h => by cases pk <;> simp [putOuts]
  | pk :: ps, x :: xs, y, hE, h => by
    have ih := fun (y : Outs ps) => putOuts_fr (p := p) ps xs y hE (fun z hz => h z (List.mem_cons_of_mem _ hz))
    have hx := h x (List.mem_cons_self ..)
    cases pk with
    | io a =>
      simp only [putOuts, ih]
      rw [putIo_fr x.2 _ (look_fr hE _) (fun q hq => look_fr (hx q hq) _)]
    | iop a =>
      simp only [putOuts, ih]
      have hl : ∀ q ∈ refs [oneLeaf x], st' q = st q := fun q hq => hx q (oneLeaf_refs hq)
      congr 1
      split
      · rename_i b v hlf
        rw [hlf] at hl
        rw [look_fr (hl b (by simp [refs]))]
      · rfl
    | _ => exact ih _
theorem refs_setAl {n q : Nat} : ∀ {ls : List Leaf} {k : Nat}, q ∈ refs (setL ls k (.al TMP 0 n)) → q ∈ refs ls ∨ q = TMP
  | [], _, h => .inl h
  | l :: ls, 0, h => by
    rw [show setL (l :: ls) 0 (.al TMP 0 n) = .al TMP 0 n :: ls from rfl, refs_cons, List.mem_append] at h
    rw [refs_cons, List.mem_append]
    rcases h with h | h
    · simp [refs] at h; exact .inr h
    · exact .inl (.inr h)
  | l :: ls, k + 1, h => by
    rw [show setL (l :: ls) (k + 1) (.al TMP 0 n) = l :: setL ls k (.al TMP 0 n) from rfl, refs_cons, List.mem_append] at h
    rw [refs_cons, List.mem_append]
    rcases h with h | h
    · exact .inl (.inl h)
    · exact (refs_setAl h).imp .inr id
theorem deep_upd {U : Upd} {ls0 ls : List Leaf} (hT : st' TMP = st TMP) (hsub : ∀ q, q ≠ TMP → ∀ z ∈ refs (look U st q).ls, z ∈ refs (st q).ls) (htmp : refs (look U st TMP).ls = []) (hx : Deep st st' ls0) (hin : ∀ q ∈ refs ls, q ∈ refs ls0 ∨ q = TMP) :
    Deep (look U st) (look U st') ls := by
  have hne : ∀ r z, z ∈ refs (look U st r).ls → r ≠ TMP := fun r z hz e => by subst e; rw [htmp] at hz; simp at hz
  refine ⟨fun q hq => ?_, fun r hr q hq => ?_, fun r hr r2 hr2 q hq => ?_⟩
  · rcases hin q hq with h | h
    · exact look_fr (hx.d1 q h) U
    · subst h; exact look_fr hT U
  · have h1 := hne r q hq
    exact look_fr (hx.d2 r ((hin r hr).resolve_right h1) q (hsub r h1 q hq)) U
  · have h1 := hne r r2 hr2
    have h2 := hne r2 q hq
    exact look_fr (hx.d3 r ((hin r hr).resolve_right h1) r2 (hsub r h1 r2 hr2) q (hsub r2 h2 q hq)) U
theorem nestArgs_fr (hT : st' TMP = st TMP) (hE : st' EPO = st EPO) : ∀ (ps : List PK) (xs : List (Shape × List Leaf)), (∀ x ∈ xs, Deep st st' x.2) → nestArgs st' ps xs = nestArgs st ps xs ∧
    ∀ (U : Upd) (ys : List (Shape × List Leaf)) (b : Option (Bool × Nat × Nat)), nestArgs st ps xs = some (U, ys, b) → (∀ y ∈ ys, Deep (look U st) (look U st') y.2) ∧ (∀ f r j, b = some (f, r, j) → st' r = st r) ∧ ∀ ls, Deep st st' ls → Deep (look U st) (look U st') ls
  | [], xs, h => ⟨rfl, fun U ys b hn => by
      simp only [nestArgs, Option.some.injEq, Prod.mk.injEq] at hn
      obtain ⟨rfl, rfl, rfl⟩ := hn
      exact ⟨h, (fun _ _ _ h => by cases h), fun _ h => h⟩⟩
  | _ :: _, [], h => ⟨rfl, fun U ys b hn => by
      simp only [nestArgs, Option.some.injEq, Prod.mk.injEq] at hn
      obtain ⟨rfl, rfl, rfl⟩ := hn
      exact ⟨h, (fun _ _ _ h => by cases h), fun _ h => h⟩⟩
  | p :: ps, x :: xs, h => by
    have hx := h x (List.mem_cons_self ..)
    obtain ⟨i1, i2⟩ := nestArgs_fr hT hE ps xs (fun y hy => h y (List.mem_cons_of_mem _ hy))
    simp only [nestArgs]
    cases hk : p.nest x.2 with
    | none =>
      simp only [i1, true_and]
      intro U ys b hn
      simp only [Option.map_eq_some_iff] at hn
      obtain ⟨u, hu, hn⟩ := hn
      simp only [Prod.mk.injEq] at hn
      obtain ⟨rfl, rfl, rfl⟩ := hn
      obtain ⟨j1, j2, j3⟩ := i2 u.1 u.2.1 u.2.2 hu
      refine ⟨fun y hy => ?_, j2, j3⟩
      rcases List.mem_cons.1 hy with rfl | hy
      · exact j3 _ hx
      · exact j1 y hy
    | some k =>
      obtain ⟨l, hlk, hnal⟩ := nest_some hk
      have hg : x.2.getD k .dead = l := by rw [List.getD_eq_getElem?_getD, hlk]; rfl
      have hal : ∀ q ∈ alps [l], st' q = st q := fun q hq => hx.d1 q (alps_refs (alps_at hlk q hq))
      simp only [hg, nestOut_fr hT hE hal, true_and]
      intro U ys b hn
      simp only [Option.map_eq_some_iff] at hn
      obtain ⟨u, hu, hn⟩ := hn
      simp only [Prod.mk.injEq] at hn
      obtain ⟨rfl, rfl, rfl⟩ := hn
      obtain ⟨n, e1, hsub⟩ := nestOut_upd (U := u.1) (l' := u.2) hu
      have htmp := nestOut_tmp (U := u.1) (l' := u.2) hu
      refine ⟨fun y hy => ?_, fun f r j hb => ?_, fun ls hls => deep_upd hT hsub htmp hls (fun q hq => .inl hq)⟩
      · rcases List.mem_cons.1 hy with rfl | hy
        · refine deep_upd hT hsub htmp hx fun q hq => ?_
          have hq : q ∈ refs (setL x.2 k u.2) := hq
          rw [e1] at hq
          exact refs_setAl hq
        · exact deep_upd hT hsub htmp (h y (List.mem_cons_of_mem _ hy)) (fun q hq => .inl hq)
      · simp only [Option.some.injEq, Prod.mk.injEq] at hb
        have hr : r = (placeOf l).1 := by rw [hb.2]
        rw [hr]
        refine hal _ ?_
        cases l with
        | nal p ks ep loc E e xs =>
          cases ks with
          | nil =>
            exfalso
            simp only [nestOut] at hu
            cases hv : validK st [] ep <;> simp [hv] at hu
          | cons k ks => rw [nal_alps]; simp [placeOf]
        | _ => simp [isNal] at hnal
theorem backK_fr {b : Option (Bool × Nat × Nat)} {U : Upd} (hT : st' TMP = st TMP) (hE : st' EPO = st EPO) (hb : ∀ f r j, b = some (f, r, j) → st' r = st r) : backK st' b U κ = backK st b U κ := by
  unfold backK
  split
  · rename_i r j
    rw [look_fr (hb true r j rfl), look_fr hT, look_fr hE]
  · rfl
theorem callK_fr {d : Nat} {f : FuncId} {xs : List (Shape × List Leaf)} (hT : st' TMP = st TMP) (hE : st' EPO = st EPO) (hx : ∀ x ∈ xs, Deep st st' x.2) (hd : st' d = st d) (hB : st' (B0 + d) = st (B0 + d)) : callK Γ st' d f xs κ = callK Γ st d f xs κ := by
  unfold callK
  split
  · rename_i c hc
    obtain ⟨n1, n2⟩ := nestArgs_fr hT hE c.ps xs hx
    rw [nestArgsK_eq, nestArgsK_eq, n1]
    cases hn : nestArgs st c.ps xs with
    | none => rfl
    | some u =>
      obtain ⟨U0, ys, b⟩ := u
      obtain ⟨m1, m2, _⟩ := n2 U0 ys b hn
      simp only [Option.bind_some]
      have hg := getArgsBy_fr (st := look U0 st) (st' := look U0 st') (ga := getArgF Γ (look U0 st)) (ga' := getArgF Γ (look U0 st')) c.ps ys (fun x hx' pk => getArgF_fr (m1 x hx'))
      simp only [getArgsF, hg.1]
      split
      · rename_i g hgg
        obtain ⟨h1, h2⟩ := hg.2 g hgg
        have hbox : boxOk st' d c.rs = boxOk st d c.rs := by
          unfold boxOk
          split
          · rw [hB]
          · rfl
        have hL : ∀ q, look U0 st' q = look U0 st q → ∀ U, look (U ++ U0) st' q = look (U ++ U0) st q := fun q h U => by rw [look_append, look_append]; exact look_fr h U
        have hfz : (bif c.fresh then [] else frzU (look U0 st') g.frz) = (bif c.fresh then [] else frzU (look U0 st) g.frz) := by rw [frzU_fr h1]
        have hk : ∀ (U : Upd), killU (look U (look U0 st')) g.kill = killU (look U (look U0 st)) g.kill := fun U => killU_fr (fun z hz => look_fr (h2 z hz) U)
        have ho : ∀ (U : Upd) (p : Bool) (y : Outs c.ps), putOuts (look (U ++ U0) st') p c.ps ys y = putOuts (look (U ++ U0) st) p c.ps ys y := fun U p y =>
          putOuts_fr c.ps ys y (hL _ (look_fr hE U0) U) (fun x hx' q hq => hL _ ((m1 x hx').d1 q hq) U)
        have hver : ∀ (U : Upd), (g.frz.map fun k => (k.1, k.2, (look (U ++ U0) st' k.1).ver)) = g.frz.map fun k => (k.1, k.2, (look (U ++ U0) st k.1).ver) := fun U => List.map_congr_left fun z hz => by rw [hL _ (h1 z hz) U]
        have hd' : ∀ U, look U st' d = look U st d := fun U => look_fr hd U
        have hB' : ∀ U, look U st' (B0 + d) = look U st (B0 + d) := fun U => look_fr hB U
        have hE' : ∀ U, look U st' EPO = look U st EPO := fun U => look_fr hE U
        simp only [hbox, hfz, hk, ho, hd', hB', hE', ← List.append_assoc, hver, backK_fr hT hE m2]
      · rfl
  · rfl
theorem getTup_fr : ∀ (As : List Ty) (xs : List (Shape × List Leaf)), (∀ x ∈ xs, ∀ q ∈ alps x.2, st' q = st q) → getTup st' As xs = getTup st As xs
  | [], [], _ => rfl
  | [], _ :: _, _ => rfl
  | _ :: _, [], _ => rfl
  | a :: As, x :: xs, h => by
    simp only [getTup, gatherAll_fr (h x (List.mem_cons_self ..)), getTup_fr As xs (fun y hy => h y (List.mem_cons_of_mem _ hy))]
theorem storeEl_fr {r j i off n : Nat} {p : Bool} {E : TypeId} {e : Ty} {xs : List e.den} {h : Option (Nat × Nat)} {ls : List Leaf} (hr : st' r = st r) (hE : st' EPO = st EPO) (hl : ∀ q ∈ alps ls, st' q = st q) : storeEl st' r j i off n p E e xs h ls κ = storeEl st r j i off n p E e xs h ls κ := by
  unfold storeEl
  congr 1
  funext old
  rw [putEl_fr e 0 old ls hl]
  split
  · rename_i t ht
    obtain ⟨p1, p2⟩ := putEl_pl e 0 old ls t ht
    have e1 : frzU st' t.frz = frzU st t.frz := frzU_fr (fun z hz => hl _ (p1 z hz))
    have e2 : ∀ U : Upd, killU (look U st') t.kill = killU (look U st) t.kill := fun U => killU_fr (fun z hz => look_fr (hl _ (p2 z hz)) U)
    simp only [e1, e2, hr, look_fr hE]
  · rfl
end
end Go.Proofs.YtdjmnbdicpgmiaaEv
namespace Go.Proofs.YtdjmnbdicpgmiaaEv
open Go Go.RowKit
section
variable {P : Program} {V : Env} {Γ : List Ctr} {T : TypeId → TI} {st st' : St} {o : Oper} {R : Type} {κ : Upd → Option R} {r : R}
theorem flat_alps {ts : List Nat} (h : ∀ q ∈ ts ++ ts.flatMap (fun t => alps (st t).ls), st' q = st q) {x : Operand} (hx : ∀ t, x = .tmp t → t ∈ ts) : (∀ t, x = .tmp t → st' t = st t) ∧ ∀ q ∈ alps (opnd st x).2, st' q = st q := by
  refine ⟨fun t ht => h t (List.mem_append_left _ (hx t ht)), fun q hq => ?_⟩
  obtain ⟨t, ht, hq⟩ := alps_opnd hq
  rcases hq with rfl | hq
  · exact h q (List.mem_append_left _ (hx q ht))
  · exact h q (List.mem_append_right _ (List.mem_flatMap.2 ⟨t, hx t ht, hq⟩))
theorem flat_refs {ts : List Nat} (h : ∀ q ∈ ts ++ ts.flatMap (fun t => refs (st t).ls), st' q = st q) {x : Operand} (hx : ∀ t, x = .tmp t → t ∈ ts) : (∀ t, x = .tmp t → st' t = st t) ∧ ∀ q ∈ refs (opnd st x).2, st' q = st q := by
  refine ⟨fun t ht => h t (List.mem_append_left _ (hx t ht)), fun q hq => ?_⟩
  obtain ⟨t, ht, hq⟩ := refs_opnd hq
  rcases hq with rfl | hq
  · exact h q (List.mem_append_left _ (hx q ht))
  · exact h q (List.mem_append_right _ (List.mem_flatMap.2 ⟨t, hx t ht, hq⟩))
theorem looks_deep {ts : List Nat} (h : ∀ q ∈ looks st ts, st' q = st q) {x : Operand} (hx : ∀ t, x = .tmp t → t ∈ ts) : Deep st st' (opnd st x).2 := by
  have hts : ∀ q, q ∈ ts → st' q = st q := fun q hq => h q (by simp [looks]; exact .inl hq)
  have ha : ∀ q, q ∈ ts.flatMap (fun t => refs (st t).ls) → st' q = st q := fun q hq => h q (by
    unfold looks
    exact List.mem_append_left _ (List.mem_append_left _ (List.mem_append_right _ hq)))
  have hb : ∀ q, q ∈ (ts.flatMap (fun t => refs (st t).ls)).flatMap (fun t => refs (st t).ls) → st' q = st q := fun q hq => h q (by
    unfold looks
    exact List.mem_append_left _ (List.mem_append_right _ hq))
  have hc : ∀ q, q ∈ ((ts.flatMap (fun t => refs (st t).ls)).flatMap (fun t => refs (st t).ls)).flatMap (fun t => refs (st t).ls) → st' q = st q := fun q hq => h q (by
    unfold looks
    exact List.mem_append_right _ hq)
  have l1 : ∀ r ∈ refs (opnd st x).2, r ∈ ts ∨ r ∈ ts.flatMap (fun t => refs (st t).ls) := by
    intro r hr
    obtain ⟨t, ht, hq⟩ := refs_opnd hr
    rcases hq with rfl | hq
    · exact .inl (hx r ht)
    · exact .inr (List.mem_flatMap.2 ⟨t, hx t ht, hq⟩)
  have l2 : ∀ r ∈ refs (opnd st x).2, ∀ q ∈ refs (st r).ls, q ∈ ts.flatMap (fun t => refs (st t).ls) ∨ q ∈ (ts.flatMap (fun t => refs (st t).ls)).flatMap (fun t => refs (st t).ls) := by
    intro r hr q hq
    rcases l1 r hr with h1 | h1
    · exact .inl (List.mem_flatMap.2 ⟨r, h1, hq⟩)
    · exact .inr (List.mem_flatMap.2 ⟨r, h1, hq⟩)
  refine ⟨fun q hq => (l1 q hq).elim (hts q) (ha q), fun r hr q hq => (l2 r hr q hq).elim (ha q) (hb q), fun r hr r2 hr2 q hq => ?_⟩
  rcases l2 r hr r2 hr2 with h1 | h1
  · exact hb q (List.mem_flatMap.2 ⟨r2, h1, hq⟩)
  · exact hc q (List.mem_flatMap.2 ⟨r2, h1, hq⟩)
theorem ops_mem {xs : Array Operand} {x : Operand} (h : x ∈ xs) : ∀ t, x = .tmp t → t ∈ slotsOf xs.toList := fun t e => slots_mem (by rw [← e]; simpa using h)
theorem op_fr (h : ∀ q ∈ looksOf st o, st' q = st q) (hm : ∀ x, o.op ≠ .move x) (hi : ∀ t x i, o.op ≠ .indexAddr t x i) : ∀ q ∈ opLooks st o.op, st' q = st q := fun q hq => h q (by
  unfold looksOf
  refine List.mem_append_left _ ?_
  cases hop : o.op with
  | move x => exact absurd hop (hm x)
  | indexAddr t x i => exact absurd hop (hi t x i)
  | _ => rw [hop] at hq; exact hq)
theorem idx_any {α β : Type} {xs : List α} {n : Int} {K : Option β} : ((idx xs n).bind fun _ => K) = if 0 ≤ n ∧ n < xs.length then K else none := by
  unfold idx
  by_cases h0 : n < 0
  · rw [if_pos h0, if_neg (by omega)]; rfl
  · rw [if_neg h0]
    by_cases h1 : n.toNat < xs.length
    · rw [List.getElem?_eq_getElem h1, if_pos (by omega)]; rfl
    · rw [List.getElem?_eq_none (by omega), if_neg (by omega)]; rfl
theorem act_fr (h : ∀ q ∈ looksOf st o, st' q = st q) (hh : ∀ q ∈ headLooks st o.op, hCont (st' q) = hCont (st q)) : act Γ T o st' κ = act Γ T o st κ := by
  have hop0 := op_fr h
  have hput : ∀ (U : Upd) (d : Nat) (sh : Shape) (ls : List Leaf), o.dst = some d → putU st' U d sh ls = putU st U d sh ls := fun U d sh ls hd => putU_fr (dst_fr hd h).1
  have hB : ∀ d, o.dst = some d → st' (B0 + d) = st (B0 + d) := fun d hd => (dst_fr hd h).2
  have hw : ∀ (sh : Shape) (ls : List Leaf), wrU o st' κ sh ls = wrU o st κ sh ls := by
    intro sh ls
    unfold wrU
    split
    · rename_i d hd; rw [hput _ _ _ _ hd]
    · rfl
  cases hop : o.op with
  | move x =>
    simp only [hop, headLooks] at hh
    have e : opnd st' x = opnd st x := opnd_h fun t ht => hh t (ops_mem (by simp [Op.operands]) t ht)
    simp only [act, hop, e, hw]
  | assign x =>
    have hop' := hop0 (by simp [hop]) (by simp [hop])
    simp only [hop, opLooks] at hop'
    have hx := flat_alps hop' (x := x) (ops_mem (by simp [Op.operands]))
    have e : opnd st' x = opnd st x := opnd_fr hx.1
    simp only [act, hop, e, mvOk_fr hx.2, taken_fr hx.2, mvU_fr hx.2]
    split
    · rename_i d hd; rw [hput _ _ _ _ hd]
    · rfl
  | pick c x y =>
    have hop' := hop0 (by simp [hop]) (by simp [hop])
    simp only [hop, opLooks] at hop'
    have e1 : one st' c = one st c := one_fr fun t ht => hop' t (ops_mem (by simp [Op.operands]) t ht)
    have e2 : opnd st' x = opnd st x := opnd_fr fun t ht => hop' t (ops_mem (by simp [Op.operands]) t ht)
    have e3 : opnd st' y = opnd st y := opnd_fr fun t ht => hop' t (ops_mem (by simp [Op.operands]) t ht)
    simp only [act, hop, e1, e2, e3, hw]
  | alloc t =>
    simp only [act, hop]
    split
    · rename_i d hd; rw [hput _ _ _ _ hd, hB d hd]
    · rfl
  | box t x =>
    have hop' := hop0 (by simp [hop]) (by simp [hop])
    simp only [hop, opLooks] at hop'
    have hx := flat_alps hop' (x := x) (ops_mem (by simp [Op.operands]))
    have e : opnd st' x = opnd st x := opnd_fr hx.1
    have hlent : lent st' x = lent st x := by cases x <;> first | rfl | (simp only [lent]; rw [hx.1 _ rfl])
    simp only [act, hop, e, mvOk_fr hx.2, taken_fr hx.2, mvU_fr hx.2, hlent]
    split
    · rename_i d hd; simp only [hput _ _ _ _ hd, hB d hd, look_fr (hB d hd)]
    · rfl
  | build t parts =>
    have hop' := hop0 (by simp [hop]) (by simp [hop])
    simp only [hop, opLooks] at hop'
    have hb : ∀ flds ls, buildLs st' flds parts.toList ls = buildLs st flds parts.toList ls := fun flds ls => buildLs_fr _ _ (fun x hx t ht => hop' t (ops_mem (by simp only [Op.operands, List.mem_toArray, List.mem_map]; exact ⟨x, hx, rfl⟩) t ht))
    simp only [act, hop, hw, hb]
  | buildSlice t n parts =>
    have hop' := hop0 (by simp [hop]) (by simp [hop])
    simp only [hop, opLooks] at hop'
    have hx : ∀ x ∈ parts.toList, (∀ t, x.2 = .tmp t → st' t = st t) ∧ ∀ q ∈ alps (opnd st x.2).2, st' q = st q := fun x hx =>
      flat_alps hop' (ops_mem (by simp only [Op.operands, List.mem_toArray, List.mem_map]; exact ⟨x, hx, rfl⟩))
    simp only [act, hop]
    split
    · rw [buildEls_fr _ _ hx]
      split
      · rename_i u hbe
        have hpl := buildEls_pl _ _ _ hbe
        have hst : ∀ z, z ∈ u.frz ∨ z ∈ u.kill → st' z.1 = st z.1 := fun z hz => by
          obtain ⟨x, hx1, hx2⟩ := hpl z hz
          exact (hx x hx1).2 _ hx2
        have e1 : frzU st' u.frz = frzU st u.frz := frzU_fr fun z hz => hst z (.inl hz)
        have e2 : ∀ U : Upd, killU (look U st') u.kill = killU (look U st) u.kill := fun U => killU_fr (fun z hz => look_fr (hst z (.inr hz)) U)
        simp only [e1, e2]
        congr 1
        split
        · rename_i d hd; rw [hput _ _ _ _ hd]
        · rfl
      · rfl
    · rfl
  | load t x =>
    have hop' := hop0 (by simp [hop]) (by simp [hop])
    simp only [hop, opLooks] at hop'
    have hx := flat_refs hop' (x := x) (ops_mem (by simp [Op.operands]))
    have e : one st' x = one st x := one_fr hx.1
    have hr : ∀ q ∈ refs [one st x], st' q = st q := fun q hq => hx.2 q (refs_one hq)
    simp only [act, hop, e, hw]
    congr 1
    split
    · rfl
    · rename_i b off hl
      rw [hl] at hr
      rw [hr b (by simp [refs])]
    · rfl
    · rename_i p ks ep a y off hl
      rw [hl] at hr
      rw [validK_fr (fun q hq => hr q (by simpa [refs] using hq))]
    · rename_i r j v i sz off hl
      rw [hl] at hr
      rw [deref_fr (l := .al r j v) (fun q hq => hr q (by simp [alps] at hq; simp [refs, hq])), hr EPO (by simp [refs])]
    · rfl
  | store t x y =>
    have hop' := hop0 (by simp [hop]) (by simp [hop])
    simp only [hop, opLooks] at hop'
    have hx := flat_refs hop' (x := x) (ops_mem (by simp [Op.operands]))
    have hy := flat_refs hop' (x := y) (ops_mem (by simp [Op.operands]))
    have e : one st' x = one st x := one_fr hx.1
    have e2 : opnd st' y = opnd st y := opnd_fr hy.1
    have hr : ∀ q ∈ refs [one st x], st' q = st q := fun q hq => hx.2 q (refs_one hq)
    have hya : ∀ q ∈ alps (opnd st y).2, st' q = st q := fun q hq => hy.2 q (alps_refs hq)
    simp only [act, hop, e, e2, mvOk_fr hya, taken_fr hya, mvU_fr hya]
    split
    · rfl
    · congr 1
      split
      · rename_i b off hl
        rw [hl] at hr
        have hb := hr b (by simp [refs])
        simp only [hb, look_fr hb]
      · rename_i r j v i sz off hl
        rw [hl] at hr
        have hrr := hr r (by simp [refs])
        rw [deref_fr (l := .al r j v) (fun q hq => hr q (by simp [alps] at hq; simp [refs, hq]))]
        split
        · rw [storeEl_fr hrr (hr EPO (by simp [refs])) hya]
        · rfl
      · rfl
  | nilCheck x =>
    have hop' := hop0 (by simp [hop]) (by simp [hop])
    simp only [hop, opLooks] at hop'
    have hx := flat_alps hop' (x := x) (ops_mem (by simp [Op.operands]))
    have e : one st' x = one st x := one_fr hx.1
    have hr : ∀ q ∈ alps [one st x], st' q = st q := fun q hq => hx.2 q (alps_one hq)
    simp only [act, hop, e, hw]
    split
    · rfl
    · rfl
    · rename_i r j v i sz off hl
      rw [hl] at hr
      rw [hr r (by simp [alps])]
    · rfl
    · rename_i p ks ep a y off hl
      rw [hl, np_alps] at hr
      rw [validK_fr hr]
    · rfl
  | binOp op t x y t' =>
    have hop' := hop0 (by simp [hop]) (by simp [hop])
    simp only [hop, opLooks] at hop'
    have hx := flat_alps hop' (x := x) (ops_mem (by simp [Op.operands]))
    have hy := flat_alps hop' (x := y) (ops_mem (by simp [Op.operands]))
    have e1 : one st' x = one st x := one_fr hx.1
    have e2 : one st' y = one st y := one_fr hy.1
    have e3 : opnd st' x = opnd st x := opnd_fr hx.1
    have e4 : opnd st' y = opnd st y := opnd_fr hy.1
    simp only [act, hop, e1, e2, e3, e4, hw, gatherAll_fr hx.2, gatherAll_fr hy.2]
  | unOp op t x =>
    have hop' := hop0 (by simp [hop]) (by simp [hop])
    simp only [hop, opLooks] at hop'
    have e1 : one st' x = one st x := one_fr fun t ht => hop' t (ops_mem (by simp [Op.operands]) t ht)
    simp only [act, hop, e1, hw]
  | convert s t x =>
    have hop' := hop0 (by simp [hop]) (by simp [hop])
    simp only [hop, opLooks] at hop'
    have hx := flat_alps hop' (x := x) (ops_mem (by simp [Op.operands]))
    have e1 : one st' x = one st x := one_fr hx.1
    have hr : ∀ q ∈ alps [one st x], st' q = st q := fun q hq => hx.2 q (alps_one hq)
    simp only [act, hop, e1, hw]
    split
    · rfl
    · rw [deref_fr hr]
    · rfl
  | makeSlice t n c =>
    have hop' := hop0 (by simp [hop]) (by simp [hop])
    simp only [hop, opLooks] at hop'
    have e1 : one st' n = one st n := one_fr fun t ht => hop' t (ops_mem (by simp [Op.operands]) t ht)
    have e2 : one st' c = one st c := one_fr fun t ht => hop' t (ops_mem (by simp [Op.operands]) t ht)
    simp only [act, hop, e1, e2, hw]
  | slice t x lo hi mx =>
    have hop' := hop0 (by simp [hop]) (by simp [hop])
    simp only [hop, opLooks] at hop'
    have hE := hop' EPO (List.mem_cons_self ..)
    have hop' := fun q hq => hop' q (List.mem_cons_of_mem _ hq)
    have hx := flat_alps hop' (x := x) (ops_mem (by simp [Op.operands]))
    have hlo : ∀ n, boundK st' lo n = boundK st lo n := fun n => boundK_fr fun y hy t ht => hop' t (List.mem_append_left _ (ops_mem (by simp [Op.operands, hy]) t ht))
    have hhi : ∀ n, boundK st' hi n = boundK st hi n := fun n => boundK_fr fun y hy t ht => hop' t (List.mem_append_left _ (ops_mem (by simp [Op.operands, hy]) t ht))
    have e : one st' x = one st x := one_fr hx.1
    have hr : ∀ q ∈ alps [one st x], st' q = st q := fun q hq => hx.2 q (alps_one hq)
    have hmx : ∀ m, mx = some m → boundK st' (some m) 0 = boundK st (some m) 0 := fun m hm => boundK_fr fun y hy t ht => hop' t (List.mem_append_left _ (ops_mem (by simp [Op.operands, hm, Option.some.inj hy]) t ht))
    simp only [act, hop, e, hlo, hhi, deref_fr hr, hE]
    cases hd : o.dst with
    | none => cases mx <;> rfl
    | some d =>
      cases mx with
      | none => simp only [hput _ _ _ _ hd]
      | some m =>
        simp only [hmx m rfl]
        split
        · rename_i r j v _ hl _
          rw [hl] at hr
          rw [deref_fr hr, killU_fr (st := st) (st' := st') (fun z hz => by simp at hz; subst hz; exact hr _ (by simp [alps]))]
          simp only [hput _ _ _ _ hd]
        · rfl
  | fieldAddr t x f =>
    have hop' := hop0 (by simp [hop]) (by simp [hop])
    simp only [hop, opLooks] at hop'
    have hx := flat_alps hop' (x := x) (ops_mem (by simp [Op.operands]))
    have e : one st' x = one st x := one_fr hx.1
    have hr : ∀ q ∈ alps [one st x], st' q = st q := fun q hq => hx.2 q (alps_one hq)
    simp only [act, hop, e, hw]
    split
    · split
      · split
        · rfl
        · rfl
        · rename_i r j v i sz off hl
          rw [hl] at hr
          rw [hr r (by simp [alps])]
        · rename_i p ks ep a y o' hl
          rw [hl, np_alps] at hr
          rw [validK_fr hr]
        · rfl
      · rfl
    · rfl
  | field t x f =>
    have hop' := hop0 (by simp [hop]) (by simp [hop])
    simp only [hop, opLooks] at hop'
    have e1 : opnd st' x = opnd st x := opnd_fr fun t ht => hop' t (ops_mem (by simp [Op.operands]) t ht)
    simp only [act, hop, e1, hw]
  | indexAddr t x i =>
    simp only [hop, headLooks] at hh
    have hsl : ∀ y ∈ (Op.indexAddr t x i).operands, ∀ t, y = .tmp t → hCont (st' t) = hCont (st t) := fun y hy t ht => hh t (List.mem_append_left _ (ops_mem hy t ht))
    have e : one st' x = one st x := one_h (hsl x (by simp [Op.operands]))
    have e2 : one st' i = one st i := one_h (hsl i (by simp [Op.operands]))
    have hr : ∀ q ∈ alps [one st x], hCont (st' q) = hCont (st q) := fun q hq => by
      obtain ⟨t', ht', hq⟩ := alps_opnd (alps_one hq)
      have hts := ops_mem (xs := (Op.indexAddr t x i).operands) (x := x) (by simp [Op.operands]) t' ht'
      rcases hq with rfl | hq
      · exact hh q (List.mem_append_left _ hts)
      · exact hh q (List.mem_append_right _ (List.mem_flatMap.2 ⟨t', hts, hq⟩))
    simp only [act, hop, e, e2, hw]
    split
    · split
      · rfl
      · split
        · rename_i r j v hl
          rw [hl] at hr
          have hq := hr r (by simp [alps])
          have hv : (st' r).ver = (st r).ver := by simp only [hCont, Prod.mk.injEq] at hq; exact hq.1
          simp only [deref, hv]
          cases Nat.beq (st r).ver v with
          | false => rfl
          | true =>
            simp only [cond_true]
            rcases hLeaf_eq (getD_h hq j) with e3 | ⟨p, p', h1, h2, E1, E2, e', e'', xs, xs', e3, e4, e5, e6⟩
            · rw [e3]
            · rw [e3, e4]
              simp only [noNal, e5, idx_any, e6]
        · rfl
        · rename_i p ks ep loc E' e' xs hl
          rw [hl, nal_alps] at hr
          rw [validK_h hr]
        · rfl
      · rfl
    · rfl
  | index t x i =>
    have hop' := hop0 (by simp [hop]) (by simp [hop])
    simp only [hop, opLooks] at hop'
    have hx := flat_alps hop' (x := x) (ops_mem (by simp [Op.operands]))
    have e1 : one st' x = one st x := one_fr hx.1
    have e2 : one st' i = one st i := one_fr (flat_alps hop' (x := i) (ops_mem (by simp [Op.operands]))).1
    have e3 : opnd st' x = opnd st x := opnd_fr hx.1
    simp only [act, hop, e1, e2, e3, hw, fun e n => gatherEls_fr (e := e) n _ hx.2]
  | extract x i =>
    have hop' := hop0 (by simp [hop]) (by simp [hop])
    simp only [hop, opLooks] at hop'
    have e1 : opnd st' x = opnd st x := opnd_fr fun t ht => hop' t (ops_mem (by simp [Op.operands]) t ht)
    simp only [act, hop, e1, hw]
  | makeFunc fn first caps =>
    have hop' := hop0 (by simp [hop]) (by simp [hop])
    simp only [hop, opLooks] at hop'
    cases fn with
    | func f =>
      have : capsOf st' caps.toList = capsOf st caps.toList := caps_fr (st := st) (st' := st') caps.toList (some []) (fun x hx t ht => hop' t (ops_mem (by simp [Op.operands]; exact .inr (by simpa using hx)) t ht))
      simp only [act, hop, hw, this]
    | _ => simp only [act, hop]
  | call c =>
    have hop' := hop0 (by simp [hop]) (by simp [hop])
    simp only [hop, opLooks] at hop'
    simp only [act, hop]
    split
    · rfl
    · rename_i d hd
      obtain ⟨hdd, hdB⟩ := dst_fr hd h
      cases hc : c.callee with
      | value f =>
        simp only [hc] at hop'
        have hT := hop' TMP (List.mem_cons_self ..)
        have hE := hop' EPO (List.mem_cons_of_mem _ (List.mem_cons_self ..))
        have hop' := fun q hq => hop' q (List.mem_cons_of_mem _ (List.mem_cons_of_mem _ hq))
        have hmf : f ∈ (Op.call c).operands := by simp [Op.operands, Call.operands, hc]
        have hma : ∀ x ∈ c.args.toList, x ∈ (Op.call c).operands := fun x hx => by
          simp only [Op.operands, Call.operands, hc, Array.mem_append]
          exact .inr (by simpa using hx)
        have hts : ∀ x ∈ (Op.call c).operands, ∀ t, x = .tmp t → st' t = st t := fun x hx t ht => hop' t (by
          unfold looks
          exact List.mem_append_left _ (List.mem_append_left _ (List.mem_append_left _ (ops_mem hx t ht))))
        have e1 : one st' f = one st f := one_fr (hts f hmf)
        have e2 : c.args.toList.map (opnd st') = c.args.toList.map (opnd st) := List.map_congr_left fun x hx => opnd_fr (hts x (hma x hx))
        have hdeep : ∀ x ∈ c.args.toList.map (opnd st), Deep st st' x.2 := by
          intro x hx
          obtain ⟨y, hy, rfl⟩ := List.mem_map.1 hx
          exact looks_deep hop' (ops_mem (hma y hy))
        simp only [e1, e2]
        split
        · rename_i g caps hl
          refine callK_fr hT hE ?_ hdd hdB
          intro x hx
          rcases List.mem_append.1 hx with hx | hx
          · exact hdeep x hx
          · obtain ⟨b, hb, rfl⟩ := List.mem_map.1 hx
            have hf := looks_deep hop' (ops_mem hmf)
            rw [one_mem hl (by simp)] at hf
            exact bps_deep hf _ (List.mem_map.2 ⟨b, hb, rfl⟩)
        · rename_i g caps hl
          refine callK_fr hT hE ?_ hdd hdB
          intro x hx
          rcases List.mem_append.1 hx with hx | hx
          · exact hdeep x hx
          · obtain ⟨cp, hcp, rfl⟩ := List.mem_map.1 hx
            exact caps_deep _ (List.mem_map.2 ⟨cp, hcp, rfl⟩)
        · rename_i As B φ hl
          rw [getTup_fr As _ (fun x hx q hq => (hdeep x hx).d1 q (alps_refs hq))]
          simp only [hw]
        · rfl
      | builtin b =>
        simp only [hc] at hop'
        have hT := hop' TMP (List.mem_cons_self ..)
        have hop' := fun q hq => hop' q (List.mem_cons_of_mem _ hq)
        have hma : ∀ x ∈ c.args.toList, x ∈ (Op.call c).operands := fun x hx => by
          simp only [Op.operands, Call.operands, hc, Array.mem_append]
          exact .inr (by simpa using hx)
        have hx : ∀ x ∈ c.args.toList, one st' x = one st x ∧ ∀ q ∈ alps [one st x], st' q = st q := fun x hx => by
          have := flat_alps hop' (ops_mem (hma x hx))
          exact ⟨one_fr this.1, fun q hq => this.2 q (alps_one hq)⟩
        cases b with
        | len =>
          dsimp only
          split
          · rename_i x hxx
            have h1 := hx x (by rw [hxx]; simp)
            simp only [h1.1, deref_fr h1.2, hw]
          · rfl
        | append =>
          dsimp only
          split
          · rename_i x y t u hxx _
            have h1 := hx x (by rw [hxx]; simp)
            have h2 := hx y (by rw [hxx]; simp)
            split
            · rw [h1.1, h2.1, appendK_fr hT h1.2 h2.2 hdd]
            · rfl
          · rfl
        | min =>
          dsimp only
          split
          · rename_i x y hxx
            rw [(hx x (by rw [hxx]; simp)).1, (hx y (by rw [hxx]; simp)).1]
            simp only [hw]
          · rfl
        | max =>
          dsimp only
          split
          · rename_i x y hxx
            rw [(hx x (by rw [hxx]; simp)).1, (hx y (by rw [hxx]; simp)).1]
            simp only [hw]
          · rfl
        | _ => rfl
      | invoke x n => rfl
  | _ => simp only [act, hop]
end
end Go.Proofs.YtdjmnbdicpgmiaaEv
namespace Go.Proofs.YtdjmnbdicpgmiaaEv
open Go Go.RowKit
section
variable {P : Program} {V : Env} {Γ : List Ctr} {T : TypeId → TI} {st st' : St} {o : Oper} {R : Type} {all : Array Oper}
def OpRes (Γ : List Ctr) (T : TypeId → TI) (all : Array Oper) (o : Oper) (st : St) (U : Upd) : Prop :=
  match o.guard with
  | none => act Γ T o st some = some U
  | some (j, want) => ∃ t, (all[j]?).bind (·.dst) = some t ∧
      ((∃ b, (st t).sh = .one ∧ (st t).ls = [.bool b] ∧ ((b = want ∧ act Γ T o st some = some U) ∨ (b ≠ want ∧ U = skipU st o))) ∨ ((st t).sh = .und ∧ U = skipU st o))
def OpDone (Γ : List Ctr) (T : TypeId → TI) (all : Array Oper) (o : Oper) (st : St) (U : Upd) (t : Trace) : Prop :=
  ((∀ q ∈ U.map (·.1), q ∈ t.wr ∨ q ∈ t.cw) ∧ (∀ q ∈ t.wr, q ∈ U.map (·.1)) ∧ ∀ q, q ∈ U.map (·.1) → q ∉ t.wr → hCont (look U st q) = hCont (st q)) ∧ match o.guard with
  | none => act Γ T o st some = some U ∧ (∀ q ∈ looksOf st o, q ∈ t.rd) ∧ ∀ q ∈ headLooks st o.op, q ∈ t.hd
  | some (j, want) => ∃ s, (all[j]?).bind (·.dst) = some s ∧ s ∈ t.rd ∧
      ((∃ b, (st s).sh = .one ∧ (st s).ls = [.bool b] ∧ ((b = want ∧ act Γ T o st some = some U ∧ (∀ q ∈ looksOf st o, q ∈ t.rd) ∧ ∀ q ∈ headLooks st o.op, q ∈ t.hd) ∨ (b ≠ want ∧ U = skipU st o ∧ ∀ d, o.dst = some d → d ∈ t.wr))) ∨
        ((st s).sh = .und ∧ U = skipU st o ∧ ∀ d, o.dst = some d → d ∈ t.wr))
theorem set_same {α : Type} : ∀ {l : List α} {j : Nat} {x : α}, l[j]? = some x → l.set j x = l
  | [], _, _, h => by simp at h
  | y :: l, 0, x, h => by simp at h; subst h; rfl
  | y :: l, j + 1, x, h => by rw [List.set_cons_succ, set_same (by simpa using h)]
theorem cont_wr {U : Upd} (h : act Γ T o st some = some U) : ∀ q ∈ contWr st o, hCont (look U st q) = hCont (st q) := by
  intro q hq
  unfold contWr at hq
  split at hq
  · rename_i t x y hop
    split at hq
    · rename_i r j ver i sz off hx
      simp only [List.mem_singleton] at hq
      subst hq
      simp only [act, wrU, hop] at h
      split at h
      · cases h
      · cases hb : Nat.beq (opnd st y).2.length (T t).cells && decide ((opnd st y).1 = shOf (T t).agg) && !decide ((T t).cells = 0) with
        | false => simp [hb] at h
        | true =>
          simp only [hb, cond_true, hx] at h
          split at h
          · rename_i p hh E e xs hd
            cases hc : Nat.beq sz e.cells && decide (off + (opnd st y).2.length ≤ e.cells) && plain q with
            | false => simp [hc] at h
            | true =>
              simp only [hc, cond_true] at h
              obtain ⟨_, hl⟩ := deref_al hd (by simp)
              have key : ∀ (p' : Bool) (hh' : Option (Nat × Nat)) (v : e.den) (X : Upd), hCont (look ((q, ⟨(st q).ver, (st q).sh, setL (st q).ls j (.own p' hh' E e (xs.set i v))⟩) :: X) st q) = hCont (st q) := by
                intro p' hh' v X
                rw [look_cons, look_same]
                simp only [hCont, setL]
                rw [List.map_set, set_same]
                rw [List.getElem?_map, hl]
                simp [hLeaf]
              unfold storeEl at h
              obtain ⟨old, _, h⟩ := Option.bind_eq_some_iff.1 h
              split at h
              · rename_i t _
                cases hd2 : t.rest.isEmpty && distinct t.kill && apartK t.frz t.kill && !((t.kill ++ t.frz).any fun k => Nat.beq k.1 q) with
                | false => rw [hd2] at h; cases h
                | true =>
                  simp only [hd2, cond_true] at h
                  cases hh with
                  | none =>
                    simp only [Option.some.injEq] at h
                    rw [← h]
                    exact key _ _ _ _
                  | some hp =>
                    obtain ⟨hi, ho⟩ := hp
                    simp only at h
                    cases h1 : Nat.ble off ho && Nat.blt ho (off + (opnd st y).2.length) with
                    | false =>
                      rw [h1] at h
                      simp only [cond_false, Option.some.injEq] at h
                      rw [← h]
                      exact key _ _ _ _
                    | true =>
                      rw [h1] at h
                      simp only [cond_true] at h
                      cases h2 : Nat.beq i hi <;> rw [h2] at h <;> simp only [cond_true, cond_false, Option.some.injEq] at h <;> rw [← h] <;> exact key _ _ _ _
              · cases h
          · cases h
    · simp at hq
  · simp at hq
theorem lit_same {t : Nat} {b : Bool} (h1 : (st t).sh = .one) (h2 : (st t).ls = [.bool b]) : lit st t b = st := by
  funext q
  unfold lit
  rcases look_cases t q ⟨(st t).ver, .one, [.bool b]⟩ st with ⟨rfl, e⟩ | ⟨_, e⟩
  · rw [e, ← h1, ← h2]
  · exact e
theorem wr_ok {U : Upd} (h : act Γ T o st some = some U) : (∀ q ∈ U.map (·.1), q ∈ (U.map (·.1)).filter (fun q => !((contWr st o).any (Nat.beq q))) ∨ q ∈ contWr st o) ∧ (∀ q ∈ (U.map (·.1)).filter (fun q => !((contWr st o).any (Nat.beq q))), q ∈ U.map (·.1)) ∧
    ∀ q, q ∈ U.map (·.1) → q ∉ (U.map (·.1)).filter (fun q => !((contWr st o).any (Nat.beq q))) → hCont (look U st q) = hCont (st q) := by
  have hany : ∀ q, (contWr st o).any (Nat.beq q) = true → q ∈ contWr st o := fun q hq => by
    obtain ⟨x, hx, he⟩ := List.any_eq_true.1 hq
    rw [Nat.eq_of_beq_eq_true he]; exact hx
  refine ⟨fun q hq => ?_, fun q hq => (List.mem_filter.1 hq).1, fun q hq hn => ?_⟩
  · cases hc : (contWr st o).any (Nat.beq q) with
    | true => exact .inr (hany q hc)
    | false => exact .inl (List.mem_filter.2 ⟨hq, by rw [hc]; rfl⟩)
  · refine cont_wr h q (hany q ?_)
    cases hc : (contWr st o).any (Nat.beq q) with
    | true => rfl
    | false => exact absurd (List.mem_filter.2 ⟨hq, by rw [hc]; rfl⟩) hn
theorem opK_res {κ : St → Trace → Option R} {r : R} (h : opK Γ T all o st κ = some r) : ∃ U t, OpDone Γ T all o st U t ∧ κ (look U st) t = some r := by
  have hgo : ∀ (more : List Nat), act Γ T o st (fun U => κ (look U st) ⟨more ++ looksOf st o, headLooks st o.op, (U.map (·.1)).filter (fun q => !((contWr st o).any (Nat.beq q))), contWr st o⟩) = some r →
      ∃ U, act Γ T o st some = some U ∧ κ (look U st) ⟨more ++ looksOf st o, headLooks st o.op, (U.map (·.1)).filter (fun q => !((contWr st o).any (Nat.beq q))), contWr st o⟩ = some r := by
    intro more h
    rw [act_bind] at h
    obtain ⟨U, h1, h2⟩ := Option.bind_eq_some_iff.1 h
    exact ⟨U, h1, h2⟩
  have hskip : ((∀ q ∈ (skipU st o).map (·.1), q ∈ o.dst.toList ∨ q ∈ ([] : List Nat)) ∧ (∀ q ∈ o.dst.toList, q ∈ (skipU st o).map (·.1)) ∧ ∀ q, q ∈ (skipU st o).map (·.1) → q ∉ o.dst.toList → hCont (look (skipU st o) st q) = hCont (st q)) := by
    unfold skipU
    cases o.dst with
    | none => simp
    | some d => simp
  unfold opK at h
  unfold OpDone
  cases hg : o.guard with
  | none =>
    simp only [hg] at h
    obtain ⟨U, h1, h2⟩ := hgo [] h
    exact ⟨U, _, ⟨wr_ok h1, h1, fun q hq => by simpa using hq, fun q hq => hq⟩, h2⟩
  | some jw =>
    obtain ⟨j, want⟩ := jw
    simp only [hg] at h
    split at h
    · rename_i t ht
      have hdst : ∀ d, o.dst = some d → d ∈ o.dst.toList := fun d hd => by simp [hd]
      split at h
      · rename_i b hsh hls
        have hl : ∀ b', b' = b → lit st t b' = st := fun b' e => lit_same hsh (by rw [hls, e])
        cases b with
        | true =>
          simp only [cond_true, hl true rfl] at h
          cases want with
          | true =>
            simp only [cond_true] at h
            obtain ⟨U, h1, h2⟩ := hgo [t] h
            exact ⟨U, _, ⟨wr_ok h1, t, ht, by simp, .inl ⟨true, hsh, hls, .inl ⟨rfl, h1, fun q hq => List.mem_append_right _ hq, fun q hq => hq⟩⟩⟩, h2⟩
          | false =>
            simp only [cond_false] at h
            exact ⟨skipU st o, _, ⟨hskip, t, ht, by simp, .inl ⟨true, hsh, hls, .inr ⟨by simp, rfl, hdst⟩⟩⟩, h⟩
        | false =>
          simp only [cond_false, hl false rfl] at h
          cases want with
          | true =>
            simp only [cond_true] at h
            exact ⟨skipU st o, _, ⟨hskip, t, ht, by simp, .inl ⟨false, hsh, hls, .inr ⟨by simp, rfl, hdst⟩⟩⟩, h⟩
          | false =>
            simp only [cond_false] at h
            obtain ⟨U, h1, h2⟩ := hgo [t] h
            exact ⟨U, _, ⟨wr_ok h1, t, ht, by simp, .inl ⟨false, hsh, hls, .inl ⟨rfl, h1, fun q hq => List.mem_append_right _ hq, fun q hq => hq⟩⟩⟩, h2⟩
      · rename_i hsh
        exact ⟨skipU st o, _, ⟨hskip, t, ht, by simp, .inr ⟨hsh, rfl, hdst⟩⟩, h⟩
      · cases h
    · cases h
theorem skip_fr {U : Upd} (e : U = skipU st o) (hd : ∀ d, o.dst = some d → st' d = st d) : U = skipU st' o := by
  rw [e]
  unfold skipU
  cases hdd : o.dst with
  | none => rfl
  | some d => simp only [hd d hdd]
theorem OpDone.frame {U : Upd} {t : Trace} (h : OpDone Γ T all o st U t) (hs : ∀ q, q ∈ t.rd ∨ q ∈ t.wr → st' q = st q) (hh : ∀ q ∈ t.hd, hCont (st' q) = hCont (st q)) : OpRes Γ T all o st' U := by
  obtain ⟨_, h⟩ := h
  have hact : act Γ T o st some = some U → (∀ q ∈ looksOf st o, q ∈ t.rd) → (∀ q ∈ headLooks st o.op, q ∈ t.hd) → act Γ T o st' some = some U := by
    intro h1 h2 h3
    rw [act_fr (fun q hq => hs q (.inl (h2 q hq))) (fun q hq => hh q (h3 q hq))]
    exact h1
  unfold OpRes
  cases hg : o.guard with
  | none =>
    rw [hg] at h
    exact hact h.1 h.2.1 h.2.2
  | some jw =>
    obtain ⟨j, want⟩ := jw
    rw [hg] at h
    obtain ⟨s, h1, h2, h3⟩ := h
    have hss := hs s (.inl h2)
    refine ⟨s, h1, ?_⟩
    rw [hss]
    rcases h3 with ⟨b, h4, h5, h6⟩ | ⟨h4, h5, h6⟩
    · refine .inl ⟨b, h4, h5, ?_⟩
      rcases h6 with ⟨h7, h8, h9, h10⟩ | ⟨h7, h8, h9⟩
      · exact .inl ⟨h7, hact h8 h9 h10⟩
      · exact .inr ⟨h7, skip_fr h8 (fun d hd => hs d (.inr (h9 d hd)))⟩
    · exact .inr ⟨h4, skip_fr h5 (fun d hd => hs d (.inr (h6 d hd)))⟩
theorem op_ok (hV : EnvOk V) (hT : TOk P T) (hΓ : ∀ c ∈ Γ, Sound P c) {ops : Array Oper} {i : Nat} (hi : ops[i]? = some o) (hok : DstOk V o) (hguard : ∀ j want, o.guard = some (j, want) → ∀ s, (ops[j]?).bind (·.dst) = some s → s < V.nt)
    {U : Upd} (h : OpRes Γ T ops o st U) {a : Act} {w : World} (hr : Rel P V st a w) {K : Act → World → Prop} {Q : Exit → Act → World → Prop} (hK : ∀ a' w', Rel P V (look U st) a' w' → K a' w') : wpOp P ops Q i K a w := by
  obtain ⟨W, hr⟩ := hr
  unfold wpOp
  simp only [hi]
  have hgo : act Γ T o st some = some U → o.wp P a w K Q := by
    intro h1
    obtain ⟨U', h2, h3⟩ := act_ok hV hT hΓ hok h1
    cases h2
    exact h3 W a w hr K Q hK
  have hskip : U = skipU st o → K (a.put o.dst undef) w := by
    intro e
    refine hK _ _ ?_
    subst e
    unfold skipU
    cases hd : o.dst with
    | none => exact ⟨W, hr⟩
    | some d => exact hr.putLs hV d (hok d hd).1 (hok d hd).2 _ .und [] undef [] (Nat.lt_succ_self _) ⟨rfl, rfl⟩ trivial
  unfold OpRes at h
  cases hg : o.guard with
  | none =>
    rw [hg] at h
    have hw : Region.wanted o (yielded ops a.tmps) = true := by simp [Region.wanted, hg]
    rw [if_pos hw]
    exact .inl (hgo h)
  | some jw =>
    obtain ⟨j, want⟩ := jw
    rw [hg] at h
    obtain ⟨s, h1, h2⟩ := h
    have hsn := hguard j want hg s h1
    have hsB : s < GH := Nat.lt_of_lt_of_le hsn hV.nt
    have hslot := hr.slots s hsB
    have hsz : s < a.tmps.size := by rw [hr.nt]; exact hsn
    have hget : a.tmps[s]? = some (a.tmps.getD s undef) := by
      rw [Array.getD_eq_getD_getElem?, Array.getElem?_eq_getElem hsz]
      rfl
    rcases h2 with ⟨b, h3, h4, h5⟩ | ⟨h3, h5⟩
    · have hlen := hr.len s
      rw [h4] at hlen
      rw [h3] at hslot
      have hslot : W.cs s = [a.tmps.getD s undef] := hslot
      have hv := hr.leaf s 0 (.bool b) (a.tmps.getD s undef) (by rw [h4]; rfl) (by rw [hslot]; rfl)
      have hv : a.tmps.getD s undef = .bool b := hv
      have hy : yielded ops a.tmps j = some b := by simp [yielded, h1, hget, hv]
      rcases h5 with ⟨rfl, h6⟩ | ⟨h6, h7⟩
      · have hw : Region.wanted o (yielded ops a.tmps) = true := by simp [Region.wanted, hg, hy]
        rw [if_pos hw]
        exact .inl (hgo h6)
      · have hw : Region.wanted o (yielded ops a.tmps) = false := by
          simp only [Region.wanted, hg, hy]
          cases b <;> cases want <;> simp at h6 <;> rfl
        rw [hw]
        exact hskip h7
    · rw [h3] at hslot
      obtain ⟨hv, _⟩ := hslot
      have hy : yielded ops a.tmps j = none := by
        unfold yielded
        rw [h1, Option.bind_some, hget, hv]
        rfl
      have hw : Region.wanted o (yielded ops a.tmps) = false := by simp [Region.wanted, hg, hy]
      rw [hw]
      exact hskip h5
def Run (Γ : List Ctr) (T : TypeId → TI) (all : Array Oper) : St → List Oper → List Upd → List Trace → St → Prop
  | st, [], [], [], st' => st' = st
  | st, o :: os, U :: us, t :: ts, st' => OpDone Γ T all o st U t ∧ Run Γ T all (look U st) os us ts st'
  | _, _, _, _, _ => False
theorem opsK_run : ∀ (os : List Oper) (st : St) (ts : List Trace) (κ : St → List Trace → Option R) (r : R), opsK Γ T all os st ts κ = some r →
    ∃ us ts' st', Run Γ T all st os us ts' st' ∧ κ st' (ts ++ ts') = some r
  | [], st, ts, κ, r, h => ⟨[], [], st, rfl, by simpa [opsK] using h⟩
  | o :: os, st, ts, κ, r, h => by
    simp only [opsK] at h
    obtain ⟨U, t, h1, h2⟩ := opK_res h
    obtain ⟨us, ts', st', h3, h4⟩ := opsK_run os (look U st) (ts ++ [t]) κ r h2
    exact ⟨U :: us, t :: ts', st', ⟨h1, h3⟩, by rw [List.append_assoc] at h4; exact h4⟩
theorem OpDone.res {U : Upd} {t : Trace} (h : OpDone Γ T all o st U t) : OpRes Γ T all o st U := h.frame (fun _ _ => rfl) (fun _ _ => rfl)
theorem text_ok (hV : EnvOk V) (hT : TOk P T) (hΓ : ∀ c ∈ Γ, Sound P c) {ops : Array Oper} (hok : ∀ (i : Nat) (o : Oper), ops[i]? = some o → DstOk V o)
    (hguard : ∀ (i : Nat) (o : Oper), ops[i]? = some o → ∀ j want, o.guard = some (j, want) → ∀ s, (ops[j]?).bind (·.dst) = some s → s < V.nt) {Q : Exit → Act → World → Prop} :
    ∀ (os : List Oper) (k : Nat) (st : St) (us : List Upd) (ts : List Trace) (st' : St), ops.toList.drop k = os → Run Γ T ops st os us ts st' → (∀ a w, Rel P V st' a w → Q .normal a w) →
      ∀ a w, Rel P V st a w → wpOps P ops Q (List.range' k os.length) a w
  | [], k, st, [], [], st', _, h, hQ, a, w, hr => by
    have h : st' = st := h
    subst h
    exact hQ a w hr
  | o :: os, k, st, U :: us, t :: ts, st', hk, h, hQ, a, w, hr => by
    obtain ⟨h1, h2⟩ := h
    have hi : ops[k]? = some o := by
      have : (ops.toList.drop k)[0]? = some o := by rw [hk]; rfl
      rw [List.getElem?_drop] at this
      simpa using this
    rw [List.length_cons, List.range'_succ, wpOps_cons]
    refine op_ok hV hT hΓ hi (hok k o hi) (hguard k o hi) h1.res hr (fun a' w' hr' => ?_)
    exact text_ok hV hT hΓ hok hguard os (k + 1) (look U st) us ts st' (by rw [← List.drop_drop, hk]; rfl) h2 hQ a' w' hr'
end
end Go.Proofs.YtdjmnbdicpgmiaaEv
namespace Go.Proofs.YtdjmnbdicpgmiaaEv
open Go Go.RowKit
section
variable {P : Program} {V : Env} {Γ : List Ctr} {T : TypeId → TI} {st st' : St} {o : Oper} {R : Type} {all : Array Oper}
def stAt (D : Nat → Bool) : List Upd → St → St
  | [], st => st
  | U :: us, st => stAt (fun j => D (j + 1)) us (bif D 0 then look U st else st)
theorem look_in {q : Nat} : ∀ {U : Upd} (s s' : St), q ∈ U.map (·.1) → look U s q = look U s' q
  | [], _, _, h => by simp at h
  | (r, c) :: U, s, s', h => by
    simp only [look]
    cases hb : Nat.beq q r with
    | true => rfl
    | false =>
      simp only [cond_false]
      refine look_in s s' ?_
      simp only [List.map_cons, List.mem_cons] at h
      rcases h with rfl | h
      · simp at hb
      · exact h
theorem look_out {q : Nat} : ∀ {U : Upd} (s : St), q ∉ U.map (·.1) → look U s q = s q
  | [], _, _ => rfl
  | (r, c) :: U, s, h => by
    simp only [List.map_cons, List.mem_cons, not_or] at h
    have hb : Nat.beq q r = false := by
      cases hb : Nat.beq q r with
      | false => rfl
      | true => exact absurd (Nat.eq_of_beq_eq_true hb) h.1
    simp only [look, hb, cond_false]
    exact look_out s h.2
theorem look_comm {U U' : Upd} (h : ∀ q, q ∈ U.map (·.1) → q ∉ U'.map (·.1)) (s : St) : look U' (look U s) = look U (look U' s) := by
  funext q
  by_cases h1 : q ∈ U.map (·.1)
  · rw [look_out _ (h q h1)]
    exact look_in _ _ h1
  · rw [look_out (U := U) _ h1]
    by_cases h2 : q ∈ U'.map (·.1)
    · exact look_in _ _ h2
    · rw [look_out _ h2, look_out _ h2, look_out _ h1]
theorem stAt_congr : ∀ {us : List Upd} {D D' : Nat → Bool} {s : St}, (∀ j, j < us.length → D j = D' j) → stAt D us s = stAt D' us s
  | [], _, _, _, _ => rfl
  | U :: us, D, D', s, h => by
    simp only [stAt]
    rw [h 0 (by simp)]
    exact stAt_congr (fun j hj => h (j + 1) (by simpa using hj))
theorem stAt_none : ∀ {us : List Upd} {D : Nat → Bool} {s : St}, (∀ j, D j = false) → stAt D us s = s
  | [], _, _, _ => rfl
  | U :: us, D, s, h => by
    simp only [stAt, h 0, cond_false]
    exact stAt_none (fun j => h (j + 1))
theorem stAt_agree {q : Nat} : ∀ {us : List Upd} {D D' : Nat → Bool} {s s' : St}, s q = s' q → (∀ (j : Nat) (U : Upd), us[j]? = some U → q ∈ U.map (·.1) → D j = D' j) → stAt D us s q = stAt D' us s' q
  | [], _, _, _, _, h, _ => h
  | U :: us, D, D', s, s', h, H => by
    simp only [stAt]
    refine stAt_agree ?_ (fun j U' h1 h2 => H (j + 1) U' (by simpa using h1) h2)
    by_cases hq : q ∈ U.map (·.1)
    · rw [H 0 U rfl hq]
      cases D' 0 with
      | true => exact look_in _ _ hq
      | false => exact h
    · have e1 : ∀ b : Bool, (bif b then look U s else s) q = s q := by intro b; cases b <;> simp [look_out _ hq]
      have e2 : ∀ b : Bool, (bif b then look U s' else s') q = s' q := by intro b; cases b <;> simp [look_out _ hq]
      rw [e1, e2, h]
theorem stAt_look {U : Upd} : ∀ {us : List Upd} {D : Nat → Bool} {s : St}, (∀ (j : Nat) (U' : Upd), us[j]? = some U' → D j = true → ∀ q, q ∈ U.map (·.1) → q ∉ U'.map (·.1)) → stAt D us (look U s) = look U (stAt D us s)
  | [], _, _, _ => rfl
  | U' :: us, D, s, h => by
    simp only [stAt]
    cases hD : D 0 with
    | true =>
      simp only [cond_true]
      rw [look_comm (h 0 U' rfl hD)]
      exact stAt_look (fun j U'' h1 h2 => h (j + 1) U'' (by simpa using h1) h2)
    | false =>
      simp only [cond_false]
      exact stAt_look (fun j U'' h1 h2 => h (j + 1) U'' (by simpa using h1) h2)
theorem stAt_insert {U : Upd} : ∀ {us : List Upd} {i : Nat} {D D' : Nat → Bool} {s : St}, us[i]? = some U → D i = false → (∀ j, D' j = (D j || Nat.beq j i)) →
    (∀ (j : Nat) (U' : Upd), us[j]? = some U' → i < j → D j = true → ∀ q, q ∈ U.map (·.1) → q ∉ U'.map (·.1)) → stAt D' us s = look U (stAt D us s)
  | [], i, _, _, _, h, _, _, _ => by simp at h
  | V :: us, 0, D, D', s, h, hD, hD', H => by
    simp at h
    subst h
    simp only [stAt]
    have h0 : D' 0 = true := by rw [hD' 0]; simp
    rw [h0, hD]
    simp only [cond_true, cond_false]
    have e : stAt (fun j => D' (j + 1)) us (look V s) = stAt (fun j => D (j + 1)) us (look V s) := stAt_congr (fun j _ => by rw [hD' (j + 1)]; simp [Nat.beq])
    rw [e]
    exact stAt_look (fun j U' h1 h2 => H (j + 1) U' (by simpa using h1) (by omega) h2)
  | V :: us, i + 1, D, D', s, h, hD, hD', H => by
    simp only [stAt]
    have h0 : D' 0 = D 0 := by rw [hD' 0]; simp [Nat.beq]
    rw [h0]
    exact stAt_insert (i := i) (by simpa using h) hD (fun j => by rw [hD' (j + 1)]; simp [Nat.beq]) (fun j U' h1 h2 h3 => H (j + 1) U' (by simpa using h1) (by omega) h3)
theorem run_get : ∀ {os : List Oper} {us : List Upd} {ts : List Trace} {s s' : St}, Run Γ T all s os us ts s' → ∀ (i : Nat) (o : Oper), os[i]? = some o →
    ∃ U t, us[i]? = some U ∧ ts[i]? = some t ∧ OpDone Γ T all o (stAt (fun j => decide (j < i)) us s) U t
  | [], _, _, _, _, _, i, o, h => by simp at h
  | o' :: os, [], _, _, _, h, _, _, _ => h.elim
  | o' :: os, _ :: _, [], _, _, h, _, _, _ => h.elim
  | o' :: os, U :: us, t :: ts, s, s', h, 0, o, hi => by
    simp at hi
    subst hi
    exact ⟨U, t, rfl, rfl, by rw [stAt_none (fun j => by simp)]; exact h.1⟩
  | o' :: os, U :: us, t :: ts, s, s', h, i + 1, o, hi => by
    obtain ⟨U', t', h1, h2, h3⟩ := run_get h.2 i o (by simpa using hi)
    refine ⟨U', t', by simpa using h1, by simpa using h2, ?_⟩
    simp only [stAt]
    have e : (fun j => decide (j + 1 < i + 1)) = fun j => decide (j < i) := by funext j; simp
    rw [e]
    simpa using h3
theorem run_len : ∀ {os : List Oper} {us : List Upd} {ts : List Trace} {s s' : St}, Run Γ T all s os us ts s' → us.length = os.length ∧ ts.length = os.length ∧ s' = stAt (fun _ => true) us s
  | [], [], [], _, _, h => ⟨rfl, rfl, h⟩
  | [], _ :: _, _, _, _, h => h.elim
  | [], [], _ :: _, _, _, h => h.elim
  | _ :: _, [], _, _, _, h => h.elim
  | _ :: _, _ :: _, [], _, _, h => h.elim
  | o :: os, U :: us, t :: ts, s, s', h => by
    obtain ⟨h1, h2, h3⟩ := run_len h.2
    exact ⟨by simp [h1], by simp [h2], by simpa [stAt] using h3⟩
theorem hdr_run {q : Nat} : ∀ {os : List Oper} {us : List Upd} {ts : List Trace} {sT s' : St} {D : Nat → Bool} {F : Nat → Bool} {s sF : St} {B : Prop}, Run Γ T all sT os us ts s' → (∀ (j : Nat) (t : Trace), ts[j]? = some t → F j = decide (q ∈ t.wr)) →
    hCont (s q) = hCont (sF q) → (B → hCont (sF q) = hCont (sT q)) →
    (∀ (j : Nat) (t : Trace) (U : Upd), ts[j]? = some t → us[j]? = some U → D j = true → q ∉ t.wr → q ∈ U.map (·.1) → B ∧ ∀ (k : Nat) (t' : Trace), k < j → ts[k]? = some t' → q ∈ t'.wr → D k = true) →
    hCont (stAt D us s q) = hCont (stAt (fun j => D j && F j) us sF q)
  | [], [], [], _, _, _, _, _, _, _, _, _, h1, _, _ => h1
  | [], _ :: _, _, _, _, _, _, _, _, _, h, _, _, _, _ => h.elim
  | [], [], _ :: _, _, _, _, _, _, _, _, h, _, _, _, _ => h.elim
  | _ :: _, [], _, _, _, _, _, _, _, _, h, _, _, _, _ => h.elim
  | _ :: _, _ :: _, [], _, _, _, _, _, _, _, h, _, _, _, _ => h.elim
  | o :: os, U :: us, t :: ts, sT, s', D, F, s, sF, B, h, hF, h1, h2, hcl => by
    obtain ⟨⟨⟨k1, k2, k3⟩, _⟩, hrun⟩ := h
    have hF0 := hF 0 t rfl
    simp only [stAt]
    refine hdr_run (F := fun j => F (j + 1)) (B := B ∧ (q ∈ t.wr → D 0 = true)) hrun (fun j t' ht => hF (j + 1) t' (by simpa using ht)) ?_ ?_ ?_
    · by_cases hq : q ∈ U.map (·.1)
      · by_cases hw : q ∈ t.wr
        · rw [hF0, decide_eq_true hw, Bool.and_true]
          cases D 0 with
          | true => simp only [cond_true]; rw [look_in s sF hq]
          | false => exact h1
        · rw [hF0, decide_eq_false hw, Bool.and_false]
          simp only [cond_false]
          cases hD : D 0 with
          | true =>
            simp only [cond_true]
            rw [look_in s sT hq, k3 q hq hw]
            exact (h2 (hcl 0 t U rfl rfl hD hw hq).1).symm
          | false => exact h1
      · have e : ∀ (b : Bool) (x : St), (bif b then look U x else x) q = x q := by intro b x; cases b <;> simp [look_out _ hq]
        rw [e, e]
        exact h1
    · rintro ⟨hB, hD⟩
      by_cases hq : q ∈ U.map (·.1)
      · by_cases hw : q ∈ t.wr
        · rw [hF0, decide_eq_true hw, Bool.and_true, hD hw]
          simp only [cond_true]
          rw [look_in sF sT hq]
        · rw [hF0, decide_eq_false hw, Bool.and_false]
          simp only [cond_false]
          rw [k3 q hq hw]
          exact h2 hB
      · have e : ∀ (b : Bool) (x : St), (bif b then look U x else x) q = x q := by intro b x; cases b <;> simp [look_out _ hq]
        rw [e, look_out _ hq]
        exact h2 hB
    · intro j t' U' ht hU hD hw hq
      obtain ⟨g1, g2⟩ := hcl (j + 1) t' U' (by simpa using ht) (by simpa using hU) hD hw hq
      exact ⟨⟨g1, fun hw0 => g2 0 t (by omega) rfl hw0⟩, fun k t2 hk ht2 hw2 => g2 (k + 1) t2 (by omega) (by simpa using ht2) hw2⟩
theorem fold_bits {f : Nat → Nat} {i : Nat} : ∀ (l : List Edge) (s : Nat), (l.foldl (fun s e => bif Region.binds .any e then s ||| 2 ^ e.on ||| f e.on else s) s).testBit i = true →
    s.testBit i = true ∨ ∃ e ∈ l, Region.binds .any e = true ∧ (i = e.on ∨ (f e.on).testBit i = true)
  | [], s, h => .inl h
  | e :: l, s, h => by
    simp only [List.foldl_cons] at h
    rcases fold_bits l _ h with h | ⟨e', h1, h2⟩
    · cases hb : Region.binds .any e with
      | false => rw [hb] at h; exact .inl h
      | true =>
        rw [hb] at h
        simp only [cond_true, Nat.testBit_or, Bool.or_eq_true] at h
        rcases h with (h | h) | h
        · exact .inl h
        · refine .inr ⟨e, List.mem_cons_self .., hb, .inl ?_⟩
          rw [Nat.testBit_two_pow] at h
          exact (of_decide_eq_true h).symm
        · exact .inr ⟨e, List.mem_cons_self .., hb, .inr h⟩
    · exact .inr ⟨e', List.mem_cons_of_mem _ h1, h2⟩
theorem befs_get : ∀ (os : List Oper) (acc : List Nat), (∀ j, j < acc.length → (befs os acc).getD j 0 = acc.getD j 0) ∧
    ∀ (k : Nat) (o : Oper), os[k]? = some o → ∃ acc' : List Nat, acc'.length = acc.length + k ∧ (∀ j, j < acc'.length → acc'.getD j 0 = (befs os acc).getD j 0) ∧
      (befs os acc).getD (acc.length + k) 0 = o.after.toList.foldl (fun s e => bif Region.binds .any e then s ||| 2 ^ e.on ||| acc'.getD e.on 0 else s) 0
  | [], acc => ⟨fun _ _ => rfl, fun k o h => by simp at h⟩
  | o :: os, acc => by
    obtain ⟨h1, h2⟩ := befs_get os (acc ++ [o.after.toList.foldl (fun s e => bif Region.binds .any e then s ||| 2 ^ e.on ||| acc.getD e.on 0 else s) 0])
    have hpre : ∀ j, j < acc.length → (befs (o :: os) acc).getD j 0 = acc.getD j 0 := by
      intro j hj
      simp only [befs]
      rw [h1 j (by simp; omega)]
      simp [List.getD_eq_getElem?_getD, List.getElem?_append_left hj]
    refine ⟨hpre, fun k o' h => ?_⟩
    cases k with
    | zero =>
      simp at h
      subst h
      refine ⟨acc, rfl, fun j hj => (hpre j hj).symm, ?_⟩
      simp only [befs]
      rw [Nat.add_zero, h1 acc.length (by simp)]
      simp [List.getD_eq_getElem?_getD]
    | succ k =>
      obtain ⟨acc', h3, h4, h5⟩ := h2 k o' (by simpa using h)
      refine ⟨acc', by simp at h3; omega, fun j hj => h4 j hj, ?_⟩
      simp only [befs]
      have e : acc.length + (k + 1) = (acc ++ [o.after.toList.foldl (fun s e => bif Region.binds .any e then s ||| 2 ^ e.on ||| acc.getD e.on 0 else s) 0]).length + k := by simp; omega
      rw [e]
      exact h5
theorem before_done {ops : Array Oper} {D : Nat → Prop} (hcl : ∀ (j : Nat) (o : Oper), ops[j]? = some o → D j → ∀ e ∈ o.after.toList, Region.binds .any e = true → D e.on) :
    ∀ (n j : Nat), j < n → ∀ (o : Oper), ops[j]? = some o → (∀ e ∈ o.after.toList, Region.binds .any e = true → D e.on) → ∀ i, ((befs ops.toList []).getD j 0).testBit i = true → D i
  | 0, _, h, _, _, _, _, _ => by omega
  | n + 1, j, hj, o, ho, he, i, hi => by
    obtain ⟨acc', h1, h2, h3⟩ := (befs_get ops.toList []).2 j o (by simpa using ho)
    simp only [List.length_nil, Nat.zero_add] at h1 h3
    rw [h3] at hi
    rcases fold_bits (f := fun k => acc'.getD k 0) _ _ hi with h | ⟨e, h4, h5, h6⟩
    · simp at h
    · rcases h6 with rfl | h6
      · exact he e h4 h5
      · have hlt : e.on < acc'.length := by
          apply Classical.byContradiction
          intro hn
          have : acc'.getD e.on 0 = 0 := by
            rw [List.getD_eq_getElem?_getD, List.getElem?_eq_none (by omega)]
            rfl
          rw [this] at h6
          simp at h6
        rw [h2 _ hlt] at h6
        have hD := he e h4 h5
        have hlt2 : e.on < ops.size := by
          have := (Array.getElem?_eq_some_iff.1 ho).1
          omega
        exact before_done hcl n e.on (by omega) ops[e.on] (Array.getElem?_eq_getElem hlt2) (hcl e.on _ (Array.getElem?_eq_getElem hlt2) hD) i h6
theorem meets_false {a b : List Nat} (h : meets a b = false) {q : Nat} (ha : q ∈ a) : q ∉ b := by
  intro hb
  unfold meets at h
  rw [List.any_eq_false] at h
  have := h q ha
  simp only [List.any_eq_true, not_exists, not_and] at this
  exact this q hb (by simp)
theorem unmet_apart {before : List Nat} {ts : List Trace} (h : unmet before ts = true) {i j : Nat} (hij : i < j) {x y : Trace} (hx : ts[i]? = some x) (hy : ts[j]? = some y) : (before.getD j 0).testBit i = true ∨ x.apart y = true := by
  unfold unmet at h
  rw [List.all_eq_true] at h
  have hj := (List.getElem?_eq_some_iff.1 hy).1
  have h1 := h j (by simpa using hj)
  rw [List.all_eq_true] at h1
  have h2 := h1 i (by simpa using hij)
  simp only [hx, hy, Bool.or_eq_true] at h2
  exact h2
theorem countP_one {p p' : Nat → Bool} {i : Nat} (hp : p i = true) (hp' : p' i = false) (h : ∀ j, j ≠ i → p' j = p j) : ∀ (l : List Nat), l.Nodup → i ∈ l → l.countP p' + 1 = l.countP p
  | [], _, hi => by simp at hi
  | x :: l, hn, hi => by
    rw [List.nodup_cons] at hn
    by_cases hx : x = i
    · subst hx
      have e : l.countP p' = l.countP p := by
        apply List.countP_congr
        intro y hy
        rw [h y (fun e => hn.1 (e ▸ hy))]
      simp [hp, hp', e]
    · have ih := countP_one hp hp' h l hn.2 ((List.mem_cons.1 hi).resolve_left (fun e => hx e.symm))
      simp only [List.countP_cons, h x hx]
      omega
theorem any_ok (hV : EnvOk V) (hT : TOk P T) (hΓ : ∀ c ∈ Γ, Sound P c) {ops : Array Oper} (hok : ∀ (i : Nat) (o : Oper), ops[i]? = some o → DstOk V o)
    (hguard : ∀ (i : Nat) (o : Oper), ops[i]? = some o → ∀ j want, o.guard = some (j, want) → ∀ s, (ops[j]?).bind (·.dst) = some s → s < V.nt) {Q : Exit → Act → World → Prop}
    {us : List Upd} {ts : List Trace} {s0 s1 : St} (hrun : Run Γ T ops s0 ops.toList us ts s1) (htext : textual ops = true) (hun : unmet (befs ops.toList []) ts = true) (hQ : ∀ a w, Rel P V s1 a w → Q .normal a w) :
    ∀ (fuel : Nat) (listed : Array Bool) (a : Act) (w : World), listed.size = ops.size → (List.range ops.size).countP (fun i => !listed.getD i true) = fuel →
      (∀ (j : Nat) (o : Oper), ops[j]? = some o → listed.getD j false = true → ∀ e ∈ o.after.toList, Region.binds .any e = true → listed.getD e.on false = true) →
      Rel P V (stAt (fun j => listed.getD j false) us s0) a w → wpAny P .any ops Q fuel listed a w := by
  obtain ⟨hul, htl, hend⟩ := run_len hrun
  have hsz : ops.toList.length = ops.size := Array.length_toList
  have hready : ∀ (listed : Array Bool), listed.size = ops.size → Region.ready .any ops listed = [] → ∀ i, i < ops.size → listed.getD i false = true := by
    intro listed hls hr i
    induction i using Nat.strongRecOn with
    | ind i ih =>
      intro hi
      cases hl : listed.getD i false with
      | true => rfl
      | false =>
        exfalso
        have hl2 : listed.getD i true = false := by
          rw [Array.getD_eq_getD_getElem?, Array.getElem?_eq_getElem (by omega)] at hl ⊢
          exact hl
        have ho : ops[i]? = some ops[i] := Array.getElem?_eq_getElem hi
        have hmem : i ∈ Region.ready .any ops listed := by
          unfold Region.ready
          rw [List.mem_filter]
          refine ⟨by simpa using hi, ?_⟩
          rw [hl2, ho]
          simp only [Bool.not_false, Bool.true_and, Option.map_some, Option.getD_some]
          rw [Array.all_eq_true_iff_forall_mem]
          intro e he
          cases hbd : Region.binds .any e with
          | false => rfl
          | true =>
            simp only [Bool.not_true, Bool.false_or]
            have hlt : e.on < i := by
              unfold textual at htext
              rw [List.all_eq_true] at htext
              have := htext i (by simpa using hi)
              simp only [ho] at this
              rw [List.all_eq_true] at this
              have := this e (by simpa using he)
              simpa [hbd] using this
            exact ih e.on hlt (by omega)
        rw [hr] at hmem
        simp at hmem
  have hfin : ∀ (listed : Array Bool) (a : Act) (w : World), listed.size = ops.size → Rel P V (stAt (fun j => listed.getD j false) us s0) a w → Region.ready .any ops listed = [] → Q .normal a w := by
    intro listed a w hls hr hrd
    refine hQ a w ?_
    rw [hend]
    have : stAt (fun _ => true) us s0 = stAt (fun j => listed.getD j false) us s0 := stAt_congr (fun j hj => (hready listed hls hrd j (by omega)).symm)
    rw [this]
    exact hr
  intro fuel
  induction fuel with
  | zero =>
    intro listed a w hls hcount hcl hr
    have hrd : Region.ready .any ops listed = [] := by
      unfold Region.ready
      rw [List.filter_eq_nil_iff]
      intro i hi hc
      rw [List.countP_eq_zero] at hcount
      have := hcount i hi
      simp only [Bool.and_eq_true] at hc
      exact this hc.1
    exact ⟨hrd, hfin listed a w hls hr hrd⟩
  | succ fuel ih =>
    intro listed a w hls hcount hcl hr
    refine ⟨hfin listed a w hls hr, fun i hi => ?_⟩
    unfold Region.ready at hi
    rw [List.mem_filter] at hi
    obtain ⟨hin, hi2⟩ := hi
    have hin : i < ops.size := by simpa using hin
    have ho : ops[i]? = some ops[i] := Array.getElem?_eq_getElem hin
    rw [ho] at hi2
    simp only [Bool.and_eq_true, Bool.not_eq_true', Option.map_some, Option.getD_some] at hi2
    obtain ⟨hunl, hedges⟩ := hi2
    rw [Array.all_eq_true_iff_forall_mem] at hedges
    have hunl2 : listed.getD i false = false := by
      rw [Array.getD_eq_getD_getElem?, Array.getElem?_eq_getElem (by omega)] at hunl ⊢
      exact hunl
    have hed : ∀ e ∈ (ops[i]).after.toList, Region.binds .any e = true → listed.getD e.on false = true := by
      intro e he hb
      have := hedges e (by simpa using he)
      simpa [hb] using this
    obtain ⟨U, t, hU, ht, hdone⟩ := run_get hrun i ops[i] (by simp)
    have hcl' : ∀ (j : Nat) (o : Oper), ops[j]? = some o → (fun k => listed.getD k false = true) j → ∀ e ∈ o.after.toList, Region.binds .any e = true → (fun k => listed.getD k false = true) e.on := hcl
    obtain ⟨hw1, _, _⟩ := hdone.1
    have hother : ∀ (j : Nat) (U' : Upd), us[j]? = some U' → ∃ t', ts[j]? = some t' ∧ (∀ q ∈ U'.map (·.1), q ∈ t'.wr ∨ q ∈ t'.cw) ∧ ∀ q ∈ t'.wr, q ∈ U'.map (·.1) := by
      intro j U' hj
      have hjl : j < ops.size := by
        have := (List.getElem?_eq_some_iff.1 hj).1
        omega
      obtain ⟨U2, t2, h1, h2, h3⟩ := run_get hrun j ops[j] (by simp [hjl])
      rw [hj] at h1
      cases h1
      exact ⟨t2, h2, h3.1.1, h3.1.2.1⟩
    have hap : ∀ (j : Nat) (U' : Upd), us[j]? = some U' → j ≠ i → listed.getD j false ≠ decide (j < i) → ∃ t', ts[j]? = some t' ∧ (∀ q ∈ U'.map (·.1), q ∈ t'.wr ∨ q ∈ t'.cw) ∧ (t'.apart t = true ∨ t.apart t' = true) := by
      intro j U' hj hne hdiff
      obtain ⟨t', h1, h2, _⟩ := hother j U' hj
      refine ⟨t', h1, h2, ?_⟩
      rcases Nat.lt_or_gt_of_ne hne with hlt | hgt
      · have hl : listed.getD j false = false := by
          cases hl : listed.getD j false with
          | false => rfl
          | true => rw [hl] at hdiff; simp [hlt] at hdiff
        rcases unmet_apart hun hlt h1 ht with h3 | h3
        · have := before_done hcl' (i + 1) i (Nat.lt_succ_self _) ops[i] ho hed j h3
          rw [hl] at this
          cases this
        · exact .inl h3
      · have hl : listed.getD j false = true := by
          cases hl : listed.getD j false with
          | true => rfl
          | false => rw [hl] at hdiff; simp at hdiff; omega
        have hjl : j < ops.size := by
          have := (List.getElem?_eq_some_iff.1 hj).1
          omega
        have hoj : ops[j]? = some ops[j] := Array.getElem?_eq_getElem hjl
        rcases unmet_apart hun hgt ht h1 with h3 | h3
        · have := before_done hcl' (j + 1) j (Nat.lt_succ_self _) ops[j] hoj (hcl j _ hoj hl) i h3
          rw [hunl2] at this
          cases this
        · exact .inr h3
    have hdis : ∀ (x y : Trace), x.apart y = true → (∀ q, q ∈ x.wr ∨ q ∈ x.cw → (q ∉ y.wr ∧ q ∉ y.cw) ∧ q ∉ y.rd) ∧ (∀ q, q ∈ y.wr ∨ q ∈ y.cw → (q ∉ x.wr ∧ q ∉ x.cw) ∧ q ∉ x.rd) ∧ (∀ q ∈ x.wr, q ∉ y.hd) ∧ ∀ q ∈ y.wr, q ∉ x.hd := by
      intro x y h
      unfold Trace.apart at h
      simp only [Bool.and_eq_true, Bool.not_eq_true'] at h
      obtain ⟨⟨⟨⟨h1, h2⟩, h3⟩, h4⟩, h5⟩ := h
      refine ⟨fun q hq => ?_, fun q hq => ?_, fun q hq => meets_false h4 hq, fun q hq hx => meets_false h5 hx hq⟩
      · have hq := List.mem_append.2 hq
        have := meets_false h1 hq
        simp only [List.mem_append, not_or] at this
        exact ⟨this, meets_false h2 hq⟩
      · have hq := List.mem_append.2 hq
        have : q ∉ x.wr ++ x.cw := fun hx => meets_false h1 hx hq
        simp only [List.mem_append, not_or] at this
        exact ⟨this, fun hx => meets_false h3 hx hq⟩
    have hnot : ∀ (j : Nat) (U' : Upd), us[j]? = some U' → j ≠ i → listed.getD j false ≠ decide (j < i) → ∀ q ∈ U'.map (·.1), (q ∉ t.wr ∧ q ∉ t.cw) ∧ q ∉ t.rd := by
      intro j U' hj hne hdiff q hq
      obtain ⟨t', _, h1, h2⟩ := hap j U' hj hne hdiff
      rcases h2 with h2 | h2
      · exact (hdis _ _ h2).1 q (h1 q hq)
      · exact (hdis _ _ h2).2.1 q (h1 q hq)
    have hnoth : ∀ (j : Nat) (t' : Trace), ts[j]? = some t' → j ≠ i → listed.getD j false ≠ decide (j < i) → ∀ q ∈ t'.wr, q ∉ t.hd := by
      intro j t' hj hne hdiff q hq
      have hjl : j < us.length := by
        have := (List.getElem?_eq_some_iff.1 hj).1
        omega
      obtain ⟨t2, h0, _, h2⟩ := hap j us[j] (List.getElem?_eq_getElem hjl) hne hdiff
      rw [hj] at h0
      cases h0
      rcases h2 with h2 | h2
      · exact (hdis _ _ h2).2.2.1 q hq
      · exact (hdis _ _ h2).2.2.2 q hq
    have hres : OpRes Γ T ops ops[i] (stAt (fun j => listed.getD j false) us s0) U := by
      refine hdone.frame (fun q hq => ?_) (fun q hq => ?_)
      · refine stAt_agree rfl fun j U' hj hqj => ?_
        by_cases hji : j = i
        · subst hji
          rw [hunl2]
          simp
        · apply Classical.byContradiction
          intro hdiff
          have := hnot j U' hj hji hdiff q hqj
          rcases hq with hq | hq
          · exact this.2 hq
          · exact this.1.1 hq
      · have hFF : ∀ (j : Nat) (t' : Trace), ts[j]? = some t' → (fun j => match ts[j]? with | some t' => decide (q ∈ t'.wr) | none => false) j = decide (q ∈ t'.wr) := fun j t' h => by simp only [h]
        have e1 := hdr_run (q := q) (D := fun j => listed.getD j false) (F := fun j => match ts[j]? with | some t' => decide (q ∈ t'.wr) | none => false) (s := s0) (sF := s0) (B := True) hrun hFF rfl (fun _ => rfl) (fun j t' U' hj hU hD hw hqk => by
          refine ⟨trivial, fun k t2 hk ht2 hw2 => ?_⟩
          obtain ⟨t3, h3, h4, _⟩ := hother j U' hU
          rw [hj] at h3
          cases h3
          have hcw := (h4 q hqk).resolve_left hw
          have hjl : j < ops.size := by
            have := (List.getElem?_eq_some_iff.1 hU).1
            omega
          have hoj : ops[j]? = some ops[j] := Array.getElem?_eq_getElem hjl
          rcases unmet_apart hun hk ht2 hj with h5 | h5
          · exact before_done hcl' (j + 1) j (Nat.lt_succ_self _) ops[j] hoj (hcl j _ hoj hD) k h5
          · exact absurd hcw ((hdis _ _ h5).1 q (.inl hw2)).1.2)
        have e2 := hdr_run (q := q) (D := fun j => decide (j < i)) (F := fun j => match ts[j]? with | some t' => decide (q ∈ t'.wr) | none => false) (s := s0) (sF := s0) (B := True) hrun hFF rfl (fun _ => rfl) (fun j t' U' hj hU hD hw hqk => by
          refine ⟨trivial, fun k t2 hk ht2 hw2 => ?_⟩
          have := of_decide_eq_true hD
          exact decide_eq_true (by omega))
        rw [e1, e2]
        congr 1
        refine stAt_agree rfl fun j U' hj hqj => ?_
        obtain ⟨t', h1, h2, _⟩ := hother j U' hj
        simp only [h1]
        by_cases hw : q ∈ t'.wr
        · rw [decide_eq_true hw, Bool.and_true, Bool.and_true]
          by_cases hji : j = i
          · subst hji
            rw [hunl2]
            simp
          · apply Classical.byContradiction
            intro hdiff
            exact hnoth j t' h1 hji hdiff q hw hq
        · rw [decide_eq_false hw, Bool.and_false, Bool.and_false]
    refine op_ok hV hT hΓ ho (hok i _ ho) (hguard i _ ho) hres hr fun a' w' hr' => ?_
    have hset : ∀ (b : Bool) (j : Nat), (listed.setIfInBounds i true).getD j b = if j = i then true else listed.getD j b := by
      intro b j
      simp only [Array.getD_eq_getD_getElem?, Array.getElem?_setIfInBounds]
      by_cases hji : j = i
      · subst hji
        simp [hls, hin]
      · rw [if_neg (fun e => hji e.symm), if_neg hji]
    refine ih _ a' w' (by simpa using hls) ?_ ?_ ?_
    · have := countP_one (p := fun j => !listed.getD j true) (p' := fun j => !(listed.setIfInBounds i true).getD j true) (i := i) (by simp [hunl]) (by simp [hset]) (fun j hj => by simp [hset, hj]) (List.range ops.size) List.nodup_range (by simpa using hin)
      omega
    · intro j o' hj hlj e he hb
      rw [hset] at hlj ⊢
      by_cases hei : e.on = i
      · rw [if_pos hei]
      · rw [if_neg hei]
        by_cases hji : j = i
        · subst hji
          rw [ho] at hj
          cases hj
          exact hed e he hb
        · rw [if_neg hji] at hlj
          exact hcl j o' hj hlj e he hb
    · have hins := stAt_insert (U := U) (us := us) (i := i) (D := fun j => listed.getD j false) (D' := fun j => (listed.setIfInBounds i true).getD j false) (s := s0) hU hunl2 (fun j => by
          simp only [hset]
          by_cases hji : j = i
          · subst hji; simp
          · have : Nat.beq j i = false := by
              cases hb : Nat.beq j i with
              | false => rfl
              | true => exact absurd (Nat.eq_of_beq_eq_true hb) hji
            simp [hji, this])
        (fun j U' hj hij hD q hq hq' => by
          have := hnot j U' hj (by omega) (by rw [hD]; simp; omega) q hq'
          exact (hw1 q hq).elim this.1.1 this.1.2)
      rw [hins]
      exact hr'
theorem reg_ok (hV : EnvOk V) (hT : TOk P T) (hΓ : ∀ c ∈ Γ, Sound P c) (hmix : P.follows .mixedOrders = true) {id : Nat} {ops : Array Oper} {draw : Bool} (hok : ∀ (i : Nat) (o : Oper), ops[i]? = some o → DstOk V o)
    (hguard : ∀ (i : Nat) (o : Oper), ops[i]? = some o → ∀ j want, o.guard = some (j, want) → ∀ s, (ops[j]?).bind (·.dst) = some s → s < V.nt) {Q : Exit → Act → World → Prop} {κ : St → Option R} {r : R}
    (h : regK Γ T ops draw st κ = some r) (hκ : ∀ s1, κ s1 = some r → ∀ a w, Rel P V s1 a w → Q .normal a w) {a : Act} {w : World} (hr : Rel P V st a w) : (Code.region id ops draw).wp P Q a w := by
  unfold regK at h
  cases draw with
  | true =>
    simp only [cond_true] at h
    obtain ⟨us, ts, s1, hrun, h2⟩ := opsK_run _ _ _ _ _ h
    simp only [List.nil_append] at h2
    cases hb : textual ops && unmet (befs ops.toList []) ts with
    | false => simp [hb] at h2
    | true =>
      simp only [hb, cond_true] at h2
      simp only [Bool.and_eq_true] at hb
      refine wp_region_any hmix ?_
      have hD : ∀ j, (Array.replicate ops.size false).getD j false = false := by
        intro j
        simp only [Array.getD_eq_getD_getElem?, Array.getElem?_replicate]
        split <;> rfl
      refine any_ok hV hT hΓ hok hguard hrun hb.1 hb.2 (hκ s1 h2) ops.size (Array.replicate ops.size false) a _ (by simp) ?_ ?_ ?_
      · rw [List.countP_eq_length.2]
        · simp
        · intro i hi
          have hi : i < ops.size := by simpa using hi
          simp [Array.getD_eq_getD_getElem?, Array.getElem?_replicate, hi]
      · intro j o' _ hl
        rw [hD] at hl
        cases hl
      · rw [stAt_none (fun j => hD j)]
        obtain ⟨W, hr⟩ := hr
        exact ⟨W, hr.world hV (w' := { w with drawn := w.drawn + 1 }) (Nat.le_refl _) rfl rfl rfl (fun _ _ => rfl)⟩
  | false =>
    simp only [cond_false] at h
    obtain ⟨us, ts, s1, hrun, h2⟩ := opsK_run _ _ _ _ _ h
    refine wp_region ?_
    have := text_ok hV hT hΓ hok hguard ops.toList 0 st us ts s1 (by simp) hrun (hκ s1 h2) a w hr
    rw [Array.length_toList, ← List.range_eq_range'] at this
    exact this
end
end Go.Proofs.YtdjmnbdicpgmiaaEv
