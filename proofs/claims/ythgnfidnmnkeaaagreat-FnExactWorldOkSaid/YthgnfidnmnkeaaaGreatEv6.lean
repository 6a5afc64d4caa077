/- One operation: the simple ones. -/
import Derived.Test.YthgnfidnmnkeaaaGreatEv5
namespace Go.Proofs.YthgnfidnmnkeaaaGreatEv
open Go Go.RowKit

section
variable {P : Program} {V : Env} {Γ : List Ctr} {T : TypeId → TI} {st : St} {o : Oper} {R : Type} {κ : Upd → Option R} {r : R}

/-- What is to be shown of an operation. -/
def Sounds (P : Program) (V : Env) (o : Oper) (st : St) (κ : Upd → Option R) (r : R) : Prop :=
  ∃ U, κ U = some r ∧ ∀ W a w, RelAt P V W st a w → Goes P V o st U a w

theorem act_move (hV : EnvOk V) (hok : DstOk V o) {x : Operand} (hop : o.op = .move x) (h : act Γ T o st κ = some r) : Sounds P V o st κ r := by
  simp only [act, wrU, hop] at h
  split at h
  · rename_i d hd
    refine ⟨_, h, fun W a w hr => ?_⟩
    obtain ⟨cs, hs, hl⟩ := opnd_ok hr x
    exact goes_put hV hr hd hok (by simp [execOp, hop]) hs hl
  · cases h

theorem act_assign (hV : EnvOk V) (hok : DstOk V o) {x : Operand} (hop : o.op = .assign x) (h : act Γ T o st κ = some r) : Sounds P V o st κ r := by
  simp only [act, wrU, hop] at h
  split at h
  · rename_i d hd
    cases hdis : distinct (owned st (opnd st x).2) with
    | false => simp [hdis] at h
    | true =>
      simp only [hdis, cond_true] at h
      refine ⟨_, h, fun W a w hr => ?_⟩
      obtain ⟨cs, hs, hl⟩ := opnd_ok hr x
      intro next Q hn
      refine wp_value (v := a.eval x) (w' := w) (by simp [execOp, hop]) ?_
      rw [hd]
      exact hn _ _ (hr.putMoved hV hl hdis d (hok d hd).1 (hok d hd).2 hs)
  · cases h

theorem act_pick (hV : EnvOk V) (hok : DstOk V o) {c x y : Operand} (hop : o.op = .pick c x y) (h : act Γ T o st κ = some r) : Sounds P V o st κ r := by
  simp only [act, wrU, hop] at h
  split at h
  · rename_i t hc
    cases t with
    | true =>
      simp only [cond_true] at h
      split at h
      · rename_i d hd
        refine ⟨_, h, fun W a w hr => ?_⟩
        obtain ⟨cs, hs, hl⟩ := opnd_ok hr x
        exact goes_put hV hr hd hok (v := a.eval x) (by simp [execOp, hop, bool_one hr hc, asBool]) hs hl
      · cases h
    | false =>
      simp only [cond_false] at h
      split at h
      · rename_i d hd
        refine ⟨_, h, fun W a w hr => ?_⟩
        obtain ⟨cs, hs, hl⟩ := opnd_ok hr y
        exact goes_put hV hr hd hok (v := a.eval y) (by simp [execOp, hop, bool_one hr hc, asBool]) hs hl
      · cases h
  · cases h

theorem act_nilCheck (hV : EnvOk V) (hok : DstOk V o) {x : Operand} (hop : o.op = .nilCheck x) (h : act Γ T o st κ = some r) : Sounds P V o st κ r := by
  simp only [act, wrU, hop] at h
  have key : ∀ {l : Leaf} {d : Nat}, one st x = l → l ≠ .dead → (∀ W a w, RelAt P V W st a w → LeafOk P V W st w [] l (a.eval x) → ∃ ad, a.eval x = .pointer (some ad)) → o.dst = some d →
      ∀ W a w, RelAt P V W st a w → Goes P V o st (putU st [] d .one [l]) a w := by
    intro l d hl hnd hp hd W a w hr
    obtain ⟨h1, h2, h3, _⟩ := one_ok hr x (by rw [hl]; exact hnd)
    rw [hl] at h1 h2
    obtain ⟨ad, hv⟩ := hp W a w hr h1
    exact goes_one hV hr hd hok (v := a.eval x) (by simp [execOp, hop, hv]) h1 h2 h3
  split at h
  · split at h
    · rename_i hl _ d hd
      exact ⟨_, h, key hl (by simp) (fun W a w hr hlo => by obtain ⟨g, o', c, hv, _⟩ := hlo; exact ⟨_, hv⟩) hd⟩
    · cases h
  · split at h
    · rename_i hl _ d hd
      exact ⟨_, h, key hl (by simp) (fun W a w hr hlo => ⟨_, hlo.2.2⟩) hd⟩
    · cases h
  · rename_i r' j v i sz off hl
    cases hb : Nat.beq (st r').ver v with
    | false => simp [hb] at h
    | true =>
      simp only [hb, cond_true] at h
      split at h
      · rename_i d hd
        refine ⟨_, h, key hl (by simp) (fun W a w hr hlo => ?_) hd⟩
        obtain ⟨g, len, cap, _, _, hv⟩ := hlo.2 (Nat.eq_of_beq_eq_true hb)
        exact ⟨_, hv⟩
      · cases h
  · split at h
    · rename_i hl _ d hd
      exact ⟨_, h, key hl (by simp) (fun W a w hr hlo => by obtain ⟨b, ob, g, o', c, hv, _⟩ := hlo; exact ⟨_, hv⟩) hd⟩
    · cases h
  · cases h

theorem act_unOp (hV : EnvOk V) (hok : DstOk V o) {op : UnOp} {t : TypeId} {x : Operand} (hop : o.op = .unOp op t x) (h : act Γ T o st κ = some r) : Sounds P V o st κ r := by
  simp only [act, wrU, hop] at h
  split at h
  · rename_i b hx
    split at h
    · rename_i d hd
      exact ⟨_, h, fun W a w hr => goes_one hV hr hd hok (v := .bool (!b)) (by simp [execOp, hop, bool_one hr hx, Op.unary]) rfl id rfl⟩
    · cases h
  · rename_i k n hx
    split at h
    · rename_i d hd
      exact ⟨_, h, fun W a w hr => goes_one hV hr hd hok (v := .int k (k.wrap (0 - n))) (by simp [execOp, hop, int_one hr hx, Op.unary, Op.intArith]) rfl id rfl⟩
    · cases h
  · cases h

theorem act_convert (hV : EnvOk V) (hT : TOk P T) (hok : DstOk V o) {s t : TypeId} {x : Operand} (hop : o.op = .convert s t x) (h : act Γ T o st κ = some r) : Sounds P V o st κ r := by
  simp only [act, wrU, hop] at h
  split at h
  · rename_i k' k k'' n hs ht hx
    split at h
    · rename_i d hd
      refine ⟨_, h, fun W a w hr => goes_one hV hr hd hok (v := .int k (k.wrap n)) ?_ rfl id rfl⟩
      have h1 := hT t
      rw [ht] at h1
      have h2 := hT s
      rw [hs] at h2
      simp [execOp, hop, int_one hr hx, Go.convert, run_underlying h1.1, run_underlying h2.1, Conv.intToInt]
    · cases h
  · cases h

theorem act_extract (hV : EnvOk V) (hok : DstOk V o) {x : Operand} {i : Nat} (hop : o.op = .extract x i) (h : act Γ T o st κ = some r) : Sounds P V o st κ r := by
  simp only [act, wrU, hop] at h
  split at h
  · rename_i ps ls he
    split at h
    · rename_i agg n hp
      split at h
      · rename_i d hd
        refine ⟨_, h, fun W a w hr => ?_⟩
        obtain ⟨cs, hs, hl⟩ := opnd_ok hr x
        rw [he] at hs hl
        obtain ⟨vs, hv, ht⟩ := hs
        have key : ∀ (ps : List (Bool × Nat)) (vs cs : List Value) (i : Nat) (off : Nat), TupSh ps vs cs → ps[i]? = some (agg, n) →
            ∃ v, vs[i]? = some v ∧ ValOk agg v ((cs.drop ((ps.take i).foldl (fun a b => a + b.2) off - off)).take n) ∧ off ≤ (ps.take i).foldl (fun a b => a + b.2) off := by
          intro ps
          induction ps with
          | nil => intro vs cs i off _ hi; simp at hi
          | cons p ps ih =>
            rintro vs cs i off ⟨v, vs', c, cs', rfl, rfl, hc, hvo, ht⟩ hi
            cases i with
            | zero =>
              simp at hi
              subst hi
              refine ⟨v, rfl, ?_, by simp⟩
              simp only [List.take_zero, List.foldl_nil, Nat.sub_self, List.drop_zero]
              rw [List.take_append_of_le_length (by omega), List.take_of_length_le (by omega)]
              exact hvo
            | succ i =>
              obtain ⟨v', h1, h2, h3⟩ := ih vs' cs' i (off + p.2) ht (by simpa using hi)
              refine ⟨v', by simpa using h1, ?_, by simp only [List.take_succ_cons, List.foldl_cons]; omega⟩
              simp only [List.take_succ_cons, List.foldl_cons]
              have e : (ps.take i).foldl (fun a b => a + b.2) (off + p.2) - off = c.length + ((ps.take i).foldl (fun a b => a + b.2) (off + p.2) - (off + p.2)) := by omega
              rw [e, ← List.drop_drop, List.drop_left]
              exact h2
        obtain ⟨v, h1, h2, _⟩ := key ps vs cs i 0 ht hp
        simp only [Nat.sub_zero] at h2
        refine goes_put hV hr hd hok (v := v) ?_ (shOf_ok h2) ((hl.drop _).take n)
        have h3 : vs.toArray[i]? = some v := by simpa using h1
        simp [execOp, hop, hv, Instr.extract, h3, h1]
      · cases h
    · cases h
  · cases h

theorem caps_ok {W : Wit} {a : Act} {w : World} (hr : RelAt P V W st a w) : ∀ (xs : List Operand) (acc l : List Nat),
    xs.foldl (fun (acc : Option (List Nat)) x => acc.bind fun l => match one st x with | .bp b 0 => some (l ++ [b]) | _ => none) (some acc) = some l →
    ∃ l', l = acc ++ l' ∧ xs.map a.eval = l'.map (fun b => Value.pointer (some ⟨W.β b, 0, none⟩)) ∧ ∀ b ∈ l', B0 ≤ b ∧ (st b).sh = .agg
  | [], acc, l, h => ⟨[], by simpa using h.symm, rfl, by simp⟩
  | x :: xs, acc, l, h => by
    simp only [List.foldl_cons, Option.bind_some] at h
    have hnone : ∀ (xs : List Operand), xs.foldl (fun (acc : Option (List Nat)) x => acc.bind fun l => match one st x with | .bp b 0 => some (l ++ [b]) | _ => none) none = none := by
      intro xs
      induction xs with
      | nil => rfl
      | cons x xs ih => simpa using ih
    split at h
    · rename_i b hx
      obtain ⟨l', h1, h2, h3⟩ := caps_ok hr xs (acc ++ [b]) l h
      have h4 := (one_ok hr x (by rw [hx]; simp)).1
      rw [hx] at h4
      refine ⟨b :: l', by simp [h1], ?_, ?_⟩
      · simp only [List.map_cons, h2]
        rw [show a.eval x = _ from h4.2.2]
      · intro q hq
        rcases List.mem_cons.1 hq with rfl | hq
        · exact ⟨h4.1, h4.2.1⟩
        · exact h3 q hq
    · rw [hnone] at h
      cases h

theorem act_makeFunc (hV : EnvOk V) (hok : DstOk V o) {fn : Fn} {first caps : Array Operand} (hop : o.op = .makeFunc fn first caps) (h : act Γ T o st κ = some r) : Sounds P V o st κ r := by
  cases fn with
  | func f =>
    simp only [act, wrU, hop] at h
    cases hb : Nat.beq first.size 0 with
    | false => simp [hb] at h
    | true =>
      simp only [hb, cond_true] at h
      split at h
      · rename_i l hl
        split at h
        · rename_i d hd
          refine ⟨_, h, fun W a w hr => ?_⟩
          obtain ⟨l', h1, h2, h3⟩ := caps_ok hr caps.toList [] l hl
          simp only [List.nil_append] at h1
          subst h1
          have h4 : first = #[] := Array.eq_empty_of_size_eq_zero (Nat.eq_of_beq_eq_true hb)
          refine goes_one hV hr hd hok (v := .func (.func f) #[] (l.map fun b => Value.pointer (some ⟨W.β b, 0, none⟩)).toArray) ?_ ⟨rfl, h3⟩ id rfl
          rw [← h2]
          simp [execOp, hop, Instr.makeFunc, h4, ← Array.toList_map]
        · cases h
      · cases h
  | _ => simp [act, wrU, hop] at h

theorem idx_some {α : Type} {xs : List α} {i : Int} {x : α} (h : idx xs i = some x) : 0 ≤ i ∧ i < xs.length ∧ xs[i.toNat]? = some x := by
  unfold idx at h
  split at h
  · cases h
  · have := (List.getElem?_eq_some_iff.1 h).1
    exact ⟨by omega, by omega, h⟩

theorem act_index (hV : EnvOk V) (hT : TOk P T) (hok : DstOk V o) {t : TypeId} {x i : Operand} (hop : o.op = .index t x i) (h : act Γ T o st κ = some r) : Sounds P V o st κ r := by
  simp only [act, wrU, hop] at h
  split at h
  · rename_i k n s hi hx
    cases hs : T t with
    | str =>
      simp only [hs] at h
      obtain ⟨y, hy, h⟩ := Option.bind_eq_some_iff.1 h
      split at h
      · rename_i d hd
        refine ⟨_, h, fun W a w hr => goes_one hV hr hd hok (v := .int .u8 (y.toNat : Int)) ?_ rfl id rfl⟩
        have h1 := hT t
        rw [hs] at h1
        obtain ⟨h2, h3, h4⟩ := idx_some hy
        have h5 : s[n.toNat]? = some y := by
          have h6 := (List.getElem?_eq_some_iff.1 h4)
          obtain ⟨h7, h8⟩ := h6
          have h9 : n.toNat < s.size := by rw [Array.length_toList] at h7; exact h7
          rw [getElem?_pos s n.toNat h9]
          congr 1
        simp [execOp, hop, int_one hr hi, str_one hr hx, Instr.index, asIntOf, run_underlying h1.1, h2, h5]
      · cases h
    | _ => simp [hs] at h
  · cases h

end
end Go.Proofs.YthgnfidnmnkeaaaGreatEv
