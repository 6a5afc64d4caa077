/- One operation: numbers, addresses, reading. -/
import Derived.Test.YthgnfidnmnkeaaaGreatEv6
namespace Go.Proofs.YthgnfidnmnkeaaaGreatEv
open Go Go.RowKit

section
variable {P : Program} {V : Env} {Γ : List Ctr} {T : TypeId → TI} {st : St} {o : Oper} {R : Type} {κ : Upd → Option R} {r : R}

theorem agg_ok {W : Wit} {a : Act} {w : World} (hr : RelAt P V W st a w) {x : Operand} {b : Ty} {p : Bool} {u : b.den} (hsh : (opnd st x).1 = .agg) (hg : gatherAll st b (opnd st x).2 = some (p, u)) :
    ∃ cs G, a.eval x = .agg cs.toArray ∧ Rd w G b u cs := by
  obtain ⟨cs, hs, hl⟩ := opnd_ok hr x
  rw [hsh] at hs
  exact ⟨cs, _, hs, gatherAll_ok hr hl hg⟩

theorem run_equal_bool {t : TypeId} (ht : P.underlying t = some .bool) (b b' : Bool) (w : World) : (Op.equal t (.bool b) (.bool b')).run P w = .ok (b == b') w := by
  have e : Op.maxDepth = 9999 + 1 := rfl
  unfold Op.equal
  rw [e]
  generalize 9999 = m
  unfold Op.equalIn
  rw [Sem.run_bind, run_underlying ht]
  rfl

theorem act_binOp (hV : EnvOk V) (hT : TOk P T) (hok : DstOk V o) {op : BinOp} {t t' : TypeId} {x y : Operand} (hop : o.op = .binOp op t x y t') (h : act Γ T o st κ = some r) : Sounds P V o st κ r := by
  simp only [act, wrU, hop] at h
  split at h
  · rename_i k m k' n hx hy
    cases op
    case shl =>
      simp only at h
      cases hb : decide (n < 0) with
      | true => simp [hb] at h
      | false =>
        simp only [hb, cond_false] at h
        split at h
        · rename_i d hd
          refine ⟨_, h, fun W a w hr => goes_one hV hr hd hok (v := .int k (k.wrap (m * 2 ^ (min n.toNat k.bits)))) ?_ rfl id rfl⟩
          have : ¬ n < 0 := of_decide_eq_false hb
          simp [execOp, hop, int_one hr hx, int_one hr hy, eqGuard, Go.binOp, Op.shift, this]
        · cases h
    case shr =>
      simp only at h
      cases hb : decide (n < 0) with
      | true => simp [hb] at h
      | false =>
        simp only [hb, cond_false] at h
        split at h
        · rename_i d hd
          refine ⟨_, h, fun W a w hr => goes_one hV hr hd hok (v := .int k (m.fdiv (2 ^ (min n.toNat k.bits)))) ?_ rfl id rfl⟩
          have : ¬ n < 0 := of_decide_eq_false hb
          simp [execOp, hop, int_one hr hx, int_one hr hy, eqGuard, Go.binOp, Op.shift, this]
        · cases h
    case quo =>
      simp only at h
      cases hb : decide (n = 0) with
      | true => simp [hb] at h
      | false =>
        simp only [hb, cond_false] at h
        cases hk : decide (k = k') with
        | false => simp [hk] at h
        | true =>
          simp only [hk, cond_true] at h
          have hk := of_decide_eq_true hk
          subst hk
          split at h
          · rename_i d hd
            refine ⟨_, h, fun W a w hr => goes_one hV hr hd hok (v := .int k (k.wrap (m.tdiv n))) ?_ rfl id rfl⟩
            have : ¬ n = 0 := of_decide_eq_false hb
            simp [execOp, hop, int_one hr hx, int_one hr hy, eqGuard, Go.binOp, Op.intDiv, this]
          · cases h
    case rem =>
      simp only at h
      cases hb : decide (n = 0) with
      | true => simp [hb] at h
      | false =>
        simp only [hb, cond_false] at h
        cases hk : decide (k = k') with
        | false => simp [hk] at h
        | true =>
          simp only [hk, cond_true] at h
          have hk := of_decide_eq_true hk
          subst hk
          split at h
          · rename_i d hd
            refine ⟨_, h, fun W a w hr => goes_one hV hr hd hok (v := .int k (m.tmod n)) ?_ rfl id rfl⟩
            have : ¬ n = 0 := of_decide_eq_false hb
            simp [execOp, hop, int_one hr hx, int_one hr hy, eqGuard, Go.binOp, Op.intDiv, this]
          · cases h
    case and =>
      simp only at h
      cases hk : decide (k = k') with
      | false => simp [hk] at h
      | true =>
        simp only [hk, cond_true] at h
        have hk := of_decide_eq_true hk
        subst hk
        split at h
        · rename_i d hd
          refine ⟨_, h, fun W a w hr => goes_one hV hr hd hok (v := .int k (k.wrap ((BitVec.ofInt k.bits m &&& BitVec.ofInt k.bits n).toNat))) ?_ rfl id rfl⟩
          simp [execOp, hop, int_one hr hx, int_one hr hy, eqGuard, Go.binOp, Op.intBits]
        · cases h
    case xor =>
      simp only at h
      cases hk : decide (k = k') with
      | false => simp [hk] at h
      | true =>
        simp only [hk, cond_true] at h
        have hk := of_decide_eq_true hk
        subst hk
        split at h
        · rename_i d hd
          refine ⟨_, h, fun W a w hr => goes_one hV hr hd hok (v := .int k (k.wrap ((BitVec.ofInt k.bits m ^^^ BitVec.ofInt k.bits n).toNat))) ?_ rfl id rfl⟩
          simp [execOp, hop, int_one hr hx, int_one hr hy, eqGuard, Go.binOp, Op.intBits]
        · cases h
    all_goals
      simp only at h
      cases hk : decide (k = k') with
      | false => simp [hk] at h
      | true =>
        simp only [hk, cond_true] at h
        have hk := of_decide_eq_true hk
        subst hk
        split at h
        · rename_i l hl
          split at h
          · rename_i d hd
            refine ⟨_, h, fun W a w hr => ?_⟩
            obtain ⟨v, h1, h2, h3, h4⟩ := run_binInt (P := P) (V := V) (W := W) (st := st) (w := w) _ k t t' x y m n l hl (int_one hr hx) (int_one hr hy) hop
            exact goes_one hV hr hd hok h1 h2 h3 h4
          · cases h
        · cases h
  · rename_i b b' hx hy
    cases ht : T t with
    | bool =>
      have h1 := hT t
      rw [ht] at h1
      simp only [ht] at h
      cases op <;> simp only at h <;> first
        | cases h; done
        | (split at h
           · rename_i d hd
             first
               | exact ⟨_, h, fun W a w hr => goes_one hV hr hd hok (v := .bool (b == b')) (by simp [execOp, hop, bool_one hr hx, bool_one hr hy, eqGuard, Go.binOp, run_equal_bool h1.1]) rfl id rfl⟩
               | exact ⟨_, h, fun W a w hr => goes_one hV hr hd hok (v := .bool (b != b')) (by simp [execOp, hop, bool_one hr hx, bool_one hr hy, eqGuard, Go.binOp, run_equal_bool h1.1, bne]) rfl id rfl⟩
           · cases h)
    | _ => simp [ht] at h
  · rename_i b b' hx hy
    cases op <;> simp only at h <;> first
      | cases h; done
      | (split at h
         · rename_i d hd
           first
             | exact ⟨_, h, fun W a w hr => goes_one hV hr hd hok (v := .bool (b.toList == b'.toList)) (by simp [execOp, hop, str_one hr hx, str_one hr hy, eqGuard, Go.binOp, Op.stringOp]) rfl id rfl⟩
             | exact ⟨_, h, fun W a w hr => goes_one hV hr hd hok (v := .bool (b.toList != b'.toList)) (by simp [execOp, hop, str_one hr hx, str_one hr hy, eqGuard, Go.binOp, Op.stringOp, bne]) rfl id rfl⟩
         · cases h)
  · cases ht : T t with
    | struct b flds =>
      have h1 := hT t
      rw [ht] at h1
      obtain ⟨_, _, _, heq, hgd⟩ := h1
      simp only [ht] at h
      cases hf : b.flat && decide ((opnd st x).1 = .agg) && decide ((opnd st y).1 = .agg) with
      | false => simp [hf] at h
      | true =>
        simp only [hf, cond_true] at h
        simp only [Bool.and_eq_true, decide_eq_true_eq] at hf
        obtain ⟨⟨hf, hsx⟩, hsy⟩ := hf
        split at h
        · rename_i p u q v hgx hgy
          have run : ∀ (W : Wit) (a : Act) (w : World), RelAt P V W st a w → (Op.equal t (a.eval x) (a.eval y)).run P w = .ok (b.eqv u v) w ∧ (∃ cx cy : Array Value, a.eval x = .agg cx ∧ a.eval y = .agg cy) := by
            intro W a w hr
            obtain ⟨cx, G, hx, hrx⟩ := agg_ok hr hsx hgx
            obtain ⟨cy, G', hy, hry⟩ := agg_ok hr hsy hgy
            rw [hx, hy]
            exact ⟨heq hf w G u v cx cy hrx (Rd.flat hf hry), _, _, rfl, rfl⟩
          cases op <;> simp only at h <;> first
            | cases h; done
            | (split at h
               · rename_i d hd
                 first
                   | (refine ⟨_, h, fun W a w hr => goes_one hV hr hd hok (v := .bool (b.eqv u v)) ?_ rfl id rfl⟩
                      obtain ⟨h2, cx, cy, hx, hy⟩ := run W a w hr
                      rw [hx, hy] at h2
                      simp [execOp, hop, hx, hy, eqGuard, Go.binOp, hgd, h2]; done)
                   | (refine ⟨_, h, fun W a w hr => goes_one hV hr hd hok (v := .bool (!b.eqv u v)) ?_ rfl id rfl⟩
                      obtain ⟨h2, cx, cy, hx, hy⟩ := run W a w hr
                      rw [hx, hy] at h2
                      simp [execOp, hop, hx, hy, eqGuard, Go.binOp, hgd, h2])
               · cases h)
        · cases h
    | _ => simp [ht] at h

end
end Go.Proofs.YthgnfidnmnkeaaaGreatEv
