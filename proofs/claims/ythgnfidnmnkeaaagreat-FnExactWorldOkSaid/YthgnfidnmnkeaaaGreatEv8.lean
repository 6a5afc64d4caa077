/- One operation: addresses and reading. -/
import Derived.Test.YthgnfidnmnkeaaaGreatEv7
namespace Go.Proofs.YthgnfidnmnkeaaaGreatEv
open Go Go.RowKit

section
variable {P : Program} {V : Env} {Γ : List Ctr} {T : TypeId → TI} {st : St} {o : Oper} {R : Type} {κ : Upd → Option R} {r : R}

theorem add_plain (g off n : Nat) : (⟨g, off, none⟩ : Addr).add n = ⟨g, off + n, none⟩ := by
  unfold Addr.add
  split <;> simp_all

theorem sized_run {t : TypeId} {n : Nat} (h : SizedAt P t n) (w : World) : (sizeOf t).run P w = .ok n w := by
  unfold SizedAt at h
  cases hi : P.info? t with
  | none => simp [hi] at h
  | some i =>
    simp [hi] at h
    simp [sizeOf, typeInfo, hi, h]

theorem zero_run {t : TypeId} {z : Value} (h : ZeroAt P t z) (w : World) : (zeroValue t).run P w = .ok z w := by
  unfold ZeroAt at h
  cases hi : P.info? t with
  | none => simp [hi] at h
  | some i =>
    simp [hi] at h
    simp [zeroValue, typeInfo, hi, h]

theorem act_fieldAddr (hV : EnvOk V) (hT : TOk P T) (hok : DstOk V o) {t : TypeId} {x : Operand} {f : Nat} (hop : o.op = .fieldAddr t x f) (h : act Γ T o st κ = some r) : Sounds P V o st κ r := by
  simp only [act, wrU, hop] at h
  cases ht : T t with
  | struct b flds =>
    simp only [ht] at h
    split at h
    · rename_i off n agg hf
      have h1 := hT t
      rw [ht] at h1
      obtain ⟨⟨fs, hu, _, hfs⟩, _⟩ := h1
      obtain ⟨_, fd, h2, h3, h4, h5, h6, _⟩ := hfs f off n agg hf
      have run : ∀ (a : Act) (w : World) (g o' : Nat), a.eval x = .pointer (some ⟨g, o', none⟩) → (execOp a.eval o).run P w = .ok (.value (.pointer (some ⟨g, o' + off, none⟩))) w := by
        intro a w g o' hv
        have h7 := sized_run h6 w
        have h8 : n ≠ 0 := by omega
        simp [execOp, hop, hv, Instr.fieldAt, run_underlying hu, h2, Instr.sureAddr, fieldPlace, h7, h8, h3, add_plain]
      split at h
      · rename_i p b' y o' hx
        split at h
        · rename_i d hd
          refine ⟨_, h, fun W a w hr => ?_⟩
          obtain ⟨h7, _, _, _⟩ := one_ok hr x (by rw [hx]; simp)
          rw [hx] at h7
          obtain ⟨g, og, c, hv, hg, hrd, hc⟩ := h7
          exact goes_one hV hr hd hok (run a w g _ hv) ⟨g, og, c, by rw [Nat.add_assoc], hg, hrd, hc⟩ id rfl
        · cases h
      · rename_i b' o' hx
        split at h
        · rename_i d hd
          refine ⟨_, h, fun W a w hr => ?_⟩
          obtain ⟨h7, _, _, _⟩ := one_ok hr x (by rw [hx]; simp)
          rw [hx] at h7
          exact goes_one hV hr hd hok (run a w _ _ h7.2.2) ⟨h7.1, h7.2.1, rfl⟩ id rfl
        · cases h
      · rename_i r' j v i sz o' hx
        cases hb : Nat.beq (st r').ver v with
        | false => simp [hb] at h
        | true =>
          simp only [hb, cond_true] at h
          split at h
          · rename_i d hd
            refine ⟨_, h, fun W a w hr => ?_⟩
            obtain ⟨h7, _, _, _⟩ := one_ok hr x (by rw [hx]; simp)
            rw [hx] at h7
            obtain ⟨g, len, cap, hh, hil, hv⟩ := h7.2 (Nat.eq_of_beq_eq_true hb)
            exact goes_one hV hr hd hok (run a w g _ hv) ⟨h7.1, fun _ => ⟨g, len, cap, hh, hil, by rw [Nat.add_assoc]⟩⟩ id rfl
          · cases h
      · cases h
    · cases h
  | _ => simp [ht] at h

theorem act_indexAddr (hV : EnvOk V) (hT : TOk P T) (hok : DstOk V o) {t : TypeId} {x i : Operand} (hop : o.op = .indexAddr t x i) (h : act Γ T o st κ = some r) : Sounds P V o st κ r := by
  simp only [act, wrU, hop] at h
  split at h
  · rename_i k n hi
    cases ht : T t with
    | slice E e bytes =>
      simp only [ht] at h
      have h1 := hT t
      rw [ht] at h1
      obtain ⟨hu, _, _, hcp, _, ti, z, hti, hsz, _⟩ := h1
      have hE : SizedAt P E e.cells := by simp [SizedAt, hti, hsz]
      have run : ∀ (W : Wit) (a : Act) (w : World) (g o' len cap : Nat), RelAt P V W st a w → 0 ≤ n → n < len → a.eval x = .slice (some ⟨g, o', none⟩) len cap →
          (execOp a.eval o).run P w = .ok (.value (.pointer (some ⟨g, o' + n.toNat * e.cells, none⟩))) w := by
        intro W a w g o' len cap hr h0 h1 hv
        have h2 := sized_run hE w
        simp [execOp, hop, hv, int_one hr hi, Instr.indexAt, asIntOf, run_underlying hu, h0, h1, h2, add_plain]
      split at h
      · rename_i r' j v hx
        split at h
        · rename_i p E' e' xs hd'
          cases hb : decide (e' = e) with
          | false => simp [hb] at h
          | true =>
            simp only [hb, cond_true] at h
            have hb := of_decide_eq_true hb
            subst hb
            obtain ⟨y, hy, h⟩ := Option.bind_eq_some_iff.1 h
            obtain ⟨h2, h3, h4⟩ := idx_some hy
            split at h
            · rename_i d hd
              refine ⟨_, h, fun W a w hr => ?_⟩
              obtain ⟨h7, _, _, _⟩ := one_ok hr x (by rw [hx]; simp)
              rw [hx] at h7
              obtain ⟨h8, h9, h10, h11⟩ := al_own hr hd' h7
              obtain ⟨A, cap, hA, hcap⟩ := h9.slice
              obtain ⟨flat, ho, hbs, _⟩ := h9
              rcases ho.2 with ⟨hn, h0⟩ | ⟨g, cap', cur, hv, _, _, _⟩
              · omega
              · refine goes_one hV hr hd hok (run W a w g 0 xs.length cap' hr h2 h3 hv) ⟨by omega, fun _ => ⟨g, xs.length, cap', by rw [h8, hv], by omega, by simp⟩⟩ id rfl
            · cases h
        · cases h
      · rename_i p E' e' xs hx
        cases hb : decide (e' = e) with
        | false => simp [hb] at h
        | true =>
          simp only [hb, cond_true] at h
          have hb := of_decide_eq_true hb
          subst hb
          obtain ⟨y, hy, h⟩ := Option.bind_eq_some_iff.1 h
          obtain ⟨h2, h3, h4⟩ := idx_some hy
          split at h
          · rename_i d hd
            refine ⟨_, h, fun W a w hr => ?_⟩
            obtain ⟨h7, _, _, _⟩ := one_ok hr x (by rw [hx]; simp)
            rw [hx] at h7
            obtain ⟨A, cap, hv, hcap, hrd⟩ := h7
            have hv : a.eval x = .slice A xs.length cap := by simpa using hv
            obtain ⟨g, o', rfl, hg, hel⟩ := hrd (by omega)
            obtain ⟨c, hc, hcl⟩ := hel n.toNat y h4
            refine goes_one hV hr hd hok (run W a w g o' xs.length cap hr h2 h3 hv) ⟨g, o' + n.toNat * e'.cells, c, rfl, ?_, hc, hcl⟩ id rfl
            rcases hg with hg | ⟨_, hg⟩
            · exact .inl hg
            · exact .inr (hV.ro g hg)
          · cases h
      · cases h
    | _ => simp [ht] at h
  · cases h

theorem isAgg_run {t : TypeId} {i : TI} (hi : TIok P t i) (hn : i.cells ≠ 0 ∨ i ≠ .none) (w : World) : (isAgg t).run P w = .ok i.agg w := by
  cases i with
  | none => simp [TI.cells] at hn
  | struct a flds =>
    obtain ⟨⟨fs, hu, _⟩, _⟩ := hi
    simp [isAgg, run_underlying hu, TI.agg]
  | ptr => obtain ⟨⟨e, hu⟩, _⟩ := hi; simp [isAgg, run_underlying hu, TI.agg]
  | fn => obtain ⟨⟨x, y, z, hu⟩, _⟩ := hi; simp [isAgg, run_underlying hu, TI.agg]
  | int k => simp [isAgg, run_underlying hi.1, TI.agg]
  | bool => simp [isAgg, run_underlying hi.1, TI.agg]
  | str => simp [isAgg, run_underlying hi.1, TI.agg]
  | slice E e b => simp [isAgg, run_underlying hi.1, TI.agg]

theorem ti_sized {t : TypeId} {i : TI} (hi : TIok P t i) (hn : i ≠ .none) : SizedAt P t i.cells := by
  cases i with
  | none => exact absurd rfl hn
  | struct a flds => exact hi.2.1
  | ptr => exact hi.2.1
  | fn => exact hi.2.1
  | int k => exact hi.2.1
  | bool => exact hi.2.1
  | str => exact hi.2.1
  | slice E e b => exact hi.2.1

/-- A load of cells that stand there. -/
theorem run_loadVar {t : TypeId} {i : TI} (hi : TIok P t i) (hn : i ≠ .none) {w : World} {g off : Nat} {cs : List Value} (hc : Cells w g off cs) (hl : cs.length = i.cells) :
    ∃ v, (loadVar t ⟨g, off, none⟩).run P w = .ok v w ∧ ShOk (shOf i.agg) v cs := by
  have h1 := isAgg_run hi (.inr hn) w
  cases ha : i.agg with
  | true =>
    refine ⟨.agg cs.toArray, ?_, rfl⟩
    have h2 := sized_run (ti_sized hi hn) w
    have h3 := run_loadCells_list (P := P) w ⟨g, off, none⟩ cs (fun j v hv => by rw [add_plain]; exact hc j v hv)
    rw [hl] at h3
    simp [loadVar, h1, ha, h2, h3]
  | false =>
    have hone : i.cells = 1 := by cases i <;> simp_all [TI.agg, TI.cells]
    rw [hone] at hl
    match cs, hl with
    | [v], _ =>
      have := hc 0 v rfl
      rw [Nat.add_zero] at this
      exact ⟨v, by simp [loadVar, h1, ha, this], rfl⟩

theorem Cells.sub {w : World} {g off : Nat} {cs : List Value} (h : Cells w g off cs) (k n : Nat) : Cells w g (off + k) ((cs.drop k).take n) := by
  intro i v hv
  rw [List.getElem?_take] at hv
  split at hv
  · rw [List.getElem?_drop] at hv
    have := h (k + i) v hv
    rwa [← Nat.add_assoc] at this
  · cases hv

theorem act_load (hV : EnvOk V) (hT : TOk P T) (hok : DstOk V o) {t : TypeId} {x : Operand} (hop : o.op = .load t x) (h : act Γ T o st κ = some r) : Sounds P V o st κ r := by
  simp only [act, wrU, hop] at h
  have hti := hT t
  have run : ∀ (W : Wit) (a : Act) (w : World) (g off : Nat) (cs : List Value) (ls : List Leaf) (d : Nat), RelAt P V W st a w → o.dst = some d → T t ≠ .none → a.eval x = .pointer (some ⟨g, off, none⟩) → Cells w g off cs →
      cs.length = (T t).cells → LsOk P V W st w ls cs → Goes P V o st (putU st [] d (shOf (T t).agg) ls) a w := by
    intro W a w g off cs ls d hr hd hn hv hc hl hls
    obtain ⟨v, h1, h2⟩ := run_loadVar hti hn hc hl
    exact goes_put hV hr hd hok (v := v) (by simp [execOp, hop, hv, Instr.loadAt, Instr.sureAddr, h1]) h2 hls
  cases hne : decide ((T t).cells = 0) with
  | true => simp [hne] at h
  | false =>
    simp only [hne, cond_false] at h
    have hne : (T t).cells ≠ 0 := of_decide_eq_false hne
    have hnn : T t ≠ .none := by intro e; rw [e] at hne; exact hne rfl
    split at h
    · rename_i p b y off hx
      cases hb : decide (off + (T t).cells ≤ b.cells) with
      | false => simp [hb] at h
      | true =>
        simp only [hb, cond_true] at h
        have hb := of_decide_eq_true hb
        split at h
        · rename_i d hd
          refine ⟨_, h, fun W a w hr => ?_⟩
          obtain ⟨h7, _, _, _⟩ := one_ok hr x (by rw [hx]; simp)
          rw [hx] at h7
          obtain ⟨g, og, c, hv, hg, hrd, hc⟩ := h7
          refine run W a w g _ ((c.drop off).take (T t).cells) _ d hr hd hnn hv (hc.sub off _) ?_ (((leaves_ok (fun _ h => h) hrd).drop off).take _)
          have := hrd.len
          simp; omega
        · cases h
    · rename_i b off hx
      cases hb : decide ((st b).sh = .agg) && decide (off + (T t).cells ≤ (st b).ls.length) with
      | false => simp [hb] at h
      | true =>
        simp only [hb, cond_true] at h
        simp only [Bool.and_eq_true, decide_eq_true_eq] at hb
        split at h
        · rename_i d hd
          refine ⟨_, h, fun W a w hr => ?_⟩
          obtain ⟨h7, _, _, _⟩ := one_ok hr x (by rw [hx]; simp)
          rw [hx] at h7
          obtain ⟨hB, hag, hv⟩ := h7
          rcases hr.boxes b hB with ⟨h8, _⟩ | ⟨_, E, h8⟩
          · rw [hag] at h8; cases h8
          · have hc : Cells w (W.β b) 0 (W.cs b) := fun i v hv => by
              rw [Nat.zero_add, cell_of_row w (W.β b) i _ E (0, 0) h8]
              simpa using hv
            have hlen := hr.len b
            have hc2 := hc.sub off (T t).cells
            rw [Nat.zero_add] at hc2
            refine run W a w (W.β b) off _ _ d hr hd hnn hv hc2 ?_ (((view_ok hr b).drop off).take _)
            simp; omega
        · cases h
    · rename_i p b y hx
      cases hb : Nat.beq (T t).cells 1 && !(T t).agg with
      | false => simp [hb] at h
      | true =>
        simp only [hb, cond_true] at h
        simp only [Bool.and_eq_true, Bool.not_eq_true'] at hb
        split at h
        · rename_i d hd
          refine ⟨_, h, fun W a w hr => ?_⟩
          obtain ⟨h7, _, _, _⟩ := one_ok hr x (by rw [hx]; simp)
          rw [hx] at h7
          obtain ⟨q, oq, g, og, c, hv, _, hcell, hg, hrd, hc⟩ := h7
          have := run W a w q oq [.pointer (some ⟨g, og, none⟩)] [.rp p b y 0] d hr hd hnn hv (fun i v hi => by
            cases i with
            | zero => simp at hi; subst hi; exact hcell
            | succ i => simp at hi) (by simp [Nat.eq_of_beq_eq_true hb.1]) ⟨⟨⟨g, og, c, rfl, hg, hrd, hc⟩, id, rfl⟩, trivial⟩
          rw [hb.2] at this
          exact this
        · cases h
    · rename_i r' j v i sz off hx
      split at h
      · rename_i p E e xs hd'
        cases hb : Nat.beq sz e.cells && decide (off + (T t).cells ≤ e.cells) with
        | false => simp [hb] at h
        | true =>
          simp only [hb, cond_true] at h
          simp only [Bool.and_eq_true, decide_eq_true_eq] at hb
          have hsz := Nat.eq_of_beq_eq_true hb.1
          subst hsz
          obtain ⟨y, hy, h⟩ := Option.bind_eq_some_iff.1 h
          obtain ⟨_, _, h4⟩ := idx_some hy
          simp only [Int.toNat_natCast] at h4
          split at h
          · rename_i d hd
            refine ⟨_, h, fun W a w hr => ?_⟩
            obtain ⟨h7, _, _, _⟩ := one_ok hr x (by rw [hx]; simp)
            rw [hx] at h7
            obtain ⟨h8, h9⟩ := deref_own hr hd'
            obtain ⟨g, len, cap, hh, hil, hv⟩ := h7.2 h8
            have how := hr.leaf r' j _ _ h9 hh
            have hrd := Ow.rd (E' := E) how
            obtain ⟨A, cap', hv', _, hrd⟩ := hrd
            have hA : A = some ⟨g, 0, none⟩ := by simp at hv'; exact hv'.1.symm
            subst hA
            obtain ⟨g', o', he, hg, hel⟩ := hrd (by have := (List.getElem?_eq_some_iff.1 h4).1; omega)
            simp at he
            obtain ⟨rfl, rfl⟩ := he
            obtain ⟨flat, ho, hbs, hfl⟩ := how
            obtain ⟨c, hc, hcl⟩ := hfl i y h4
            obtain ⟨c2, hc2, hcl2⟩ := hel i y h4
            -- the same cells
            have hcc : Cells w g (i * e.cells) c := by
              intro q u hu
              have h10 := hcl q u hu
              have := ho.cells (g := g) rfl _ u h10
              rwa [add_plain, Nat.zero_add] at this
            have := hcc.sub off (T t).cells
            refine run W a w g _ _ _ d hr hd hnn hv this ?_ (((leaves_ok (fun _ h => h) hc).drop off).take _)
            have := hc.len
            simp; omega
          · cases h
      · cases h
    · cases h

end
end Go.Proofs.YthgnfidnmnkeaaaGreatEv
