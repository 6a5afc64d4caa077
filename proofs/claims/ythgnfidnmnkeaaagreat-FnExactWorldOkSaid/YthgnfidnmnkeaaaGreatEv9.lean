/- One operation: parts of structs, structs, lengths, cuts. -/
import Derived.Test.YthgnfidnmnkeaaaGreatEv8
import Derived.Great.BuildSlice
namespace Go.Proofs.YthgnfidnmnkeaaaGreatEv
open Go Go.RowKit

section
variable {P : Program} {V : Env} {Γ : List Ctr} {T : TypeId → TI} {st : St} {o : Oper} {R : Type} {κ : Upd → Option R} {r : R}

theorem act_field (hV : EnvOk V) (hT : TOk P T) (hok : DstOk V o) {t : TypeId} {x : Operand} {f : Nat} (hop : o.op = .field t x f) (h : act Γ T o st κ = some r) : Sounds P V o st κ r := by
  simp only [act, wrU, hop] at h
  cases ht : T t with
  | struct b flds =>
    simp only [ht] at h
    split at h
    · rename_i off n agg hf
      have h1 := hT t
      rw [ht] at h1
      obtain ⟨⟨fs, hu, _, hfs⟩, _⟩ := h1
      obtain ⟨hn1, fd, h2, h3, h4, h5, h6, h7⟩ := hfs f off n agg hf
      cases hb : decide ((opnd st x).1 = .agg) && decide ((opnd st x).2.length = b.cells) with
      | false => simp [hb] at h
      | true =>
        simp only [hb, cond_true] at h
        simp only [Bool.and_eq_true, decide_eq_true_eq] at hb
        split at h
        · rename_i d hd
          refine ⟨_, h, fun W a w hr => ?_⟩
          obtain ⟨cs, hs, hl⟩ := opnd_ok hr x
          rw [hb.1] at hs
          have hlen := hl.length
          rw [hb.2] at hlen
          have hagg : (isAgg fd.type).run P w = .ok agg w := by
            unfold isAgg
            cases hd' : P.underlying fd.type with
            | none => simp [hd'] at h7
            | some dd =>
              rw [hd'] at h7
              simp only [Option.map_some, Option.some.injEq] at h7
              subst h7
              rw [Sem.run_bind, run_underlying hd' w]
              cases dd <;> rfl
          have hsz := sized_run h6 w
          cases agg with
          | true =>
            refine goes_put hV hr hd hok (v := .agg ((cs.drop off).take n).toArray) ?_ rfl ((hl.drop off).take n)
            have e : cs.toArray.extract off (off + n) = ((cs.drop off).take n).toArray := by
              rw [List.extract_toArray, List.extract_eq_take_drop, Nat.add_sub_cancel_left]
            have hp : (part fd.type cs.toArray off).run P w = .ok (.agg ((cs.drop off).take n).toArray) w := by
              simp only [part, Sem.run_bind, hagg, Result.andThen_ok, if_true, hsz, Sem.run_pure, e]
            simp only [execOp, hop, show a.eval x = _ from hs, Instr.field, Sem.run_bind, run_underlying hu, Result.andThen_ok, h2, asAgg, Sem.run_pure, h3, hp]
          | false =>
            have hn1 := hn1 rfl
            subst hn1
            have hoff : off < cs.length := by omega
            have hv : ((cs.drop off).take 1) = [cs[off]] := by
              rw [List.take_one, List.head?_drop, List.getElem?_eq_getElem hoff]
              rfl
            refine goes_put hV hr hd hok (v := cs[off]) ?_ (show ShOk .one _ ((cs.drop off).take 1) from hv) ((hl.drop off).take 1)
            have e : cs.toArray[off]? = some cs[off] := by simp [hoff]
            have hp : (part fd.type cs.toArray off).run P w = .ok cs[off] w := by
              simp only [part, Sem.run_bind, hagg, Result.andThen_ok, Bool.false_eq_true, if_false, e, Sem.run_pure]
            simp only [execOp, hop, show a.eval x = _ from hs, Instr.field, Sem.run_bind, run_underlying hu, Result.andThen_ok, h2, asAgg, Sem.run_pure, h3, hp]
        · cases h
    · cases h
  | _ => simp [ht] at h

theorem splice_length {α : Type} (old new : List α) (off : Nat) (h : off + new.length ≤ old.length) : (old.take off ++ new ++ old.drop (off + new.length)).length = old.length := by
  simp; omega

/-- One part's cells are filled in. -/
theorem fill_splice (cs c : List Value) (off : Nat) (h : off + c.length ≤ cs.length) :
    (c.zipIdx 0).foldl (fun cs (x : Value × Nat) => cs.setIfInBounds (off + x.2) x.1) cs.toArray = (cs.take off ++ c ++ cs.drop (off + c.length)).toArray := by
  obtain ⟨h1, h2⟩ := Great.foldl_set off c 0 cs.toArray
  apply Array.ext_getElem?
  intro k
  rw [h2 k]
  simp only [Nat.add_zero, List.size_toArray, List.getElem?_toArray]
  by_cases hk : off ≤ k ∧ k < off + c.length ∧ k < cs.length
  · rw [if_pos hk, List.append_assoc, List.getElem?_append_right (by simp; omega), List.getElem?_append_left (by simp; omega)]
    congr 1
    simp; omega
  · rw [if_neg hk]
    by_cases hlt : k < off
    · rw [List.append_assoc, List.getElem?_append_left (by simp; omega), List.getElem?_take, if_pos hlt]
    · rw [List.getElem?_append_right (by simp; omega), List.getElem?_drop]
      congr 1
      simp; omega

theorem cells_of_sh {agg : Bool} {v : Value} {cs : List Value} (h : ShOk (shOf agg) v cs) (h1 : ∀ u ∈ cs, u.oneCell' = true) : v.cells = cs.toArray := by
  cases agg with
  | true => rw [show v = _ from h]; rfl
  | false =>
    have h : cs = [v] := h
    subst h
    have := h1 v (List.mem_singleton.2 rfl)
    cases v <;> first | rfl | simp [Value.oneCell'] at this

theorem buildLs_ok {W : Wit} {a : Act} {w : World} (hr : RelAt P V W st a w) {flds : List (Nat × Nat × Bool)} : ∀ (ps : List (Nat × Operand)) (ls ls' : List Leaf) (cs : List Value),
    LsOk P V W st w ls cs → buildLs st flds ps ls = some ls' →
    ∃ cs', LsOk P V W st w ls' cs' ∧ Instr.fill ((flds.map fun x => (x.1, x.2.1)).toArray[·]?) cs.toArray (ps.map fun x => (x.1, a.eval x.2)) = some cs'.toArray
  | [], ls, ls', cs, hl, h => by
    simp [buildLs] at h
    subst h
    exact ⟨cs, hl, rfl⟩
  | (i, x) :: ps, ls, ls', cs, hl, h => by
    simp only [buildLs] at h
    split at h
    · rename_i off n agg hf
      cases hb : Nat.beq (opnd st x).2.length n && decide ((opnd st x).1 = shOf agg) && decide (off + n ≤ ls.length) with
      | false => simp [hb] at h
      | true =>
        simp only [hb, cond_true] at h
        simp only [Bool.and_eq_true, decide_eq_true_eq] at hb
        obtain ⟨⟨hb1, hb2⟩, hb3⟩ := hb
        have hb1 := Nat.eq_of_beq_eq_true hb1
        obtain ⟨c, hs, hl2⟩ := opnd_ok hr x
        rw [hb2] at hs
        have hc := cells_of_sh hs hl2.one'
        have hlen := hl.length
        have hlen2 := hl2.length
        have hsp : LsOk P V W st w (splice ls (opnd st x).2 off) (cs.take off ++ c ++ cs.drop (off + c.length)) := by
          unfold splice
          rw [hlen2]
          exact ((hl.take off).append hl2).append (hl.drop _)
        obtain ⟨cs', h1, h2⟩ := buildLs_ok hr ps _ ls' _ hsp h
        refine ⟨cs', h1, ?_⟩
        simp only [List.map_cons, Instr.fill]
        have hfd : (flds.map fun x => (x.1, x.2.1)).toArray[i]? = some (off, n) := by simp [hf]
        have hcs : c.toArray.size = n := by simp; omega
        simp only [hfd, hc]
        rw [if_neg (by simp; omega)]
        have e : c.toArray.zipIdx.foldl (fun cs (x : Value × Nat) => cs.setIfInBounds (off + x.2) x.1) cs.toArray = (c.zipIdx 0).foldl (fun cs (x : Value × Nat) => cs.setIfInBounds (off + x.2) x.1) cs.toArray := by
          rw [← Array.foldl_toList]
          simp
        have e2 := fill_splice cs c off (by omega)
        rw [← e2, ← e] at h2
        exact h2
    · cases h

theorem zero_ok {W : Wit} {w : World} : ∀ (b : Ty), LsOk P V W st w (zeroLeaves b) (zeroCells b)
  | .int _ => ⟨⟨rfl, id, rfl⟩, trivial⟩
  | .bool => ⟨⟨rfl, id, rfl⟩, trivial⟩
  | .str => ⟨⟨rfl, id, rfl⟩, trivial⟩
  | .unit => trivial
  | .pair a b => (zero_ok a).append (zero_ok b)
  | .list _ _ => ⟨⟨rfl, id, rfl⟩, trivial⟩

theorem act_build (hV : EnvOk V) (hT : TOk P T) (hok : DstOk V o) {t : TypeId} {parts : Array (Nat × Operand)} (hop : o.op = .build t parts) (h : act Γ T o st κ = some r) : Sounds P V o st κ r := by
  simp only [act, wrU, hop] at h
  cases ht : T t with
  | struct b flds =>
    simp only [ht] at h
    split at h
    · rename_i ls hls
      split at h
      · rename_i d hd
        refine ⟨_, h, fun W a w hr => ?_⟩
        have h1 := hT t
        rw [ht] at h1
        obtain ⟨⟨fs, hu, hpl, _⟩, _, hz, _⟩ := h1
        obtain ⟨cs', h2, h3⟩ := buildLs_ok hr parts.toList _ ls _ (zero_ok b) hls
        refine goes_put hV hr hd hok (v := .agg cs'.toArray) ?_ rfl h2
        have hbuilt : P.built t (parts.map fun (i, x) => (i, a.eval x)).toList = some cs'.toArray := by
          unfold ZeroAt at hz
          unfold Program.built
          cases hi : P.info? t with
          | none => simp [hi] at hz
          | some ti =>
            simp [hi] at hz
            simp only [hu, hz, hpl]
            rw [Array.toList_map]
            exact h3
        simp [execOp, hop, run_build w t _ _ hbuilt]
      · cases h
    · cases h
  | _ => simp [ht] at h

theorem boundK_ok {W : Wit} {a : Act} {w : World} (hr : RelAt P V W st a w) {x : Option Operand} {dflt n : Int} (h : boundK st x dflt = some n) :
    (x = none ∧ n = dflt) ∨ ∃ y k, x = some y ∧ a.eval y = .int k n := by
  unfold boundK at h
  split at h
  · simp at h; exact .inl ⟨rfl, h.symm⟩
  · split at h
    · rename_i l k m hl
      simp at h
      subst h
      exact .inr ⟨_, k, rfl, int_one hr hl⟩
    · cases h

theorem run_bounds (isSlice : Bool) (len cap : Nat) (hlc : len ≤ cap) (lo hi : Option Value) (i h : Int) (hi0 : 0 ≤ i) (hih : i ≤ h) (hh : h ≤ len) (hlo : (lo = none ∧ i = 0) ∨ ∃ k, lo = some (.int k i))
    (hhi : (hi = none ∧ h = len) ∨ ∃ k, hi = some (.int k h)) (w : World) : (Instr.sliceBounds isSlice len cap lo hi none).run P w = .ok (i.toNat, h.toNat, cap) w := by
  have h0 : 0 ≤ h := by omega
  have hc : h ≤ (cap : Int) := by omega
  have hih' : i ≤ ((h.toNat : Nat) : Int) := by omega
  rcases hlo with ⟨rfl, rfl⟩ | ⟨k, rfl⟩ <;> rcases hhi with ⟨rfl, rfl⟩ | ⟨k', rfl⟩ <;>
    simp [Instr.sliceBounds, Instr.sliceBound, asIntOf, hi0, h0, hc, hih', hih, -Int.ofNat_toNat]

theorem deref_plain (hV : EnvOk V) {W : Wit} {a : Act} {w : World} (hr : RelAt P V W st a w) {x : Operand} {l : Leaf} (hx : deref st (one st x) = l) (hd : l ≠ .dead) (hno : ¬ isOwn l) : LeafOk P V W st w [] l (a.eval x) := by
  have hd' : one st x ≠ .dead := by intro e; rw [e] at hx; exact hd hx.symm
  obtain ⟨h1, h2, _⟩ := one_ok hr x hd'
  rcases deref_ok hV hr h1 h2 with ⟨_, _, _, _, h3, _⟩ | ⟨_, h3⟩
  · rw [hx] at h3; exact absurd h3 hno
  · rw [hx] at h3; exact h3

theorem deref_owned (hV : EnvOk V) {W : Wit} {a : Act} {w : World} (hr : RelAt P V W st a w) {x : Operand} {p : Bool} {E : TypeId} {e : Ty} {xs : List e.den} (hx : deref st (one st x) = .own p E e xs) :
    ∃ r i n, one st x = .al r i n ∧ (st r).ls[i]? = some (.own p E e xs) ∧ Ow w (gd V W p) E e xs (a.eval x) (W.bs r i) ∧ (W.cs r)[i]? = some (a.eval x) ∧ (st r).ver = n := by
  have hd' : one st x ≠ .dead := by intro e; rw [e] at hx; cases hx
  obtain ⟨h1, h2, _⟩ := one_ok hr x hd'
  rcases deref_ok hV hr h1 h2 with ⟨r, i, n, e1, _, _, _⟩ | ⟨h3, _⟩
  · rw [e1] at hx h1
    obtain ⟨h3, h4, h5, h6⟩ := al_own hr hx h1
    exact ⟨r, i, n, e1, h5, h4, h3, h6⟩
  · rw [hx] at h3; exact absurd trivial h3

/-- What is frozen goes on its way. -/
theorem goes_frz (hV : EnvOk V) {W : Wit} {a : Act} {w : World} (h : RelAt P V W st a w) {d : Nat} (hd : o.dst = some d) (hok : DstOk V o) (ks : List (Nat × Nat)) {v : Value} {sh : Shape} {ls : List Leaf} {cs : List Value}
    (hrun : (execOp a.eval o).run P w = .ok (.value v) w) (hs : ShOk sh v cs) (hl : LsOk P V (W.frz st ks) (look (frzU st ks) st) w ls cs) : Goes P V o st (putU st (frzU st ks) d sh ls) a w := by
  intro next Q hn
  refine wp_value hrun ?_
  rw [hd]
  refine hn _ _ ?_
  rw [putU, look_cons]
  exact (frzU_ok hV ks h).1.putLs hV d (hok d hd).1 (hok d hd).2 _ sh ls v cs (Nat.lt_succ_self _) hs hl

theorem Cells.shift {w : World} {g o : Nat} {c : List Value} {k s j : Nat} (h : Cells w g (o + (k + j) * s) c) : Cells w g (o + k * s + j * s) c := by
  rwa [Nat.add_assoc, ← Nat.add_mul]

/-- A cut of a list that is read. -/
theorem Rd.cut {w : World} {G : Nat → Prop} {E : TypeId} {e : Ty} {xs : List e.den} {A : Option Addr} {cap : Nat} (h : Rd w G (.list E e) xs [.slice A xs.length cap]) (i n : Nat) (hin : i ≤ n) (hn : n ≤ xs.length) :
    Rd w G (.list E e) ((xs.take n).drop i) [.slice (if cap = i then A else A.map (·.add (i * e.cells))) (n - i) (cap - i)] := by
  obtain ⟨A', cap', he, hc, hx⟩ := h
  simp at he
  obtain ⟨rfl, rfl⟩ := he
  have hl : ((xs.take n).drop i).length = n - i := by simp; omega
  refine ⟨_, cap - i, by rw [hl], by rw [hl]; omega, fun hp => ?_⟩
  rw [hl] at hp
  obtain ⟨g, o, rfl, hg, hel⟩ := hx (by omega)
  refine ⟨g, o + i * e.cells, ?_, hg, fun j x hj => ?_⟩
  · rw [if_neg (by omega)]
    simp [add_plain]
  · rw [List.getElem?_drop, List.getElem?_take] at hj
    split at hj
    · obtain ⟨c, hr, hcl⟩ := hel (i + j) x hj
      exact ⟨c, hr, hcl.shift⟩
    · cases hj

theorem act_slice (hV : EnvOk V) (hT : TOk P T) (hok : DstOk V o) {t : TypeId} {x : Operand} {lo hi mx : Option Operand} (hop : o.op = .slice t x lo hi mx) (h : act Γ T o st κ = some r) : Sounds P V o st κ r := by
  simp only [act, wrU, hop] at h
  split at h
  · rename_i d hmx hd
    split at h
    · cases h
    · rename_i i hlo
      have h1 := hT t
      have opt : ∀ (W : Wit) (a : Act) (w : World) (y : Option Operand) (dflt n : Int), RelAt P V W st a w → boundK st y dflt = some n → (y.map a.eval = none ∧ n = dflt) ∨ ∃ k, y.map a.eval = some (.int k n) := by
        intro W a w y dflt n hr hb
        rcases boundK_ok hr hb with ⟨rfl, rfl⟩ | ⟨z, k, rfl, hz⟩
        · exact .inl ⟨rfl, rfl⟩
        · exact .inr ⟨k, by simp [hz]⟩
      split at h
      · rename_i s ht hx
        rw [ht] at h1
        split at h
        · rename_i n hhi
          cases hb : decide (0 ≤ i) && decide (i ≤ n) && decide (n ≤ (s.size : Int)) with
          | false => simp [hb] at h
          | true =>
            simp only [hb, cond_true] at h
            simp only [Bool.and_eq_true, decide_eq_true_eq] at hb
            refine ⟨_, h, fun W a w hr => goes_one hV hr hd hok (v := .string (s.extract i.toNat n.toNat)) ?_ rfl id rfl⟩
            have hrun := run_bounds (P := P) false s.size s.size (Nat.le_refl _) (lo.map a.eval) (hi.map a.eval) i n hb.1.1 hb.1.2 hb.2 (opt W a w lo 0 i hr hlo) (opt W a w hi _ n hr hhi) w
            have hx' : a.eval x = .string s := (deref_plain hV hr hx (by simp) (by simp [isOwn]))
            simp [execOp, hop, hx', Instr.sliceAt, Instr.slice, run_underlying h1.1, hrun]
        · cases h
      · rename_i E' e' bytes p E e xs ht hx
        rw [ht] at h1
        obtain ⟨hu, _, _, _, _, ti, z, hti, hsz, _⟩ := h1
        split at h
        · rename_i n hhi
          cases hb : decide (0 ≤ i) && decide (i ≤ n) && decide (n ≤ (xs.length : Int)) && decide (e' = e) with
          | false => simp [hb] at h
          | true =>
            simp only [hb, cond_true] at h
            simp only [Bool.and_eq_true, decide_eq_true_eq] at hb
            obtain ⟨hb, rfl⟩ := hb
            refine ⟨_, h, fun W a w hr => ?_⟩
            have hl := deref_plain hV hr hx (by simp) (by simp [isOwn])
            obtain ⟨A, cap, hv, hcap, hrest⟩ := hl
            have hv : a.eval x = .slice A xs.length cap := by simpa using hv
            have hrun := run_bounds (P := P) true xs.length cap hcap (lo.map a.eval) (hi.map a.eval) i n hb.1.1 hb.1.2 hb.2 (opt W a w lo 0 i hr hlo) (opt W a w hi _ n hr hhi) w
            have hE := sized_run (P := P) (t := E') (n := e'.cells) (by simp [SizedAt, hti, hsz]) w
            have hcut := Rd.cut (E := E) (⟨A, cap, rfl, hcap, hrest⟩ : Rd w (gd V W p) (.list E e') xs [.slice A xs.length cap]) i.toNat n.toNat (by omega) (by omega)
            refine goes_frz hV hr hd hok _ (v := .slice (if cap = i.toNat then A else A.map (·.add (i.toNat * e'.cells))) (n.toNat - i.toNat) (cap - i.toNat)) ?_ rfl
              ⟨⟨Rd.mono (gd_mono (W' := W.frz st _) (fun h => h) (fun _ h => Or.inl h)) hcut, id, rfl⟩, trivial⟩
            simp only [execOp, hop, hv, Instr.sliceAt, Instr.slice, Sem.run_bind, run_underlying hu, Result.andThen_ok, Option.map_none, hrun, hE, Sem.run_pure]
        · cases h
      · rename_i E' e' bytes p E e xs ht hx
        rw [ht] at h1
        obtain ⟨hu, _, _, _, _, ti, z, hti, hsz, _⟩ := h1
        split at h
        · rename_i n hhi
          cases hb : decide (0 ≤ i) && decide (i ≤ n) && decide (n ≤ (xs.length : Int)) && decide (e' = e) with
          | false => simp [hb] at h
          | true =>
            simp only [hb, cond_true] at h
            simp only [Bool.and_eq_true, decide_eq_true_eq] at hb
            obtain ⟨hb, rfl⟩ := hb
            refine ⟨_, h, fun W a w hr => ?_⟩
            obtain ⟨r', j, n', e1, h2, how, _, _⟩ := deref_owned hV hr hx
            obtain ⟨A, cap, hv, hcap⟩ := how.slice
            have hrun := run_bounds (P := P) true xs.length cap hcap (lo.map a.eval) (hi.map a.eval) i n hb.1.1 hb.1.2 hb.2 (opt W a w lo 0 i hr hlo) (opt W a w hi _ n hr hhi) w
            have hE := sized_run (P := P) (t := E') (n := e'.cells) (by simp [SizedAt, hti, hsz]) w
            have hrd := Ow.rd (E' := E) how
            rw [hv] at hrd
            have hcut := Rd.cut hrd i.toNat n.toNat (by omega) (by omega)
            refine goes_frz hV hr hd hok _ (v := .slice (if cap = i.toNat then A else A.map (·.add (i.toNat * e'.cells))) (n.toNat - i.toNat) (cap - i.toNat)) ?_ rfl
              ⟨⟨Rd.mono (fun k hk => ?_) hcut, id, rfl⟩, trivial⟩
            · simp only [execOp, hop, hv, Instr.sliceAt, Instr.slice, Sem.run_bind, run_underlying hu, Result.andThen_ok, Option.map_none, hrun, hE, Sem.run_pure]
            · rcases hk with hk | hk
              · exact gd_mono (W' := W.frz st _) (fun h => h) (fun _ h => Or.inl h) k hk
              · refine .inl (.inr ⟨(r', j), ?_, ⟨_, h2, trivial⟩, hk⟩)
                rw [e1]
                rw [e1] at hx
                simp [owned, hx]
        · cases h
      · cases h
  · cases h

/-- The length of what is there. -/
theorem act_len (hV : EnvOk V) (hT : TOk P T) (hok : DstOk V o) {c : Call} (hop : o.op = .call c) (hc : c.callee = .builtin .len) (h : act Γ T o st κ = some r) : Sounds P V o st κ r := by
  simp only [act, wrU, hop, hc] at h
  split at h
  · cases h
  · rename_i d hd
    simp only [hd] at h
    split at h
    · rename_i x hx
      split at h
      · rename_i t ht
        have hargs : c.args = #[x] := by rw [← Array.toArray_toList (xs := c.args), hx]
        have htys : c.argTypes = #[t] := by rw [← Array.toArray_toList (xs := c.argTypes), ht]
        have h1 := hT t
        have run : ∀ (a : Act) (w : World) (n : Int), (Builtin.len_ #[t] o.type #[a.eval x]).run P w = .ok (.int .i64 n) w → (execOp a.eval o).run P w = .ok (.value (.int .i64 n)) w := by
          intro a w n hn
          simp [execOp, hop, hc, resolve, invoke, builtin, hargs, htys, hn]
        split at h
        · rename_i E e b p E' e' xs hti hdx
          rw [hti] at h1
          refine ⟨_, h, fun W a w hr => goes_one hV hr hd hok (run a w _ ?_) rfl id rfl⟩
          obtain ⟨A, cap, hv, _⟩ := deref_plain hV hr hdx (by simp) (by simp [isOwn])
          have hv : a.eval x = .slice A xs.length cap := by simpa using hv
          simp [Builtin.len_, run_underlying h1.1, hv, goInt]
        · rename_i E e b p E' e' xs hti hdx
          rw [hti] at h1
          refine ⟨_, h, fun W a w hr => goes_one hV hr hd hok (run a w _ ?_) rfl id rfl⟩
          obtain ⟨_, _, _, _, _, how, _⟩ := deref_owned hV hr hdx
          obtain ⟨A, cap, hv, _⟩ := how.slice
          simp [Builtin.len_, run_underlying h1.1, hv, goInt]
        · rename_i E e b hti hdx
          rw [hti] at h1
          refine ⟨_, h, fun W a w hr => goes_one hV hr hd hok (run a w _ ?_) rfl id rfl⟩
          have hv : a.eval x = .slice none 0 0 := deref_plain hV hr hdx (by simp) (by simp [isOwn])
          simp [Builtin.len_, run_underlying h1.1, hv, goInt]
        · rename_i s hti hdx
          rw [hti] at h1
          refine ⟨_, h, fun W a w hr => goes_one hV hr hd hok (run a w _ ?_) rfl id rfl⟩
          have hv : a.eval x = .string s := deref_plain hV hr hdx (by simp) (by simp [isOwn])
          simp [Builtin.len_, run_underlying h1.1, hv, goInt]
        · cases h
      · cases h
    · cases h

end
end Go.Proofs.YthgnfidnmnkeaaaGreatEv
