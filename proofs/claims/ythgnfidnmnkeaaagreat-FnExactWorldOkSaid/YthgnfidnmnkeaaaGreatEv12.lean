/- One operation: lists that are made, and grown; the lesser and the greater. -/
import Derived.Test.YthgnfidnmnkeaaaGreatEv11
namespace Go.Proofs.YthgnfidnmnkeaaaGreatEv
open Go Go.RowKit

section
variable {P : Program} {V : Env} {Γ : List Ctr} {T : TypeId → TI} {st : St} {o : Oper} {R : Type} {κ : Upd → Option R} {r : R}

/-- A slot is written with a new owned list. -/
theorem RelAt.putOwn (hV : EnvOk V) {W : Wit} {a : Act} {w w' : World} (h : RelAt P V W st a w) (hsz : w.heap.size ≤ w'.heap.size) (hos : w'.os = w.os) (ht : w'.tape = w.tape) (ho : w'.output = w.output)
    (hk : ∀ k, used V W st k → w'.heap[k]? = w.heap[k]?) (d : Nat) (hd : d < V.nt) (hfix : ∀ x ∈ V.fixt, x.1 ≠ d) (n : Nat) (hn : (st d).ver < n) {p : Bool} {E : TypeId} {e : Ty} {xs : List e.den} {v : Value} {bs : List Nat}
    (ow : Ow w' (gd V W p) E e xs v bs) (hb : ∀ k ∈ bs, ¬ used V W st k) : Rel P V (look [(d, ⟨n, .one, [.own p E e xs]⟩)] st) (a.put (some d) v) w' := by
  refine ⟨_, (h.world hV hsz hos ht ho hk).put hV d hd hfix n .one [.own p E e xs] v [v] (fun _ => bs) hn rfl rfl (fun u hu => by simp at hu; subst hu; exact ow.one) ?_ ?_ ?_⟩
  · intro j l u h1 h2
    cases j with
    | zero => simp at h1 h2; subst h1; subst h2; exact ow
    | succ j => simp at h1
  · intro j l h1 h2 k hk'
    have := hb k hk'
    simp only [used, not_or, not_exists, not_and] at this
    exact ⟨this.1, this.2.1, this.2.2.1, fun r1 j1 l1 _ h3 h4 => this.2.2.2 r1 j1 l1 h3 h4⟩
  · intro j j' l l' h1 h2 h3 h4 k h5 h6
    have h7 : j < 1 := (List.getElem?_eq_some_iff.1 h1).1
    have h8 : j' < 1 := (List.getElem?_eq_some_iff.1 h3).1
    omega

theorem owned_single (st : St) (x : Operand) (hx : (opnd st x).2 = [one st x]) : owned st (opnd st x).2 = owned st [one st x] := by rw [hx]

theorem reach_append {W : Wit} {p q : Bool} {k1 k2 : List (Nat × Nat)} : (∀ k, reach V W p k1 k → reach V W (p || q) (k1 ++ k2) k) ∧ (∀ k, reach V W q k2 k → reach V W (p || q) (k1 ++ k2) k) := by
  constructor
  · rintro k (hk | ⟨x, hx, hk⟩)
    · exact .inl (gd_mono (W' := W) (by intro h; simp [h]) (fun _ h => h) k hk)
    · exact .inr ⟨x, List.mem_append_left _ hx, hk⟩
  · rintro k (hk | ⟨x, hx, hk⟩)
    · exact .inl (gd_mono (W' := W) (by intro h; simp [h]) (fun _ h => h) k hk)
    · exact .inr ⟨x, List.mem_append_right _ hx, hk⟩

theorem buildEls_ok {W : Wit} {a : Act} {w : World} (hr : RelAt P V W st a w) {e : Ty} : ∀ (ps : List (Nat × Operand)) (k : Nat) (p : Bool) (xs : List e.den) (ks : List (Nat × Nat)), buildEls st e k ps = some (p, xs, ks) →
    ps.map (fun x => (x.1, a.eval x.2)) = ((ps.map fun x => a.eval x.2).zipIdx k).map (fun x => (x.2, x.1)) ∧ xs.length = ps.length ∧ (∀ x ∈ ks, ∃ l, (st x.1).ls[x.2]? = some l ∧ isOwn l) ∧
    ∀ (j : Nat) (x : e.den), xs[j]? = some x → ∃ v c, (ps.map fun x => a.eval x.2)[j]? = some v ∧ v.cells = c.toArray ∧ Rd w (reach V W p ks) e x c
  | [], k, p, xs, ks, h => by
    simp [buildEls] at h
    obtain ⟨_, rfl, rfl⟩ := h
    exact ⟨rfl, rfl, by simp, fun j x hj => by simp at hj⟩
  | (i, y) :: ps, k, p, xs, ks, h => by
    simp only [buildEls] at h
    cases hb : Nat.beq i k && decide ((opnd st y).1 = shOf e.isAgg) with
    | false => simp [hb] at h
    | true =>
      simp only [hb, cond_true] at h
      simp only [Bool.and_eq_true, decide_eq_true_eq] at hb
      have hik := Nat.eq_of_beq_eq_true hb.1
      subst hik
      split at h
      · rename_i p1 y1 p2 ys ks2 hg hbe
        simp only [Option.some.injEq, Prod.mk.injEq] at h
        obtain ⟨rfl, rfl, rfl⟩ := h
        obtain ⟨h1, h2, h3, h4⟩ := buildEls_ok hr ps (i + 1) p2 ys ks2 hbe
        obtain ⟨cs, hs, hl⟩ := opnd_ok hr y
        rw [hb.2] at hs
        have hc := cells_of_sh hs hl.one'
        refine ⟨by simp [h1], by simp [h2], ?_, ?_⟩
        · intro x hx
          rcases List.mem_append.1 hx with hx | hx
          · have := (reach_frz hr (ls := (opnd st y).2) (fun _ h => h) false)
            exact owned_own hr hx
          · exact h3 x hx
        · intro j x hj
          cases j with
          | zero =>
            simp at hj
            subst hj
            exact ⟨a.eval y, cs, by simp, hc, Rd.mono reach_append.1 (gatherAll_ok hr hl hg)⟩
          | succ j =>
            obtain ⟨v, c, h5, h6, h7⟩ := h4 j x (by simpa using hj)
            exact ⟨v, c, by simpa using h5, h6, Rd.mono reach_append.2 h7⟩
      · cases h
where
  owned_own {W : Wit} {a : Act} {w : World} (h : RelAt P V W st a w) {x : Nat × Nat} : ∀ {ls : List Leaf}, x ∈ owned st ls → ∃ l, (st x.1).ls[x.2]? = some l ∧ isOwn l := by
    intro ls
    induction ls with
    | nil => intro h; simp [owned] at h
    | cons l ls ih =>
      intro h'
      cases l with
      | al r j v =>
        simp only [owned, List.mem_append] at h'
        rcases h' with h' | h'
        · split at h'
          · rename_i p E e xs hd
            simp at h'
            subst h'
            exact ⟨_, (deref_own h hd).2, trivial⟩
          · simp at h'
        · exact ih h'
      | _ => exact ih h'

theorem zero_rd (w : World) (G : Nat → Prop) : ∀ (b : Ty), Rd w G b b.zero (zeroCells b)
  | .int _ => rfl
  | .bool => rfl
  | .str => rfl
  | .unit => rfl
  | .pair a b => ⟨_, _, rfl, zero_rd w G a, zero_rd w G b⟩
  | .list E e => Rd.nil w G E e

/-- What is reached through what has just been frozen. -/
theorem reach_gd {W : Wit} {p : Bool} {ks : List (Nat × Nat)} (hks : ∀ x ∈ ks, ∃ l, (st x.1).ls[x.2]? = some l ∧ isOwn l) : ∀ k, reach V W p ks k → gd V (W.frz st ks) p k := by
  rintro k (hk | ⟨x, hx, hk⟩)
  · exact gd_mono (W' := W.frz st ks) (fun h => h) (fun _ h => Or.inl h) k hk
  · exact .inl (.inr ⟨x, hx, hks x hx, hk⟩)

theorem maxLen_val : (9223372036854775807 : Nat) ≤ maxLen := by decide

theorem act_buildSlice (hV : EnvOk V) (hT : TOk P T) (hok : DstOk V o) {t : TypeId} {n : Nat} {parts : Array (Nat × Operand)} (hop : o.op = .buildSlice t n parts) (h : act Γ T o st κ = some r) : Sounds P V o st κ r := by
  simp only [act, wrU, hop] at h
  cases ht : T t with
  | slice E e bytes =>
    simp only [ht] at h
    split at h
    · rename_i p xs ks hbe
      cases hb : Nat.beq xs.length n && decide (n * e.cells ≤ 16777216) with
      | false => simp [hb] at h
      | true =>
        simp only [hb, cond_true] at h
        simp only [Bool.and_eq_true, decide_eq_true_eq] at hb
        have hxn := Nat.eq_of_beq_eq_true hb.1
        subst hxn
        split at h
        · rename_i d hd
          refine ⟨_, h, fun W a w hr next Q hn => ?_⟩
          have h1 := hT t
          rw [ht] at h1
          obtain ⟨hu, _, _, hcp, _, ti, z, hti, hsz, _, hz, hzc⟩ := h1
          obtain ⟨h2, h3, h4, h5⟩ := buildEls_ok hr parts.toList 0 p xs ks hbe
          have hvs : ∀ v ∈ (parts.toList.map fun x => a.eval x.2), v.cells.size = e.cells := by
            intro v hv
            obtain ⟨j, hj, e1⟩ := List.getElem_of_mem hv
            have hj' : j < xs.length := by rw [h3]; simpa using hj
            obtain ⟨v', c, h6, h7, h8⟩ := h5 j xs[j] (List.getElem?_eq_getElem hj')
            rw [List.getElem?_eq_getElem hj] at h6
            simp only [Option.some.injEq] at h6
            rw [← e1, h6, h7]
            simpa using h8.len
          have hvl : (parts.toList.map fun x => a.eval x.2).length = xs.length := by rw [List.length_map, h3]
          have hflat : ∀ (j : Nat) (x : e.den), xs[j]? = some x → ∃ c, Rd w (reach V W p ks) e x c ∧ ∀ i u, c[i]? = some u →
              ((parts.toList.map fun x => a.eval x.2).flatMap fun v => v.cells.toList)[j * e.cells + i]? = some u := by
            intro j x hj
            obtain ⟨v, c, h6, h7, h8⟩ := h5 j x hj
            refine ⟨c, h8, fun i u hi => ?_⟩
            have hil : i < e.cells := by rw [← h8.len]; exact (List.getElem?_eq_some_iff.1 hi).1
            rw [Great.flat_get hcp _ hvs]
            have e1 : (j * e.cells + i) / e.cells = j := by
              rw [Nat.mul_comm, Nat.mul_add_div hcp, Nat.div_eq_of_lt hil, Nat.add_zero]
            have e2 : (j * e.cells + i) % e.cells = i := by
              rw [Nat.mul_comm, Nat.mul_add_mod, Nat.mod_eq_of_lt hil]
            rw [e1, e2, h6]
            simpa [h7] using hi
          have hflen : ((parts.toList.map fun x => a.eval x.2).flatMap fun v => v.cells.toList).length = xs.length * e.cells := by
            have : ∀ (vs : List Value), (∀ v ∈ vs, v.cells.size = e.cells) → (vs.flatMap fun v => v.cells.toList).length = vs.length * e.cells := by
              intro vs
              induction vs with
              | nil => intro _; simp
              | cons v vs ih =>
                intro hv
                rw [List.flatMap_cons, List.length_append, ih (fun u hu => hv u (List.mem_cons_of_mem _ hu)), Array.length_toList, hv v (List.mem_cons_self ..), List.length_cons, Nat.succ_mul]
                omega
            rw [this _ hvs, hvl]
          -- the run
          have hfill := Great.fill_whole hcp (parts.toList.map fun x => a.eval x.2) ((Array.range (xs.length * e.cells)).map ((if xs.length * e.cells = 0 then (#[] : Array Value) else z.cells)[· % (if xs.length * e.cells = 0 then (#[] : Array Value) else z.cells).size]!)) hvs (by rw [hvl]; simp)
          rw [← h2] at hfill
          have hpl : (parts.map fun (i, x) => (i, a.eval x)).toList = parts.toList.map fun x => (x.1, a.eval x.2) := by rw [Array.toList_map]
          have hrun : (execOp a.eval o).run P w = .ok (.value (.slice (some ⟨w.heap.size, 0, none⟩) xs.length xs.length)) (w.alloc (.cells ((parts.toList.map fun x => a.eval x.2).flatMap fun v => v.cells.toList).toArray E)) := by
            have hsmall : ¬ (xs.length * e.cells > 2 ^ 24) := by omega
            by_cases h0 : xs.length * e.cells = 0
            · rw [if_pos h0] at hfill
              simp only [execOp, hop, Instr.buildSlice, Sem.run_bind, run_underlying hu, Result.andThen_ok, sizeOf, typeInfo, hti, hsz, hpl]
              simp [hsmall, h0, newRow, hti, hsz, hpl] at hfill ⊢
              simp [hfill]
            · rw [if_neg h0] at hfill
              have := run_buildSlice (P := P) w t E xs.length (parts.map fun (i, x) => (i, a.eval x)) _ ti z hu hti hz (by rw [hsz]; exact hsmall) (by rw [hsz]; exact h0) (by rw [hsz, hpl]; exact hfill)
              simp [execOp, hop, this]
          refine wp_value hrun ?_
          rw [hd]
          refine hn _ _ ?_
          rw [putU, look_cons]
          obtain ⟨h6, _, _⟩ := frzU_ok hV ks hr
          have hul := h6.used_lt
          have hmax : xs.length ≤ maxLen := by
            have := maxLen_val
            have : xs.length * 1 ≤ xs.length * e.cells := Nat.mul_le_mul_left _ hcp
            omega
          have how := World.ownsRow_lit (e := E) (size := e.cells) (base := 0) w ((parts.toList.map fun x => a.eval x.2).flatMap fun v => v.cells.toList).toArray xs.length (Nat.zero_le _) hmax (by simpa using hflen)
          refine h6.putOwn hV (w' := w.alloc (.cells ((parts.toList.map fun x => a.eval x.2).flatMap fun v => v.cells.toList).toArray E)) (by simp) rfl rfl rfl (fun k hk => Go.heap_alloc_old w _ (hul k hk)) d (hok d hd).1 (hok d hd).2 _ (Nat.lt_succ_self _) (bs := [w.heap.size]) ?_ (fun k hk hu => ?_)
          · refine ⟨_, how, rfl, fun j x hj => ?_⟩
            obtain ⟨c, hc1, hc2⟩ := hflat j x hj
            have hgl : ∀ k, reach V W p ks k → k < w.heap.size := fun k hk => by
              rcases reach_gd h4 k hk with hk | ⟨_, hk⟩
              · exact (h6.nwlt k hk).1
              · exact Nat.lt_of_lt_of_le (hV.ro k hk).1 h6.size
            exact ⟨c, hc1.carry (reach_gd h4) (fun k hk => Go.heap_alloc_old w _ (hgl k hk)), fun i u hi => by simpa using hc2 i u hi⟩
          · simp at hk
            have := hul k hu
            omega
        · cases h
    · cases h
  | _ => simp [ht] at h

theorem act_makeSlice (hV : EnvOk V) (hT : TOk P T) (hok : DstOk V o) {t : TypeId} {n c : Operand} (hop : o.op = .makeSlice t n c) (h : act Γ T o st κ = some r) : Sounds P V o st κ r := by
  simp only [act, wrU, hop] at h
  split at h
  · rename_i E e bytes k1 m k2 m' ht hn1 hc1
    cases hb : decide (0 ≤ m) && decide (m = m') && decide (m * bytes ≤ (sizeK : Int)) with
    | false => simp [hb] at h
    | true =>
      simp only [hb, cond_true] at h
      simp only [Bool.and_eq_true, decide_eq_true_eq] at hb
      obtain ⟨⟨h0, rfl⟩, hby⟩ := hb
      split at h
      · rename_i d hd
        refine ⟨_, h, fun W a w hr next Q hn => ?_⟩
        have h1 := hT t
        rw [ht] at h1
        obtain ⟨hu, _, _, hcp, hbp, ti, z, hti, hsz, hbt, hz, hzc⟩ := h1
        have hm : (m.toNat : Int) = m := by omega
        have hby' : m.toNat * bytes ≤ sizeK := by
          have : ((m.toNat * bytes : Nat) : Int) ≤ (sizeK : Int) := by rw [Int.natCast_mul, hm]; exact hby
          omega
        have hml : m.toNat * 1 ≤ m.toNat * bytes := Nat.mul_le_mul_left _ hbp
        simp only [sizeK] at hby'
        have hmax := maxLen_val
        obtain ⟨w', hrun, how, hgrow⟩ := run_make_full (P := P) w 0 t E ti z e.cells hu hti hz hsz k1 k2 m.toNat (by rw [hbt, Nat.mul_comm]; omega) (by omega) (Nat.zero_le _)
        rw [hm] at hrun
        refine wp_value (v := .slice (some ⟨w.heap.size, 0, none⟩) m.toNat m.toNat) (w' := w') (by simp [execOp, hop, int_one hr hn1, int_one hr hc1, hrun]) ?_
        rw [hd]
        refine hn _ _ ?_
        have hzs : z.cells.size = e.cells := by
          have h2 := (zero_rd w (fun _ => False) e).len
          rw [← Array.length_toList, hzc, h2]
        refine hr.putOwn hV hgrow.size hgrow.os hgrow.tape hgrow.output (fun k hk => hgrow.block k (hr.used_lt k hk) (by simp)) d (hok d hd).1 (hok d hd).2 _ (Nat.lt_succ_self _) (bs := [w.heap.size])
          ⟨_, by rw [List.length_replicate]; exact how, rfl, fun j x hj => ?_⟩ (fun k hk hu => ?_)
        · rw [List.getElem?_replicate] at hj
          split at hj
          · rename_i hjm
            simp at hj
            subst hj
            refine ⟨_, zero_rd w' _ e, fun i u hi => ?_⟩
            have hil : i < e.cells := by rw [← (zero_rd w' (fun _ => False) e).len]; exact (List.getElem?_eq_some_iff.1 hi).1
            have hrow : (j + 1) * e.cells ≤ m.toNat * e.cells := Nat.mul_le_mul_right _ hjm
            rw [Nat.succ_mul] at hrow
            have hlt : j * e.cells + i < m.toNat * e.cells := by omega
            have e2 : (j * e.cells + i) % e.cells = i := by rw [Nat.mul_comm, Nat.mul_add_mod, Nat.mod_eq_of_lt hil]
            have hu2 : z.cells[i]? = some u := by rw [← Array.getElem?_toList, hzc]; exact hi
            obtain ⟨hi3, hu3⟩ := Array.getElem?_eq_some_iff.1 hu2
            simp only [madeCells, Array.getElem?_toList, Array.getElem?_map, Array.getElem?_range, hlt, if_true, Option.map_some, hzs, e2]
            rw [getElem!_pos z.cells i (by omega), hu3]
          · cases hj
        · simp at hk
          have := hr.used_lt k hu
          omega
      · cases h
  · cases h

theorem act_min (hV : EnvOk V) (hok : DstOk V o) {c : Call} (hop : o.op = .call c) (hc : c.callee = .builtin .min) (h : act Γ T o st κ = some r) : Sounds P V o st κ r := by
  simp only [act, wrU, hop, hc] at h
  split at h
  · cases h
  · rename_i d hd
    simp only [hd] at h
    split at h
    · rename_i x y hx
      split at h
      · rename_i k1 m k2 n hm hn
        have hargs : c.args = #[x, y] := by rw [← Array.toArray_toList (xs := c.args), hx]
        refine ⟨_, h, fun W a w hr => goes_one hV hr hd hok (v := .int k1 (bif decide (n < m) then n else m)) ?_ rfl id rfl⟩
        cases hdec : decide (n < m) <;> simp [execOp, hop, hc, resolve, invoke, builtin, hargs, int_one hr hm, int_one hr hn, Builtin.min_, Builtin.min2] <;> simp at hdec <;> omega
      · cases h
    · cases h

theorem act_max (hV : EnvOk V) (hok : DstOk V o) {c : Call} (hop : o.op = .call c) (hc : c.callee = .builtin .max) (h : act Γ T o st κ = some r) : Sounds P V o st κ r := by
  simp only [act, wrU, hop, hc] at h
  split at h
  · cases h
  · rename_i d hd
    simp only [hd] at h
    split at h
    · rename_i x y hx
      split at h
      · rename_i k1 m k2 n hm hn
        have hargs : c.args = #[x, y] := by rw [← Array.toArray_toList (xs := c.args), hx]
        refine ⟨_, h, fun W a w hr => goes_one hV hr hd hok (v := .int k1 (bif decide (m < n) then n else m)) ?_ rfl id rfl⟩
        cases hdec : decide (m < n) <;> simp [execOp, hop, hc, resolve, invoke, builtin, hargs, int_one hr hm, int_one hr hn, Builtin.max_, Builtin.max2] <;> simp at hdec <;> omega
      · cases h
    · cases h

end
end Go.Proofs.YthgnfidnmnkeaaaGreatEv
