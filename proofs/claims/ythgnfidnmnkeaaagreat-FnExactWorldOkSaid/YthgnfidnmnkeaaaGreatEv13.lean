/- One operation: append. -/
import Derived.Test.YthgnfidnmnkeaaaGreatEv12
namespace Go.Proofs.YthgnfidnmnkeaaaGreatEv
open Go Go.RowKit

section
variable {P : Program} {V : Env} {Γ : List Ctr} {T : TypeId → TI} {st : St} {o : Oper} {R : Type} {κ : Upd → Option R} {r : R}

/-- The cells of a list that is read, side by side. -/
theorem flatten_rd {w : World} {G : Nat → Prop} {e : Ty} {g : Nat} : ∀ (ys : List e.den) (o : Nat), (∀ (j : Nat) (x : e.den), ys[j]? = some x → ∃ c, Rd w G e x c ∧ Cells w g (o + j * e.cells) c) →
    ∃ news : List Value, news.length = ys.length * e.cells ∧ (∀ j u, news[j]? = some u → w.cell? ⟨g, o + j, none⟩ = some u) ∧ (∀ u ∈ news, u.oneCell' = true) ∧
      ∀ (j : Nat) (x : e.den), ys[j]? = some x → ∃ c, Rd w G e x c ∧ ∀ i u, c[i]? = some u → news[j * e.cells + i]? = some u
  | [], o, _ => ⟨[], by simp, by simp, by simp, by simp⟩
  | y :: ys, o, h => by
    obtain ⟨c, hr, hc⟩ := h 0 y rfl
    obtain ⟨news, h1, h2, h3, h4⟩ := flatten_rd ys (o + e.cells) (fun j x hj => by
      obtain ⟨c', hr', hc'⟩ := h (j + 1) x (by simpa using hj)
      refine ⟨c', hr', ?_⟩
      rw [Nat.succ_mul] at hc'
      have : o + e.cells + j * e.cells = o + (j * e.cells + e.cells) := by omega
      rw [this]
      exact hc')
    have hcl := hr.len
    refine ⟨c ++ news, by rw [List.length_append, h1, hcl, List.length_cons, Nat.succ_mul]; omega, ?_, ?_, ?_⟩
    · intro j u hj
      by_cases hlt : j < c.length
      · rw [List.getElem?_append_left hlt] at hj
        have := hc j u hj
        rwa [Nat.zero_mul, Nat.add_zero] at this
      · rw [List.getElem?_append_right (by omega)] at hj
        have := h2 (j - c.length) u hj
        have e1 : o + e.cells + (j - c.length) = o + j := by omega
        rwa [e1] at this
    · intro u hu
      rcases List.mem_append.1 hu with hu | hu
      · exact hr.one u hu
      · exact h3 u hu
    · intro j x hj
      cases j with
      | zero =>
        simp at hj
        subst hj
        refine ⟨c, hr, fun i u hi => ?_⟩
        have hil := (List.getElem?_eq_some_iff.1 hi).1
        rw [Nat.zero_mul, Nat.zero_add, List.getElem?_append_left hil]
        exact hi
      | succ j =>
        obtain ⟨c', hr', hc'⟩ := h4 j x (by simpa using hj)
        refine ⟨c', hr', fun i u hi => ?_⟩
        rw [Nat.succ_mul, List.getElem?_append_right (by omega)]
        rw [← hc' i u hi]
        congr 1
        omega

theorem run_append_nothing (w : World) (base : Nat) (t ty e : TypeId) (i : TypeInfo) (size c : Nat) (ht : P.underlying t = some (.slice e)) (hi : P.info? e = some i)
    (v : Value) (n : Nat) (xs : List Value) (hown : w.ownsRow base e size v n xs) :
    (Builtin.append_ #[t, t] ty #[v, .slice none 0 c]).run P w = .ok v w := by
  rcases hown.2 with ⟨rfl, rfl⟩ | ⟨g, cap, cur, rfl, _, _, hnc, _⟩
  · simp [Builtin.append_, run_underlying ht, sizeOf, typeInfo, hi, Builtin.lenOf, Builtin.firstCells]
  · simp [Builtin.append_, run_underlying ht, sizeOf, typeInfo, hi, Builtin.lenOf, Builtin.firstCells, hnc, storeCells]

theorem append_run {w : World} {t ty E : TypeId} {e : Ty} {bytes : Nat} (hti : TIok P t (.slice E e bytes)) {G G2 G' : Nat → Prop} {xs ys : List e.den} {v u : Value} {bs : List Nat} (hx : Ow w G E e xs v bs)
    (hy : Rd w G2 (.list E e) ys [u]) (hsz : (xs.length + ys.length) * bytes ≤ sizeK) (hG : ∀ k, G k → G' k) (hG2 : e.flat = false → ∀ k, G2 k → G' k) (hG' : ∀ k, G' k → k < w.heap.size ∧ v.ownBlock ≠ some k) :
    ∃ v' w', (Builtin.append_ #[t, t] ty #[v, u]).run P w = .ok v' w' ∧ w.grownBy w' v.ownBlock ∧ (v'.ownBlock = v.ownBlock ∨ v'.ownBlock = some w.heap.size) ∧ Ow w' G' E e (xs ++ ys) v' v'.ownBlock.toList := by
  obtain ⟨hu, _, _, hcp, hbp, ti, z, hi, hs, hb, hz, hzc⟩ := hti
  obtain ⟨flat, ho, hbs, hfl⟩ := hx
  obtain ⟨A, cap, hu', hcap, hel⟩ := hy
  have hu' : u = .slice A ys.length cap := by simpa using hu'
  subst hu'
  have hcar : ∀ (w' : World), w.grownBy w' v.ownBlock → ∀ k, G' k → w'.heap[k]? = w.heap[k]? := fun w' hg k hk => hg.block k (hG' k hk).1 (Ne.symm (hG' k hk).2)
  have hyG : ∀ (w' : World), w.grownBy w' v.ownBlock → ∀ (x : e.den) (c : List Value), Rd w G2 e x c → Rd w' G' e x c := by
    intro w' hg x c hr
    cases hf : e.flat with
    | true => exact Rd.flat hf hr
    | false => exact hr.carry (hG2 hf) (fun k hk => hcar w' hg k (hG2 hf k hk))
  have hml : xs.length + ys.length ≤ maxLen := by
    have h1 : (xs.length + ys.length) * 1 ≤ (xs.length + ys.length) * bytes := Nat.mul_le_mul_left _ hbp
    have := maxLen_val
    simp only [sizeK] at hsz
    omega
  have fin : ∀ (news : List Value), (∀ (j : Nat) (x : e.den), ys[j]? = some x → ∃ c, Rd w G2 e x c ∧ ∀ i u, c[i]? = some u → news[j * e.cells + i]? = some u) →
      ∀ v' w', w'.ownsRow 0 E e.cells v' (xs.length + ys.length) (flat ++ news) → w.grownBy w' v.ownBlock → Ow w' G' E e (xs ++ ys) v' v'.ownBlock.toList := by
    intro news hn v' w' how hg
    refine ⟨flat ++ news, by rw [List.length_append]; exact how, rfl, fun j x hj => ?_⟩
    by_cases hlt : j < xs.length
    · rw [List.getElem?_append_left hlt] at hj
      obtain ⟨c, hr, hc⟩ := hfl j x hj
      refine ⟨c, hr.carry hG (fun k hk => hcar w' hg k (hG k hk)), fun i u hi => ?_⟩
      have := hc i u hi
      rw [List.getElem?_append_left (List.getElem?_eq_some_iff.1 this).1]
      exact this
    · rw [List.getElem?_append_right (by omega)] at hj
      obtain ⟨c, hr, hc⟩ := hn _ x hj
      refine ⟨c, hyG w' hg x c hr, fun i u hi => ?_⟩
      have := hc i u hi
      have hfll := ho.1
      have hge : xs.length * e.cells ≤ j * e.cells := Nat.mul_le_mul_right _ (Nat.le_of_not_lt hlt)
      rw [List.getElem?_append_right (by omega), ← this, hfll, Nat.sub_mul]
      congr 1
      omega
  cases A with
  | none =>
    have hy0 : ys.length = 0 := by
      rcases Nat.eq_zero_or_pos ys.length with h | h
      · exact h
      · obtain ⟨g, o, hA, _⟩ := hel h; cases hA
    have hy0 := List.eq_nil_of_length_eq_zero hy0
    subst hy0
    have hrun := run_append_nothing (P := P) w 0 t ty E ti e.cells cap hu hi v xs.length flat ho
    have hg : w.grownBy w v.ownBlock := ⟨rfl, rfl, rfl, Nat.le_refl _, fun _ _ _ => rfl⟩
    exact ⟨v, w, hrun, hg, .inl rfl, fin [] (by simp) v w (by simpa using ho) hg⟩
  | some ad =>
    have hex : ∃ news : List Value, news.length = ys.length * e.cells ∧ (∀ j u, news[j]? = some u → w.cell? (ad.add j) = some u) ∧ (∀ u ∈ news, u.oneCell' = true) ∧
        ∀ (j : Nat) (x : e.den), ys[j]? = some x → ∃ c, Rd w G2 e x c ∧ ∀ i u, c[i]? = some u → news[j * e.cells + i]? = some u := by
      rcases Nat.eq_zero_or_pos ys.length with h | h
      · have hy0 := List.eq_nil_of_length_eq_zero h
        subst hy0
        exact ⟨[], by simp, by simp, by simp, by simp⟩
      · obtain ⟨g, o, hA, _, he⟩ := hel h
        simp at hA
        subst hA
        obtain ⟨news, h1, h2, h3, h4⟩ := flatten_rd ys o he
        exact ⟨news, h1, fun j u hj => by rw [add_plain]; exact h2 j u hj, h3, h4⟩
    obtain ⟨news, h1, h2, h3, h4⟩ := hex
    have hzs : z.cells.size = e.cells := by
      have h2 := (zero_rd w (fun _ => False) e).len
      rw [← Array.length_toList, hzc, h2]
    obtain ⟨v', w', hrun, how, hg, _, hat⟩ := run_append_own_at (P := P) w 0 t ty E ti z e.cells bytes hu hi hz hs hb hzs hcp v xs.length flat ho ad ys.length cap news h1 h2 h3 hml (by simpa [sizeK] using hsz) (Nat.zero_le _)
    exact ⟨v', w', hrun, hg, hat, fin news h4 v' w' how hg⟩

/-- What was owned at a place that has been dropped is used no longer. -/
theorem killed_free (hV : EnvOk V) {W : Wit} {a : Act} {w : World} (h : RelAt P V W st a w) {q j : Nat} {l : Leaf} (hl : (st q).ls[j]? = some l) (ho : isOwn l) : ∀ k ∈ W.bs q j, ¬ used V W (look (killU st [(q, j)]) st) k := by
  obtain ⟨_, h2, h3⟩ := killU_ok hV [(q, j)] h
  have hown := h.ownb q j l hl ho
  rintro k hk (hu | hu | ⟨b, hb, hu⟩ | ⟨r1, i1, l1, h4, h5, h6⟩)
  · exact (hown k hk).1 hu
  · exact (hown k hk).2.1 hu
  · exact (hown k hk).2.2 b ((live_same (fun q => (h3 q).1) b).1 hb) hu
  · obtain ⟨h7, h8⟩ := h2 r1 i1 l1 h4 h5
    obtain ⟨rfl, rfl⟩ := h.sep r1 i1 l1 q j l h7 h5 hl ho k h6 hk
    simp at h8

theorem act_append (hV : EnvOk V) (hT : TOk P T) (hok : DstOk V o) {c : Call} (hop : o.op = .call c) (hc : c.callee = .builtin .append) (h : act Γ T o st κ = some r) : Sounds P V o st κ r := by
  simp only [act, wrU, hop, hc] at h
  split at h
  · cases h
  · rename_i d hd
    split at h
    · rename_i x y t u hargs htys
      split at h
      · rename_i E e bytes ht
        cases htu : Nat.beq t u with
        | false => simp [htu] at h
        | true =>
          simp only [htu, cond_true] at h
          have htu := Nat.eq_of_beq_eq_true htu
          subst htu
          have hti := hT t
          rw [ht] at hti
          have hargs : c.args = #[x, y] := by rw [← Array.toArray_toList (xs := c.args), hargs]
          have htys : c.argTypes = #[t, t] := by rw [← Array.toArray_toList (xs := c.argTypes), htys]
          have hexec : ∀ (a : Act) (w w' : World) (v : Value), (Builtin.append_ #[t, t] o.type #[a.eval x, a.eval y]).run P w = .ok v w' → (execOp a.eval o).run P w = .ok (.value v) w' := by
            intro a w w' v hr
            simp [execOp, hop, hc, resolve, invoke, builtin, hargs, htys, hr]
          simp only [appendK] at h
          split at h
          · rename_i p xs ks hbase
            split at h
            · rename_i q ys hys
              cases hb : !((bif e.flat then [] else owned st [one st y]).any fun k => ks.any fun k' => Nat.beq k.1 k'.1) && decide ((xs.length + ys.length) * bytes ≤ sizeK) with
              | false => simp [hb] at h
              | true =>
                simp only [hb, cond_true] at h
                simp only [Bool.and_eq_true, decide_eq_true_eq, Bool.not_eq_true', List.any_eq_false] at hb
                obtain ⟨hb2, hb1⟩ := hb
                refine ⟨_, h, fun W a w hr next Q hn => ?_⟩
                obtain ⟨fz, hfz⟩ : ∃ fz, fz = (bif e.flat then [] else owned st [one st y]) := ⟨_, rfl⟩
                rw [← hfz] at hb2 hn
                obtain ⟨h1, h2, h3⟩ := frzU_ok hV fz hr
                have hyd : one st y ≠ .dead := by
                  intro e1
                  rw [e1] at hys
                  simp [deref, asList] at hys
                obtain ⟨hly, hnoy, _, _, _⟩ := one_ok hr y hyd
                have hy := asList_ok hr hly hnoy hys
                have hfzo : ∀ z ∈ fz, ∃ l, (st z.1).ls[z.2]? = some l ∧ isOwn l := by
                  intro z hz
                  rw [hfz] at hz
                  cases hf : e.flat with
                  | true => simp [hf] at hz
                  | false =>
                    simp only [hf, cond_false] at hz
                    exact buildEls_ok.owned_own hr hz
                -- the common end
                have fin : ∀ (bs : List Nat) (st2 : St), RelAt P V (W.frz st fz) st2 a w → Ow w (gd V W p) E e xs (a.eval x) bs → (∀ k ∈ bs, ¬ used V (W.frz st fz) st2 k) →
                    ∃ v w', (execOp a.eval o).run P w = .ok (.value v) w' ∧ Rel P V (look [(d, ⟨(st2 d).ver + 1, .one, [.own (p || (q && !e.flat)) E e (xs ++ ys)]⟩)] st2) (a.put (some d) v) w' := by
                  intro bs st2 h4 how hbs
                  have hbo : ∀ k, (a.eval x).ownBlock = some k → k ∈ bs := by
                    intro k hk
                    obtain ⟨_, _, hb3, _⟩ := how
                    rw [hb3, hk]; simp
                  have hgu : ∀ k, gd V (W.frz st fz) (p || (q && !e.flat)) k → used V (W.frz st fz) st2 k := by
                    rintro k (hk | ⟨_, hk⟩)
                    · exact .inl hk
                    · exact .inr (.inl (hV.ro k hk))
                  obtain ⟨v', w', hrun, hg, hat, how'⟩ := append_run (P := P) (t := t) (ty := o.type) hti how hy hb1 (G' := gd V (W.frz st fz) (p || (q && !e.flat)))
                    (gd_mono (W' := W.frz st fz) (by intro h; simp [h]) (fun _ h => Or.inl h))
                    (fun hf k hk => by
                      have h5 := reach_gd (V := V) (W := W) (st := st) (p := q) (ks := owned st [one st y]) (fun z hz => buildEls_ok.owned_own hr hz) k hk
                      have e2 : fz = owned st [one st y] := by rw [hfz, hf]; rfl
                      rw [e2]
                      exact gd_mono (W' := W.frz st _) (by intro h; simp [h, hf]) (fun _ h => h) k h5)
                    (fun k hk => ⟨h4.used_lt k (hgu k hk), fun e1 => hbs k (hbo k e1) (hgu k hk)⟩)
                  refine ⟨v', w', hexec a w w' v' hrun, ?_⟩
                  refine h4.putOwn hV hg.size hg.os hg.tape hg.output (fun k hk => hg.block k (h4.used_lt k hk) (fun e1 => hbs k (hbo k e1.symm) hk)) d (hok d hd).1 (hok d hd).2 _ (Nat.lt_succ_self _) how' (fun k hk hu => ?_)
                  rw [Option.mem_toList] at hk
                  rcases hat with e1 | e1
                  · rw [e1] at hk
                    exact hbs k (hbo k hk) hu
                  · rw [e1] at hk
                    simp at hk
                    have := h4.used_lt k hu
                    omega
                split at hbase
                · rename_i r' j n hx
                  split at hbase
                  · rename_i p' E' e' xs' hd'
                    simp only [Option.map_eq_some_iff, Prod.mk.injEq] at hbase
                    obtain ⟨zs, hcast, rfl, rfl, rfl⟩ := hbase
                    obtain ⟨rfl, rfl, rfl⟩ := castList_some hcast
                    obtain ⟨hlx, _, _, _, _⟩ := one_ok hr x (by rw [hx]; simp)
                    rw [hx] at hlx
                    obtain ⟨h5, h6, h7, h8⟩ := al_own hr hd' hlx
                    have hst : look (frzU st fz) st r' = st r' := look_frzU_other st fz (fun z hz e1 => hb2 z hz (by simp [e1]))
                    have h9 : (look (frzU st fz) st r').ls[j]? = some (.own p' E' e' xs') := by rw [hst]; exact h7
                    obtain ⟨h10, _, _⟩ := killU_ok hV [(r', j)] h1
                    obtain ⟨v, w', hrun, hrel⟩ := fin _ _ h10 h6 (killed_free hV h1 h9 trivial)
                    refine wp_value hrun ?_
                    rw [hd]
                    refine hn _ _ ?_
                    rw [putU, look_cons, look_append]
                    exact hrel
                  · cases hbase
                · rename_i hx
                  simp only [Option.some.injEq, Prod.mk.injEq] at hbase
                  obtain ⟨rfl, rfl, rfl⟩ := hbase
                  obtain ⟨hlx, _, _, _, _⟩ := one_ok hr x (by rw [hx]; simp)
                  rw [hx] at hlx
                  obtain ⟨v, w', hrun, hrel⟩ := fin [] _ h1 (by rw [show a.eval x = _ from hlx]; exact Ow.nil w _ E e) (by simp)
                  refine wp_value hrun ?_
                  rw [hd]
                  refine hn _ _ ?_
                  rw [putU, look_cons, look_append]
                  exact hrel
                · cases hbase
            · cases h
          · cases h
      · cases h
    · cases h

end
end Go.Proofs.YthgnfidnmnkeaaaGreatEv
