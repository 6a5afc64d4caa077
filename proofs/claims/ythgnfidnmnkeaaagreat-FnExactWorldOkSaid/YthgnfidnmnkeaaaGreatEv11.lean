/- One operation: lists that are written, made, grown. -/
import Derived.Test.YthgnfidnmnkeaaaGreatEv10
import Derived.Great.FillDense
namespace Go.Proofs.YthgnfidnmnkeaaaGreatEv
open Go Go.RowKit

section
variable {P : Program} {V : Env} {Γ : List Ctr} {T : TypeId → TI} {st : St} {o : Oper} {R : Type} {κ : Upd → Option R} {r : R}

/-- An owned list is written in place. -/
theorem RelAt.ownWrite (hV : EnvOk V) {W : Wit} {a : Act} {w w' : World} (h : RelAt P V W st a w) {q j : Nat} {p p' : Bool} {E E' : TypeId} {e e' : Ty} {xs : List e.den} {xs' : List e'.den} {v : Value}
    (hl : (st q).ls[j]? = some (.own p E e xs)) (hv : (W.cs q)[j]? = some v) (hnew : Ow w' (gd V W p') E' e' xs' v (W.bs q j))
    (hsame : ∀ k, used V W st k → k ∉ W.bs q j → w'.heap[k]? = w.heap[k]?) (hsz : w.heap.size ≤ w'.heap.size) (hos : w'.os = w.os) (ht : w'.tape = w.tape) (ho : w'.output = w.output) :
    RelAt P V W (look [(q, ⟨(st q).ver, (st q).sh, setL (st q).ls j (.own p' E' e' xs')⟩)] st) a w' := by
  have hown := h.ownb q j _ hl trivial
  have hlv : ∀ b, live (look [(q, ⟨(st q).ver, (st q).sh, setL (st q).ls j (.own p' E' e' xs')⟩)] st) b ↔ live st b := by
    intro b
    rcases look_cases q b ⟨(st q).ver, (st q).sh, setL (st q).ls j (.own p' E' e' xs')⟩ st with ⟨rfl, e⟩ | ⟨_, e⟩ <;> simp [live, e]
  have hback : ∀ (r1 i : Nat) (l : Leaf), (look [(q, ⟨(st q).ver, (st q).sh, setL (st q).ls j (.own p' E' e' xs')⟩)] st r1).ls[i]? = some l → isOwn l →
      ∃ l', (st r1).ls[i]? = some l' ∧ isOwn l' := by
    intro r1 i l h1 h2
    rcases look_cases q r1 ⟨(st q).ver, (st q).sh, setL (st q).ls j (.own p' E' e' xs')⟩ st with ⟨rfl, e⟩ | ⟨_, e⟩
    · rw [e] at h1
      rcases getElem?_set' _ _ _ _ _ h1 with ⟨rfl, _, _⟩ | ⟨_, h1⟩
      · exact ⟨_, hl, trivial⟩
      · exact ⟨l, h1, h2⟩
    · rw [e] at h1; exact ⟨l, h1, h2⟩
  have hstep : Step V W W st (look [(q, ⟨(st q).ver, (st q).sh, setL (st q).ls j (.own p' E' e' xs')⟩)] st) w w' := by
    refine ⟨fun r1 => ?_, fun b hb => ⟨(hlv b).2 hb, rfl⟩, fun _ h => h, fun k hk => hsame k (hk.elim .inl (fun h => .inr (.inl h))) (fun hm => ?_)⟩
    · rcases look_cases q r1 ⟨(st q).ver, (st q).sh, setL (st q).ls j (.own p' E' e' xs')⟩ st with ⟨rfl, e⟩ | ⟨_, e⟩ <;> rw [e] <;> exact ⟨Nat.le_refl _, fun _ => rfl⟩
    · rcases hk with hk | hk
      · exact (hown k hm).1 hk
      · exact (hown k hm).2.1 hk
  exact {
    nt := h.nt, df := h.df
    slots := fun t ht' => by
      rcases look_cases q t ⟨(st q).ver, (st q).sh, setL (st q).ls j (.own p' E' e' xs')⟩ st with ⟨rfl, e⟩ | ⟨_, e⟩ <;> rw [e] <;> exact h.slots t ht'
    boxes := fun b hb => by
      have key : ∀ (E0 : TypeId), (st b).sh = .agg → w.heap[W.β b]? = some (.cells (W.cs b).toArray E0 (0, 0)) → w'.heap[W.β b]? = some (.cells (W.cs b).toArray E0 (0, 0)) := by
        intro E0 h1 h2
        rw [hsame _ (.inr (.inr (.inl ⟨b, ⟨hb, h1⟩, rfl⟩))) (fun hm => (hown _ hm).2.2 b ⟨hb, h1⟩ rfl)]
        exact h2
      rcases look_cases q b ⟨(st q).ver, (st q).sh, setL (st q).ls j (.own p' E' e' xs')⟩ st with ⟨rfl, e⟩ | ⟨_, e⟩
      · rw [e]
        rcases h.boxes b hb with ⟨_, h2⟩ | ⟨h1, E0, h2⟩
        · rw [h2] at hl; simp at hl
        · exact .inr ⟨h1, E0, key E0 h1 h2⟩
      · rw [e]
        exact (h.boxes b hb).imp id fun ⟨h1, E0, h2⟩ => ⟨h1, E0, key E0 h1 h2⟩
    len := fun r1 => by
      rcases look_cases q r1 ⟨(st q).ver, (st q).sh, setL (st q).ls j (.own p' E' e' xs')⟩ st with ⟨rfl, e⟩ | ⟨_, e⟩ <;> rw [e]
      · simpa [setL] using h.len r1
      · exact h.len r1
    one := h.one
    leaf := fun r1 i l u h1 h2 => by
      have key : ∀ (l : Leaf), (st r1).ls[i]? = some l → (r1, i) ≠ (q, j) → LeafOk P V W (look [(q, ⟨(st q).ver, (st q).sh, setL (st q).ls j (.own p' E' e' xs')⟩)] st) w' (W.bs r1 i) l u := by
        intro l h1 hne
        refine (h.leaf r1 i l u h1 h2).carry hV.ro hstep (fun ho => ⟨rfl, fun k hk => hsame k (.inr (.inr (.inr ⟨r1, i, l, h1, ho, hk⟩))) (fun hm => hne ?_)⟩)
        obtain ⟨rfl, rfl⟩ := h.sep r1 i l q j _ h1 ho hl trivial k hk hm
        rfl
      rcases look_cases q r1 ⟨(st q).ver, (st q).sh, setL (st q).ls j (.own p' E' e' xs')⟩ st with ⟨rfl, e⟩ | ⟨hne, e⟩
      · rw [e] at h1
        rcases getElem?_set' _ _ _ _ _ h1 with ⟨rfl, rfl, _⟩ | ⟨hne, h1⟩
        · rw [hv] at h2
          simp at h2
          subst h2
          exact hnew
        · exact key l h1 (fun e => hne (by simpa using congrArg Prod.snd e))
      · rw [e] at h1
        exact key l h1 (fun e => hne (by simpa using congrArg Prod.fst e))
    ownb := fun r1 i l h1 h2 k hk => by
      obtain ⟨l', h3, h4⟩ := hback r1 i l h1 h2
      obtain ⟨q1, q2, q3⟩ := h.ownb r1 i l' h3 h4 k hk
      exact ⟨q1, q2, fun b hb => q3 b ((hlv b).1 hb)⟩
    sep := fun r1 i l r2 i2 l2 h1 h2 h3 h4 => by
      obtain ⟨l', h5, h6⟩ := hback r1 i l h1 h2
      obtain ⟨l'', h7, h8⟩ := hback r2 i2 l2 h3 h4
      exact h.sep r1 i l' r2 i2 l'' h5 h6 h7 h8
    box := fun b hb => h.box b ((hlv b).1 hb)
    inj := fun b b' hb hb' => h.inj b b' ((hlv b).1 hb) ((hlv b').1 hb')
    nwlt := fun k hk => ⟨Nat.lt_of_lt_of_le (h.nwlt k hk).1 hsz, (h.nwlt k hk).2⟩
    os := hos.trans h.os, tape := ht.trans h.tape, output := ho.trans h.output, size := Nat.le_trans h.size hsz
    keep := fun k hp => by
      rw [hsame k (.inr (.inl hp)) (fun hm => (hown k hm).2.1 hp)]
      exact h.keep k hp
    fixb := fun x hx => ⟨(hlv _).2 (h.fixb x hx).1, (h.fixb x hx).2⟩
    fixt := h.fixt }

theorem look_frzU_other {q : Nat} (st : St) : ∀ (ks : List (Nat × Nat)), (∀ x ∈ ks, x.1 ≠ q) → look (frzU st ks) st q = st q
  | [], _ => rfl
  | (r, j) :: ks, h => by
    have e : look (frzU st ((r, j) :: ks)) st = look [(r, frzC (look (frzU st ks) st r) j)] (look (frzU st ks) st) := look_cons _ _ _ _
    rw [e, look_other (Ne.symm (h (r, j) (List.mem_cons_self ..))), look_frzU_other st ks (fun x hx => h x (List.mem_cons_of_mem _ hx))]

/-- An own row's cells, one element told anew. -/
theorem Ow.store {w : World} {G G' : Nat → Prop} {E : TypeId} {e : Ty} {xs : List e.den} {g len cap : Nat} {bs : List Nat} (h : Ow w G E e xs (.slice (some ⟨g, 0, none⟩) len cap) bs)
    (hG : ∀ k, G k → G' k) (hgG : ¬ G' g) {i : Nat} {old z : e.den} (hi : xs[i]? = some old) {off : Nat} {cs c : List Value} (hc : Rd w G' e z c)
    (holdc : ∃ c0, Rd w G e old c0 ∧ (∀ k u, c0[k]? = some u → ∃ flat, w.ownsRow 0 E e.cells (.slice (some ⟨g, 0, none⟩) len cap) xs.length flat ∧ flat[i * e.cells + k]? = some u) ∧ c = c0.take off ++ cs ++ c0.drop (off + cs.length) ∧ off + cs.length ≤ e.cells) :
    Ow (w.setCells g (i * e.cells + off) cs) G' E e (xs.set i z) (.slice (some ⟨g, 0, none⟩) len cap) bs := by
  obtain ⟨flat, h1, h2, h3⟩ := h
  obtain ⟨c0, hr0, hfl0, hcc, hin⟩ := holdc
  have hil : i < xs.length := (List.getElem?_eq_some_iff.1 hi).1
  have hflat := h1.1
  rcases h1.2 with ⟨h4, _⟩ | ⟨g', cap', cur, h4, hb, hg, hnc, hcm, hcs, htake⟩
  · simp at h4
  · simp only [Value.slice.injEq, Option.some.injEq, Addr.mk.injEq, and_true, true_and] at h4
    obtain ⟨rfl, rfl, rfl⟩ := h4
    have hc0 := hr0.len
    have hcl := hc.len
    have hrow : (i + 1) * e.cells ≤ xs.length * e.cells := Nat.mul_le_mul_right _ hil
    rw [Nat.succ_mul] at hrow
    have hcap : xs.length * e.cells ≤ cap * e.cells := Nat.mul_le_mul_right _ hnc
    have hcur : flat = cur.toList.take (xs.length * e.cells) := htake.symm
    have hnew := heap_setCells g E cs 0 (i * e.cells + off) w cur hg
    have hcurl : cur.toList.length = cap * e.cells := by rw [Array.length_toList, hcs]
    have hsp := fill_splice cur.toList cs (i * e.cells + off) (by omega)
    rw [Array.toArray_toList] at hsp
    rw [hsp] at hnew
    simp only [Nat.add_zero] at hnew
    -- where a cell of the new row comes from
    have hcell : ∀ k, k < xs.length * e.cells → (cur.toList.take (i * e.cells + off) ++ cs ++ cur.toList.drop (i * e.cells + off + cs.length))[k]? =
        if i * e.cells + off ≤ k ∧ k < i * e.cells + off + cs.length then cs[k - (i * e.cells + off)]? else flat[k]? := by
      intro k hk
      have hk2 : flat[k]? = cur.toList[k]? := by rw [hcur, List.getElem?_take, if_pos hk]
      have hcurl : cur.toList.length = cap * e.cells := by rw [Array.length_toList, hcs]
      by_cases h9 : k < i * e.cells + off
      · rw [List.append_assoc, List.getElem?_append_left (by simp only [List.length_take]; omega), List.getElem?_take, if_pos h9, if_neg (by omega), hk2]
      · by_cases h10 : k < i * e.cells + off + cs.length
        · rw [List.append_assoc, List.getElem?_append_right (by simp only [List.length_take]; omega), List.getElem?_append_left (by simp only [List.length_take]; omega), if_pos ⟨by omega, h10⟩]
          congr 1
          simp only [List.length_take]; omega
        · rw [List.getElem?_append_right (by simp only [List.length_take, List.length_append]; omega), List.getElem?_drop, if_neg (by omega), hk2]
          congr 1
          simp only [List.length_take, List.length_append]; omega
    have hlen' : (cur.toList.take (i * e.cells + off) ++ cs ++ cur.toList.drop (i * e.cells + off + cs.length)).length = cap * e.cells := by
      have hcurl : cur.toList.length = cap * e.cells := by rw [Array.length_toList, hcs]
      simp only [List.length_append, List.length_take, List.length_drop]; omega
    refine ⟨(cur.toList.take (i * e.cells + off) ++ cs ++ cur.toList.drop (i * e.cells + off + cs.length)).take (xs.length * e.cells), ⟨?_, .inr ⟨g, cap, _, ?_, Nat.zero_le _, hnew, ?_, hcm, ?_, ?_⟩⟩, ?_, ?_⟩
    · rw [List.length_take, hlen', List.length_set]; omega
    · rw [List.length_set]
    · rw [List.length_set]; exact hnc
    · simpa using hlen'
    · rw [List.length_set]
    · rw [h2]
    · intro j x hj
      rcases getElem?_set' _ _ _ _ _ hj with ⟨rfl, rfl, _⟩ | ⟨hij, hj⟩
      · refine ⟨c, hc.carry (fun _ h => h) (fun k hk => heap_setCells_other g cs _ w k (fun e => hgG (e ▸ hk))), fun k u hu => ?_⟩
        have hkl : k < e.cells := by rw [← hcl]; exact (List.getElem?_eq_some_iff.1 hu).1
        rw [List.getElem?_take, if_pos (by omega), hcell _ (by omega)]
        by_cases h11 : off ≤ k ∧ k < off + cs.length
        · rw [if_pos (by omega)]
          rw [hcc, List.append_assoc, List.getElem?_append_right (by simp only [List.length_take]; omega), List.getElem?_append_left (by simp only [List.length_take]; omega)] at hu
          rw [← hu]
          congr 1
          simp only [List.length_take]; omega
        · rw [if_neg (by omega)]
          have hu0 : c0[k]? = some u := by
            rw [hcc] at hu
            by_cases h12 : k < off
            · rw [List.append_assoc, List.getElem?_append_left (by simp only [List.length_take]; omega), List.getElem?_take, if_pos h12] at hu
              exact hu
            · rw [List.getElem?_append_right (by simp only [List.length_take, List.length_append]; omega), List.getElem?_drop] at hu
              rw [← hu]
              congr 1
              simp only [List.length_take, List.length_append]; omega
          obtain ⟨flat', hf1, hf2⟩ := hfl0 k u hu0
          rcases hf1.2 with ⟨h13, _⟩ | ⟨g2, cap2, cur2, h13, _, hg2, _, _, _, htake2⟩
          · simp at h13
          · simp only [Value.slice.injEq, Option.some.injEq, Addr.mk.injEq, and_true, true_and] at h13
            obtain ⟨rfl, rfl⟩ := h13
            rw [hg] at hg2
            simp at hg2
            subst hg2
            rw [hcur, htake2]
            exact hf2
      · obtain ⟨c', hr', hc'⟩ := h3 j x hj
        have hjl : j < xs.length := (List.getElem?_eq_some_iff.1 hj).1
        refine ⟨c', hr'.carry hG (fun k hk => heap_setCells_other g cs _ w k (fun e => hgG (e ▸ hG k hk))), fun k u hu => ?_⟩
        have hkl : k < e.cells := by rw [← hr'.len]; exact (List.getElem?_eq_some_iff.1 hu).1
        have hjr : (j + 1) * e.cells ≤ xs.length * e.cells := Nat.mul_le_mul_right _ hjl
        rw [Nat.succ_mul] at hjr
        rw [List.getElem?_take, if_pos (by omega), hcell _ (by omega), if_neg ?_]
        · exact hc' k u hu
        · rintro ⟨h14, h15⟩
          rcases Nat.lt_or_gt_of_ne (fun e => hij e.symm : i ≠ j) with h16 | h16
          · have : (i + 1) * e.cells ≤ j * e.cells := Nat.mul_le_mul_right _ h16
            rw [Nat.succ_mul] at this
            omega
          · have : (j + 1) * e.cells ≤ i * e.cells := Nat.mul_le_mul_right _ h16
            rw [Nat.succ_mul] at this
            omega

theorem LsOk.splice {W : Wit} {w : World} {l1 l2 : List Leaf} {c1 c2 : List Value} (h1 : LsOk P V W st w l1 c1) (h2 : LsOk P V W st w l2 c2) (off : Nat) :
    LsOk P V W st w (Go.Proofs.YthgnfidnmnkeaaaGreatEv.splice l1 l2 off) (c1.take off ++ c2 ++ c1.drop (off + c2.length)) := by
  unfold Go.Proofs.YthgnfidnmnkeaaaGreatEv.splice
  rw [h2.length]
  exact ((h1.take off).append h2).append (h1.drop _)

theorem owned_alps : ∀ {ls : List Leaf}, alps ls = [] → owned st ls = []
  | [], _ => rfl
  | l :: ls, h => by
    cases l <;> simp only [alps, reduceCtorEq] at h <;> simpa [owned] using owned_alps h

theorem act_store (hV : EnvOk V) (hT : TOk P T) {t : TypeId} {x y : Operand} (hop : o.op = .store t x y) (h : act Γ T o st κ = some r) : Sounds P V o st κ r := by
  simp only [act, wrU, hop] at h
  split at h
  · cases h
  · rename_i hd
    cases hb : Nat.beq (opnd st y).2.length (T t).cells && decide ((opnd st y).1 = shOf (T t).agg) && !decide ((T t).cells = 0) with
    | false => simp [hb] at h
    | true =>
      simp only [hb, cond_true] at h
      simp only [Bool.and_eq_true, decide_eq_true_eq, Bool.not_eq_true', decide_eq_false_iff_not] at hb
      obtain ⟨⟨hb1, hb2⟩, hb3⟩ := hb
      have hb1 := Nat.eq_of_beq_eq_true hb1
      split at h
      · rename_i b off hx
        cases hc : decide ((st b).sh = .agg) && decide (off + (opnd st y).2.length ≤ (st b).ls.length) && distinct (owned st (opnd st y).2) with
        | false => simp [hc] at h
        | true =>
          simp only [hc, cond_true] at h
          simp only [Bool.and_eq_true, decide_eq_true_eq] at hc
          exact ⟨_, h, fun W a w hr => act_store_bp hV hT hop hd hx hb1 hb2 hb3 hc.1.1 hc.1.2 hc.2 hr⟩
      · rename_i r' j ver i sz off hx
        split at h
        · rename_i p E e xs hd'
          cases hc : Nat.beq sz e.cells && decide (off + (opnd st y).2.length ≤ e.cells) && !((owned st (opnd st y).2).any fun k => Nat.beq k.1 r') with
          | false => simp [hc] at h
          | true =>
            simp only [hc, cond_true] at h
            simp only [Bool.and_eq_true, decide_eq_true_eq, Bool.not_eq_true', List.any_eq_false] at hc
            obtain ⟨⟨hc1, hc2⟩, hc3⟩ := hc
            have hc1 := Nat.eq_of_beq_eq_true hc1
            subst hc1
            obtain ⟨old, hold, h⟩ := Option.bind_eq_some_iff.1 h
            obtain ⟨_, _, h4⟩ := idx_some hold
            simp only [Int.toNat_natCast] at h4
            obtain ⟨⟨q, z⟩, hz, h⟩ := Option.bind_eq_some_iff.1 h
            · cases he : (alps (Go.Proofs.YthgnfidnmnkeaaaGreatEv.splice (leaves false p e old) (frozen' st (opnd st y).2) off)).isEmpty with
              | false => simp [he] at h
              | true =>
                simp only [he, cond_true] at h
                refine ⟨_, h, fun W a w hr next Q hn => ?_⟩
                have hne : ∀ k ∈ owned st (opnd st y).2, k.1 ≠ r' := fun k hk e => hc3 k hk (by simp [e])
                obtain ⟨cs, hs, hl⟩ := opnd_ok hr y
                rw [hb2] at hs
                have hcc := cells_of_sh hs hl.one'
                obtain ⟨h1, h2, h3⟩ := frzU_ok hV (owned st (opnd st y).2) hr
                have hst := look_frzU_other st (owned st (opnd st y).2) hne
                obtain ⟨h5, h6⟩ := deref_own hr hd'
                have h7 : (look (frzU st (owned st (opnd st y).2)) st r').ls[j]? = some (.own p E e xs) := by rw [hst]; exact h6
                obtain ⟨hp, _, _, _⟩ := one_ok hr x (by rw [hx]; simp)
                rw [hx] at hp
                obtain ⟨g, len, cap, hh, hil, hv⟩ := hp.2 h5
                have how := h1.leaf r' j _ _ h7 hh
                have hfz := frozen_ok hV hr hl (owned st (opnd st y).2) (fun _ h => h)
                have hnn : T t ≠ .none := by intro e; rw [e] at hb3; exact hb3 rfl
                have hlen := hl.length
                have hown := h1.ownb r' j _ h7 trivial
                obtain ⟨flat, ho, hbs, hfl⟩ := how
                obtain ⟨c0, hc0, hcl0⟩ := hfl i old h4
                have hls := (leaves_ok (st := look (frzU st (owned st (opnd st y).2)) st) (P := P) (fun _ h => h) hc0).splice hfz off
                have hrd := gatherAll_ok h1 hls hz
                have he' := owned_alps (st := look (frzU st (owned st (opnd st y).2)) st) (List.isEmpty_iff.1 he)
                rw [he'] at hrd
                have hrd2 : Rd w (gd V (W.frz st (owned st (opnd st y).2)) (p || q)) e z _ := Rd.mono (fun k hk => by
                  rcases hk with hk | ⟨_, hk, _⟩
                  · exact gd_mono (W' := W.frz st (owned st (opnd st y).2)) (by intro h; simp [h]) (fun _ h => h) k hk
                  · simp at hk) hrd
                have hgb : g ∈ (W.frz st (owned st (opnd st y).2)).bs r' j := by rw [hbs]; simp [Value.ownBlock]
                have hgG : ¬ gd V (W.frz st (owned st (opnd st y).2)) (p || q) g := by
                  rintro (hk | ⟨_, hk⟩)
                  · exact (hown g hgb).1 hk
                  · exact (hown g hgb).2.1 (hV.ro g hk)
                have hc0l := hc0.len
                have hst2 := Ow.store (G' := gd V (W.frz st (owned st (opnd st y).2)) (p || q)) (⟨flat, ho, hbs, hfl⟩ : Ow w _ E e xs _ _)
                  (gd_mono (W' := W.frz st (owned st (opnd st y).2)) (by intro h; simp [h]) (fun _ h => h)) hgG h4 (off := off) (cs := cs) hrd2
                  ⟨c0, hc0, fun k u hu => ⟨flat, ho, hcl0 k u hu⟩, rfl, by omega⟩
                have hrow : (i + 1) * e.cells ≤ xs.length * e.cells := Nat.mul_le_mul_right _ (List.getElem?_eq_some_iff.1 h4).1
                rw [Nat.succ_mul] at hrow
                rcases ho.2 with ⟨h8, _⟩ | ⟨g', cap', cur, h8, _, hg, hnc, _, hcs, _⟩
                · simp at h8
                · simp only [Value.slice.injEq, Option.some.injEq, Addr.mk.injEq, and_true, true_and] at h8
                  obtain ⟨rfl, rfl, rfl⟩ := h8
                  have hcap : xs.length * e.cells ≤ cap * e.cells := Nat.mul_le_mul_right _ hnc
                  have hcurl : cur.toList.length = cap * e.cells := by rw [Array.length_toList, hcs]
                  have hrun := run_storeAt' (P := P) (ti_sized (hT t) hnn) (w := w) (b := g) (off := i * e.cells + off) (cur := cur.toList) (E := E) (by rw [Array.toArray_toList]; exact hg) hcc (by omega) hl.one' (by omega)
                  refine wp_skipped (w' := w.setCells g (i * e.cells + off) cs) (by simp [execOp, hop, hv, hrun]) ?_
                  rw [hd]
                  refine hn _ _ ?_
                  obtain ⟨e1, e2, e3, e4⟩ := setCells_rest g cs (i * e.cells + off) w
                  have := h1.ownWrite hV h7 hh hst2 (fun k _ hk => heap_setCells_other g cs _ w k (fun e => hk (e ▸ hgb))) (Nat.le_of_eq e4.symm) e1 e2 e3
                  rw [hst] at this
                  rw [look_cons]
                  exact ⟨_, this⟩
        · cases h
      · cases h

end
end Go.Proofs.YthgnfidnmnkeaaaGreatEv
