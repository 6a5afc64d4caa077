/- An operation that looks at the same slots does the same: op by op. -/
import Derived.Test.YthgnfidnmnkeaaaGreatEv19
namespace Go.Proofs.YthgnfidnmnkeaaaGreatEv
open Go Go.RowKit

section
variable {P : Program} {V : Env} {Γ : List Ctr} {T : TypeId → TI} {st st' : St} {o : Oper} {R : Type} {κ : Upd → Option R} {r : R}

theorem flat_alps {ts : List Nat} (h : ∀ q ∈ ts ++ ts.flatMap (fun t => alps (st t).ls), st' q = st q) {x : Operand} (hx : ∀ t, x = .tmp t → t ∈ ts) : (∀ t, x = .tmp t → st' t = st t) ∧ ∀ q ∈ alps (opnd st x).2, st' q = st q := by
  refine ⟨fun t ht => h t (List.mem_append_left _ (hx t ht)), fun q hq => ?_⟩
  obtain ⟨t, ht, hq⟩ := alps_opnd hq
  rcases hq with rfl | hq
  · exact h q (List.mem_append_left _ (hx q ht))
  · exact h q (List.mem_append_right _ (List.mem_flatMap.2 ⟨t, hx t ht, hq⟩))

theorem flat_refs {ts : List Nat} (h : ∀ q ∈ ts ++ ts.flatMap (fun t => refs (st t).ls), st' q = st q) {x : Operand} (hx : ∀ t, x = .tmp t → t ∈ ts) : (∀ t, x = .tmp t → st' t = st t) ∧ ∀ q ∈ refs (opnd st x).2, st' q = st q := by
  refine ⟨fun t ht => h t (List.mem_append_left _ (hx t ht)), fun q hq => ?_⟩
  obtain ⟨t, ht, hq⟩ := refs_opnd hq
  rcases hq with rfl | hq
  · exact h q (List.mem_append_left _ (hx q ht))
  · exact h q (List.mem_append_right _ (List.mem_flatMap.2 ⟨t, hx t ht, hq⟩))

theorem looks_deep {ts : List Nat} (h : ∀ q ∈ looks st ts, st' q = st q) {x : Operand} (hx : ∀ t, x = .tmp t → t ∈ ts) : Deep st st' (opnd st x).2 := by
  have hts : ∀ q, q ∈ ts → st' q = st q := fun q hq => h q (by simp [looks]; exact .inl hq)
  have ha : ∀ q, q ∈ ts.flatMap (fun t => refs (st t).ls) → st' q = st q := fun q hq => h q (by
    unfold looks
    exact List.mem_append_left _ (List.mem_append_left _ (List.mem_append_right _ hq)))
  have hb : ∀ q, q ∈ (ts.flatMap (fun t => refs (st t).ls)).flatMap (fun t => refs (st t).ls) → st' q = st q := fun q hq => h q (by
    unfold looks
    exact List.mem_append_left _ (List.mem_append_right _ hq))
  have hc : ∀ q, q ∈ ((ts.flatMap (fun t => refs (st t).ls)).flatMap (fun t => refs (st t).ls)).flatMap (fun t => refs (st t).ls) → st' q = st q := fun q hq => h q (by
    unfold looks
    exact List.mem_append_right _ hq)
  have l1 : ∀ r ∈ refs (opnd st x).2, r ∈ ts ∨ r ∈ ts.flatMap (fun t => refs (st t).ls) := by
    intro r hr
    obtain ⟨t, ht, hq⟩ := refs_opnd hr
    rcases hq with rfl | hq
    · exact .inl (hx r ht)
    · exact .inr (List.mem_flatMap.2 ⟨t, hx t ht, hq⟩)
  have l2 : ∀ r ∈ refs (opnd st x).2, ∀ q ∈ refs (st r).ls, q ∈ ts.flatMap (fun t => refs (st t).ls) ∨ q ∈ (ts.flatMap (fun t => refs (st t).ls)).flatMap (fun t => refs (st t).ls) := by
    intro r hr q hq
    rcases l1 r hr with h1 | h1
    · exact .inl (List.mem_flatMap.2 ⟨r, h1, hq⟩)
    · exact .inr (List.mem_flatMap.2 ⟨r, h1, hq⟩)
  refine ⟨fun q hq => (l1 q hq).elim (hts q) (ha q), fun r hr q hq => (l2 r hr q hq).elim (ha q) (hb q), fun r hr r2 hr2 q hq => ?_⟩
  rcases l2 r hr r2 hr2 with h1 | h1
  · exact hb q (List.mem_flatMap.2 ⟨r2, h1, hq⟩)
  · exact hc q (List.mem_flatMap.2 ⟨r2, h1, hq⟩)

theorem ops_mem {xs : Array Operand} {x : Operand} (h : x ∈ xs) : ∀ t, x = .tmp t → t ∈ slotsOf xs.toList := fun t e => slots_mem (by rw [← e]; simpa using h)

theorem act_fr (h : ∀ q ∈ looksOf st o, st' q = st q) : act Γ T o st' κ = act Γ T o st κ := by
  have hop' := op_fr h
  have hput : ∀ (U : Upd) (d : Nat) (sh : Shape) (ls : List Leaf), o.dst = some d → putU st' U d sh ls = putU st U d sh ls := fun U d sh ls hd => putU_fr (dst_fr hd h).1
  have hB : ∀ d, o.dst = some d → st' (B0 + d) = st (B0 + d) := fun d hd => (dst_fr hd h).2
  have hw : ∀ (sh : Shape) (ls : List Leaf), wrU o st' κ sh ls = wrU o st κ sh ls := by
    intro sh ls
    unfold wrU
    split
    · rename_i d hd; rw [hput _ _ _ _ hd]
    · rfl
  cases hop : o.op with
  | move x =>
    simp only [hop, opLooks] at hop'
    have e : opnd st' x = opnd st x := opnd_fr fun t ht => hop' t (ops_mem (by simp [Op.operands]) t ht)
    simp only [act, hop, e, hw]
  | assign x =>
    simp only [hop, opLooks] at hop'
    have hx := flat_alps hop' (x := x) (ops_mem (by simp [Op.operands]))
    have e : opnd st' x = opnd st x := opnd_fr hx.1
    simp only [act, hop, e, owned_fr hx.2, taken_fr hx.2, killU_fr (owned_pl_fr hx.2)]
    split
    · rename_i d hd; rw [hput _ _ _ _ hd]
    · rfl
  | pick c x y =>
    simp only [hop, opLooks] at hop'
    have e1 : one st' c = one st c := one_fr fun t ht => hop' t (ops_mem (by simp [Op.operands]) t ht)
    have e2 : opnd st' x = opnd st x := opnd_fr fun t ht => hop' t (ops_mem (by simp [Op.operands]) t ht)
    have e3 : opnd st' y = opnd st y := opnd_fr fun t ht => hop' t (ops_mem (by simp [Op.operands]) t ht)
    simp only [act, hop, e1, e2, e3, hw]
  | alloc t =>
    simp only [act, hop]
    split
    · rename_i d hd; rw [hput _ _ _ _ hd, hB d hd]
    · rfl
  | box t x =>
    simp only [hop, opLooks] at hop'
    have hx := flat_alps hop' (x := x) (ops_mem (by simp [Op.operands]))
    have e : opnd st' x = opnd st x := opnd_fr hx.1
    simp only [act, hop, e, owned_fr hx.2, taken_fr hx.2, killU_fr (owned_pl_fr hx.2)]
    split
    · rename_i d hd; rw [hput _ _ _ _ hd, hB d hd, look_fr (hB d hd)]
    · rfl
  | build t parts =>
    simp only [hop, opLooks] at hop'
    simp only [act, hop, hw]
    split
    · rw [buildLs_fr _ _ (fun x hx t ht => hop' t (ops_mem (by simp only [Op.operands, List.mem_toArray, List.mem_map]; exact ⟨x, hx, rfl⟩) t ht))]
    · rfl
  | buildSlice t n parts =>
    simp only [hop, opLooks] at hop'
    have hx : ∀ x ∈ parts.toList, (∀ t, x.2 = .tmp t → st' t = st t) ∧ ∀ q ∈ alps (opnd st x.2).2, st' q = st q := fun x hx =>
      flat_alps hop' (ops_mem (by simp only [Op.operands, List.mem_toArray, List.mem_map]; exact ⟨x, hx, rfl⟩))
    simp only [act, hop]
    split
    · rw [buildEls_fr _ _ hx]
      split
      · rename_i p xs ks hbe
        have hk : frzU st' ks = frzU st ks := frzU_fr fun z hz => by
          obtain ⟨x, hx1, hx2⟩ := buildEls_pl _ _ _ _ _ hbe z hz
          exact (hx x hx1).2 _ hx2
        rw [hk]
        congr 1
        split
        · rename_i d hd; rw [hput _ _ _ _ hd]
        · rfl
      · rfl
    · rfl
  | load t x =>
    simp only [hop, opLooks] at hop'
    have hx := flat_refs hop' (x := x) (ops_mem (by simp [Op.operands]))
    have e : one st' x = one st x := one_fr hx.1
    have hr : ∀ q ∈ refs [one st x], st' q = st q := fun q hq => hx.2 q (refs_one hq)
    simp only [act, hop, e, hw]
    congr 1
    split
    · rfl
    · rename_i b off hl
      rw [hl] at hr
      rw [hr b (by simp [refs])]
    · rfl
    · rename_i r j v i sz off hl
      rw [hl] at hr
      rw [deref_fr (l := .al r j v) (fun q hq => hr q (by simpa [alps, refs] using hq))]
    · rfl
  | store t x y =>
    simp only [hop, opLooks] at hop'
    have hx := flat_refs hop' (x := x) (ops_mem (by simp [Op.operands]))
    have hy := flat_refs hop' (x := y) (ops_mem (by simp [Op.operands]))
    have e : one st' x = one st x := one_fr hx.1
    have e2 : opnd st' y = opnd st y := opnd_fr hy.1
    have hr : ∀ q ∈ refs [one st x], st' q = st q := fun q hq => hx.2 q (refs_one hq)
    have hya : ∀ q ∈ alps (opnd st y).2, st' q = st q := fun q hq => hy.2 q (alps_refs hq)
    simp only [act, hop, e, e2, owned_fr hya, taken_fr hya, frozen_fr hya, killU_fr (owned_pl_fr hya), frzU_fr (owned_pl_fr hya)]
    split
    · rfl
    · congr 1
      split
      · rename_i b off hl
        rw [hl] at hr
        have hb := hr b (by simp [refs])
        rw [hb, look_fr hb]
      · rename_i r j v i sz off hl
        rw [hl] at hr
        have hrr := hr r (by simp [refs])
        rw [deref_fr (l := .al r j v) (fun q hq => hr q (by simpa [alps, refs] using hq))]
        split
        · rename_i p E e' xs hd'
          congr 1
          apply congrArg
          funext old
          by_cases hal : alps (splice (leaves false p e' old) (frozen' st (opnd st y).2) off) = []
          · rw [gatherAll_fr (st := look (frzU st (owned st (opnd st y).2)) st) (st' := look (frzU st (owned st (opnd st y).2)) st') (by rw [hal]; simp), hrr]
          · have : (alps (splice (leaves false p e' old) (frozen' st (opnd st y).2) off)).isEmpty = false := by
              cases hq : (alps (splice (leaves false p e' old) (frozen' st (opnd st y).2) off)) with
              | nil => exact absurd hq hal
              | cons => rfl
            simp only [this, cond_false]
            cases gatherAll (look (frzU st (owned st (opnd st y).2)) st) e' (splice (leaves false p e' old) (frozen' st (opnd st y).2) off) <;>
              cases gatherAll (look (frzU st (owned st (opnd st y).2)) st') e' (splice (leaves false p e' old) (frozen' st (opnd st y).2) off) <;> rfl
        · rfl
      · rfl
  | nilCheck x =>
    simp only [hop, opLooks] at hop'
    have hx := flat_alps hop' (x := x) (ops_mem (by simp [Op.operands]))
    have e : one st' x = one st x := one_fr hx.1
    have hr : ∀ q ∈ alps [one st x], st' q = st q := fun q hq => hx.2 q (alps_one hq)
    simp only [act, hop, e, hw]
    split
    · rfl
    · rfl
    · rename_i r j v i sz off hl
      rw [hl] at hr
      rw [hr r (by simp [alps])]
    · rfl
    · rfl
  | binOp op t x y t' =>
    simp only [hop, opLooks] at hop'
    have e1 : one st' x = one st x := one_fr fun t ht => hop' t (ops_mem (by simp [Op.operands]) t ht)
    have e2 : one st' y = one st y := one_fr fun t ht => hop' t (ops_mem (by simp [Op.operands]) t ht)
    have e3 : opnd st' x = opnd st x := opnd_fr fun t ht => hop' t (ops_mem (by simp [Op.operands]) t ht)
    have e4 : opnd st' y = opnd st y := opnd_fr fun t ht => hop' t (ops_mem (by simp [Op.operands]) t ht)
    simp only [act, hop, e1, e2, e3, e4, hw]
    split
    · rfl
    · rfl
    · rfl
    · split
      · rename_i b flds ht
        cases hb : b.flat with
        | false => simp [hb]
        | true => rw [gatherAll_flat hb, gatherAll_flat (ls := (opnd st y).2) hb]
      · rfl
  | unOp op t x =>
    simp only [hop, opLooks] at hop'
    have e1 : one st' x = one st x := one_fr fun t ht => hop' t (ops_mem (by simp [Op.operands]) t ht)
    simp only [act, hop, e1, hw]
  | convert s t x =>
    simp only [hop, opLooks] at hop'
    have e1 : one st' x = one st x := one_fr fun t ht => hop' t (ops_mem (by simp [Op.operands]) t ht)
    simp only [act, hop, e1, hw]
  | makeSlice t n c =>
    simp only [hop, opLooks] at hop'
    have e1 : one st' n = one st n := one_fr fun t ht => hop' t (ops_mem (by simp [Op.operands]) t ht)
    have e2 : one st' c = one st c := one_fr fun t ht => hop' t (ops_mem (by simp [Op.operands]) t ht)
    simp only [act, hop, e1, e2, hw]
  | slice t x lo hi mx =>
    simp only [hop, opLooks] at hop'
    have hx := flat_alps hop' (x := x) (ops_mem (by simp [Op.operands]))
    have hlo : ∀ n, boundK st' lo n = boundK st lo n := fun n => boundK_fr fun y hy t ht => hop' t (List.mem_append_left _ (ops_mem (by simp [Op.operands, hy]) t ht))
    have hhi : ∀ n, boundK st' hi n = boundK st hi n := fun n => boundK_fr fun y hy t ht => hop' t (List.mem_append_left _ (ops_mem (by simp [Op.operands, hy]) t ht))
    have e : one st' x = one st x := one_fr hx.1
    have hr : ∀ q ∈ alps [one st x], st' q = st q := fun q hq => hx.2 q (alps_one hq)
    simp only [act, hop, e, hlo, hhi, deref_fr hr, owned_fr hr, frzU_fr (owned_pl_fr hr)]
    split
    · rename_i d hmx hd
      simp only [hput _ _ _ _ hd]
    · rfl
  | fieldAddr t x f =>
    simp only [hop, opLooks] at hop'
    have hx := flat_alps hop' (x := x) (ops_mem (by simp [Op.operands]))
    have e : one st' x = one st x := one_fr hx.1
    have hr : ∀ q ∈ alps [one st x], st' q = st q := fun q hq => hx.2 q (alps_one hq)
    simp only [act, hop, e, hw]
    split
    · split
      · split
        · rfl
        · rfl
        · rename_i r j v i sz off hl
          rw [hl] at hr
          rw [hr r (by simp [alps])]
        · rfl
      · rfl
    · rfl
  | field t x f =>
    simp only [hop, opLooks] at hop'
    have e1 : opnd st' x = opnd st x := opnd_fr fun t ht => hop' t (ops_mem (by simp [Op.operands]) t ht)
    simp only [act, hop, e1, hw]
  | indexAddr t x i =>
    simp only [hop, opLooks] at hop'
    have hx := flat_alps hop' (x := x) (ops_mem (by simp [Op.operands]))
    have e : one st' x = one st x := one_fr hx.1
    have e2 : one st' i = one st i := one_fr fun t ht => hop' t (List.mem_append_left _ (ops_mem (by simp [Op.operands]) t ht))
    have hr : ∀ q ∈ alps [one st x], st' q = st q := fun q hq => hx.2 q (alps_one hq)
    simp only [act, hop, e, e2, hw]
    split
    · split
      · split
        · rename_i r j v hl
          rw [hl] at hr
          rw [deref_fr hr]
        · rfl
        · rfl
      · rfl
    · rfl
  | index t x i =>
    simp only [hop, opLooks] at hop'
    have e1 : one st' x = one st x := one_fr fun t ht => hop' t (ops_mem (by simp [Op.operands]) t ht)
    have e2 : one st' i = one st i := one_fr fun t ht => hop' t (ops_mem (by simp [Op.operands]) t ht)
    simp only [act, hop, e1, e2, hw]
  | extract x i =>
    simp only [hop, opLooks] at hop'
    have e1 : opnd st' x = opnd st x := opnd_fr fun t ht => hop' t (ops_mem (by simp [Op.operands]) t ht)
    simp only [act, hop, e1, hw]
  | makeFunc fn first caps =>
    simp only [hop, opLooks] at hop'
    cases fn with
    | func f =>
      have : capsOf st' caps.toList = capsOf st caps.toList := caps_fr (st := st) (st' := st') caps.toList (some []) (fun x hx t ht => hop' t (ops_mem (by simp [Op.operands]; exact .inr (by simpa using hx)) t ht))
      simp only [act, hop, hw, this]
    | _ => simp only [act, hop]
  | call c =>
    simp only [hop, opLooks] at hop'
    simp only [act, hop]
    split
    · rfl
    · rename_i d hd
      obtain ⟨hdd, hdB⟩ := dst_fr hd h
      cases hc : c.callee with
      | value f =>
        simp only [hc] at hop'
        have hmf : f ∈ (Op.call c).operands := by simp [Op.operands, Call.operands, hc]
        have hma : ∀ x ∈ c.args.toList, x ∈ (Op.call c).operands := fun x hx => by
          simp only [Op.operands, Call.operands, hc, Array.mem_append]
          exact .inr (by simpa using hx)
        have hts : ∀ x ∈ (Op.call c).operands, ∀ t, x = .tmp t → st' t = st t := fun x hx t ht => hop' t (by
          unfold looks
          exact List.mem_append_left _ (List.mem_append_left _ (List.mem_append_left _ (ops_mem hx t ht))))
        have e1 : one st' f = one st f := one_fr (hts f hmf)
        have e2 : c.args.toList.map (opnd st') = c.args.toList.map (opnd st) := List.map_congr_left fun x hx => opnd_fr (hts x (hma x hx))
        have hdeep : ∀ x ∈ c.args.toList.map (opnd st), Deep st st' x.2 := by
          intro x hx
          obtain ⟨y, hy, rfl⟩ := List.mem_map.1 hx
          exact looks_deep hop' (ops_mem (hma y hy))
        simp only [e1, e2]
        split
        · rename_i g caps hl
          refine callK_fr ?_ hdd hdB
          intro x hx
          rcases List.mem_append.1 hx with hx | hx
          · exact hdeep x hx
          · obtain ⟨b, hb, rfl⟩ := List.mem_map.1 hx
            have hf := looks_deep hop' (ops_mem hmf)
            have hop2 := one_mem hl (by simp)
            rw [hop2] at hf
            have hbb : ∀ r ∈ refs [Leaf.bp b 0], r = b := fun r hr => by simpa [refs] using hr
            have hcap : b ∈ refs [Leaf.clo g caps] := by simp [refs, hb]
            exact ⟨fun q hq => hf.d1 q (by rw [hbb q hq]; exact hcap), fun r hr => hf.d2 r (by rw [hbb r hr]; exact hcap), fun r hr => hf.d3 r (by rw [hbb r hr]; exact hcap)⟩
        · rename_i As B φ hl
          rw [getTup_fr As _ (fun x hx q hq => (hdeep x hx).d1 q (alps_refs hq))]
          simp only [hw]
        · rfl
      | builtin b =>
        simp only [hc] at hop'
        have hma : ∀ x ∈ c.args.toList, x ∈ (Op.call c).operands := fun x hx => by
          simp only [Op.operands, Call.operands, hc, Array.mem_append]
          exact .inr (by simpa using hx)
        have hx : ∀ x ∈ c.args.toList, one st' x = one st x ∧ ∀ q ∈ alps [one st x], st' q = st q := fun x hx => by
          have := flat_alps hop' (ops_mem (hma x hx))
          exact ⟨one_fr this.1, fun q hq => this.2 q (alps_one hq)⟩
        cases b with
        | len =>
          dsimp only
          split
          · rename_i x hxx
            have h1 := hx x (by rw [hxx]; simp)
            simp only [h1.1, deref_fr h1.2, hw]
          · rfl
        | append =>
          dsimp only
          split
          · rename_i x y t u hxx _
            have h1 := hx x (by rw [hxx]; simp)
            have h2 := hx y (by rw [hxx]; simp)
            split
            · rw [h1.1, h2.1, appendK_fr h1.2 h2.2 hdd]
            · rfl
          · rfl
        | min =>
          dsimp only
          split
          · rename_i x y hxx
            rw [(hx x (by rw [hxx]; simp)).1, (hx y (by rw [hxx]; simp)).1]
            simp only [hw]
          · rfl
        | max =>
          dsimp only
          split
          · rename_i x y hxx
            rw [(hx x (by rw [hxx]; simp)).1, (hx y (by rw [hxx]; simp)).1]
            simp only [hw]
          · rfl
        | _ => rfl
      | invoke x n => rfl
  | _ => simp only [act, hop]

end
end Go.Proofs.YthgnfidnmnkeaaaGreatEv
