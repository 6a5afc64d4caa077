/- An operation that looks at the same slots does the same. -/
import Derived.Test.YthgnfidnmnkeaaaGreatEv18
namespace Go.Proofs.YthgnfidnmnkeaaaGreatEv
open Go Go.RowKit

section
variable {P : Program} {V : Env} {Γ : List Ctr} {T : TypeId → TI} {st st' : St} {o : Oper} {R : Type} {κ : Upd → Option R} {r : R}

theorem dst_fr {d : Nat} (hd : o.dst = some d) (h : ∀ q ∈ looksOf st o, st' q = st q) : st' d = st d ∧ st' (B0 + d) = st (B0 + d) := by
  refine ⟨h d ?_, h (B0 + d) ?_⟩ <;> simp [looksOf, hd]

theorem op_fr (h : ∀ q ∈ looksOf st o, st' q = st q) : ∀ q ∈ opLooks st o.op, st' q = st q := fun q hq => h q (List.mem_append_left _ hq)

theorem owned_pl_fr {ls : List Leaf} (h : ∀ q ∈ alps ls, st' q = st q) : ∀ x ∈ owned st ls, st' x.1 = st x.1 := fun x hx => h _ (owned_alps_mem hx)

theorem buildLs_fr {flds : List (Nat × Nat × Bool)} : ∀ (ps : List (Nat × Operand)) (ls : List Leaf), (∀ x ∈ ps, ∀ t, x.2 = .tmp t → st' t = st t) → buildLs st' flds ps ls = buildLs st flds ps ls
  | [], _, _ => rfl
  | (i, x) :: ps, ls, h => by
    simp only [buildLs, opnd_fr (h (i, x) (List.mem_cons_self ..))]
    split
    · rw [buildLs_fr ps _ (fun y hy => h y (List.mem_cons_of_mem _ hy))]
    · rfl

theorem buildEls_fr {e : Ty} : ∀ (ps : List (Nat × Operand)) (k : Nat), (∀ x ∈ ps, (∀ t, x.2 = .tmp t → st' t = st t) ∧ ∀ q ∈ alps (opnd st x.2).2, st' q = st q) → buildEls st' e k ps = buildEls st e k ps
  | [], _, _ => rfl
  | (i, x) :: ps, k, h => by
    have h1 := h (i, x) (List.mem_cons_self ..)
    simp only [buildEls, opnd_fr h1.1, gatherAll_fr h1.2, owned_fr h1.2, buildEls_fr ps (k + 1) (fun y hy => h y (List.mem_cons_of_mem _ hy))]

theorem buildEls_pl {e : Ty} : ∀ (ps : List (Nat × Operand)) (k : Nat) (p : Bool) (xs : List e.den) (ks : List (Nat × Nat)), buildEls st e k ps = some (p, xs, ks) → ∀ z ∈ ks, ∃ x ∈ ps, z.1 ∈ alps (opnd st x.2).2
  | [], _, _, _, _, h => by simp [buildEls] at h; obtain ⟨_, _, rfl⟩ := h; simp
  | (i, x) :: ps, k, p, xs, ks, h => by
    simp only [buildEls] at h
    cases hb : Nat.beq i k && decide ((opnd st x).1 = shOf e.isAgg) with
    | false => simp [hb] at h
    | true =>
      simp only [hb, cond_true] at h
      split at h
      · rename_i p1 y1 p2 ys ks2 hg hbe
        simp only [Option.some.injEq, Prod.mk.injEq] at h
        obtain ⟨rfl, rfl, rfl⟩ := h
        intro z hz
        rcases List.mem_append.1 hz with hz | hz
        · exact ⟨(i, x), List.mem_cons_self .., owned_alps_mem hz⟩
        · obtain ⟨y, hy, h2⟩ := buildEls_pl ps (k + 1) p2 ys ks2 hbe z hz
          exact ⟨y, List.mem_cons_of_mem _ hy, h2⟩
      · cases h

theorem boundK_fr {x : Option Operand} {n : Int} (h : ∀ y, x = some y → ∀ t, y = .tmp t → st' t = st t) : boundK st' x n = boundK st x n := by
  cases x with
  | none => rfl
  | some y => simp only [boundK, one_fr (h y rfl)]

theorem caps_fr : ∀ (xs : List Operand) (acc : Option (List Nat)), (∀ x ∈ xs, ∀ t, x = .tmp t → st' t = st t) →
    xs.foldl (fun (acc : Option (List Nat)) x => acc.bind fun l => match one st' x with | .bp b 0 => some (l ++ [b]) | _ => none) acc =
    xs.foldl (fun (acc : Option (List Nat)) x => acc.bind fun l => match one st x with | .bp b 0 => some (l ++ [b]) | _ => none) acc
  | [], _, _ => rfl
  | x :: xs, acc, h => by
    simp only [List.foldl_cons, one_fr (h x (List.mem_cons_self ..))]
    exact caps_fr xs _ (fun y hy => h y (List.mem_cons_of_mem _ hy))

theorem appendK_fr {d : Nat} {E : TypeId} {e : Ty} {bytes : Nat} {x y : Leaf} (hx : ∀ q ∈ alps [x], st' q = st q) (hy : ∀ q ∈ alps [y], st' q = st q) (hd : st' d = st d) : appendK st' d E e bytes x y κ = appendK st d E e bytes x y κ := by
  unfold appendK
  have e2 : deref st' y = deref st y := deref_fr hy
  have e3 : owned st' [y] = owned st [y] := owned_fr hy
  have hf : frzU st' (bif e.flat then [] else owned st [y]) = frzU st (bif e.flat then [] else owned st [y]) := by
    apply frzU_fr
    cases e.flat with
    | true => simp
    | false => exact owned_pl_fr hy
  simp only [e2, e3, hf]
  cases x with
  | al r j v =>
    have hr : st' r = st r := hx r (by simp [alps])
    have e1 : deref st' (.al r j v) = deref st (.al r j v) := deref_fr hx
    simp only [e1]
    split
    · rename_i p xs ks hbase
      split
      · have hk : ∀ (U : Upd), killU (look U st') ks = killU (look U st) ks := by
          intro U
          apply killU_fr
          intro z hz
          split at hbase
          · simp only [Option.map_eq_some_iff, Prod.mk.injEq] at hbase
            obtain ⟨_, _, _, _, rfl⟩ := hbase
            simp at hz
            subst hz
            exact look_fr hr U
          · cases hbase
        simp only [hk, putU_fr hd]
      · rfl
    · rfl
  | nil =>
    simp only
    split
    · simp only [killU, putU_fr hd]
    · rfl
  | _ => rfl

/-! ### Calls -/
structure Deep (st st' : St) (ls : List Leaf) : Prop where
  d1 : ∀ q ∈ refs ls, st' q = st q
  d2 : ∀ r ∈ refs ls, ∀ q ∈ refs (st r).ls, st' q = st q
  d3 : ∀ r ∈ refs ls, ∀ r2 ∈ refs (st r).ls, ∀ q ∈ refs (st r2).ls, st' q = st q

theorem refs_leaves (p : Bool) : ∀ (a : Ty) (x : a.den), refs (leaves false p a x) = []
  | .int _, _ => rfl
  | .bool, _ => rfl
  | .str, _ => rfl
  | .unit, _ => rfl
  | .pair a b, x => by simp [leaves, refs_append, refs_leaves p a, refs_leaves p b]
  | .list _ _, _ => rfl

theorem target_fr {l : Leaf} (h : ∀ q ∈ refs [l], st' q = st q) : target st' l = target st l := by
  unfold target
  cases l with
  | bp b off =>
    have hb := h b (by simp [refs])
    cases off with
    | zero => simp only [hb]
    | succ n => rfl
  | rp p a x off => cases off <;> rfl
  | _ => rfl

theorem target_refs {l : Leaf} {ls : List Leaf} (h : target st l = some ls) : ∀ q ∈ refs ls, q ∈ refs [l] ∨ ∃ r ∈ refs [l], q ∈ refs (st r).ls := by
  unfold target at h
  split at h
  · rename_i b
    cases hb : decide ((st b).sh = .agg) with
    | false => simp [hb] at h
    | true =>
      simp only [hb, cond_true, Option.some.injEq] at h
      subst h
      intro q hq
      rcases refs_view _ _ _ _ _ hq with rfl | hq
      · exact .inl (by simp [refs])
      · exact .inr ⟨b, by simp [refs], hq⟩
  · simp only [Option.some.injEq] at h
    subst h
    intro q hq
    rw [refs_leaves] at hq
    simp at hq
  · simp only [Option.some.injEq] at h
    subst h
    intro q hq
    simp [refs] at hq
  · cases h

theorem oneLeaf_refs {x : Shape × List Leaf} {q : Nat} (h : q ∈ refs [oneLeaf x]) : q ∈ refs x.2 := by
  unfold oneLeaf at h
  split at h
  · exact h
  · simp [refs] at h

theorem Deep.target {l : Leaf} {ls : List Leaf} (h : Deep st st' [l]) (ht : Go.Proofs.YthgnfidnmnkeaaaGreatEv.target st l = some ls) : (∀ q ∈ refs ls, st' q = st q) ∧ ∀ r ∈ refs ls, ∀ q ∈ refs (st r).ls, st' q = st q := by
  constructor
  · intro q hq
    rcases target_refs ht q hq with h1 | ⟨r, h1, h2⟩
    · exact h.d1 q h1
    · exact h.d2 r h1 q h2
  · intro r hr q hq
    rcases target_refs ht r hr with h1 | ⟨r', h1, h2⟩
    · exact h.d2 r h1 q hq
    · exact h.d3 r' h1 r h2 q hq

theorem Deep.one {x : Shape × List Leaf} (h : Deep st st' x.2) : Deep st st' [oneLeaf x] :=
  ⟨fun q hq => h.d1 q (oneLeaf_refs hq), fun r hr => h.d2 r (oneLeaf_refs hr), fun r hr => h.d3 r (oneLeaf_refs hr)⟩

theorem getArg_fr {pk : PK} {x : Shape × List Leaf} (h : Deep st st' x.2) : getArg st' pk x = getArg st pk x ∧ ∀ g, getArg st pk x = some g → (∀ z ∈ g.frz, st' z.1 = st z.1) ∧ (∀ z ∈ g.kill, st' z.1 = st z.1) := by
  have hx : ∀ q ∈ alps x.2, st' q = st q := fun q hq => h.d1 q (alps_refs hq)
  have h1 := h.one
  have hl : ∀ q ∈ alps [oneLeaf x], st' q = st q := fun q hq => h1.d1 q (alps_refs hq)
  cases pk with
  | rd a =>
    simp only [getArg, gatherAll_fr hx, owned_fr hx, true_and]
    intro g hg
    cases hb : decide (x.1 = shOf a.isAgg) with
    | false => simp [hb] at hg
    | true =>
      simp only [hb, cond_true, Option.map_eq_some_iff] at hg
      obtain ⟨y, _, rfl⟩ := hg
      exact ⟨owned_pl_fr hx, by simp⟩
  | own E e =>
    simp only [getArg]
    constructor
    · split
      · rename_i r j v hlf
        rw [hlf] at hl
        rw [deref_fr hl]
      · rfl
      · rfl
    · intro g hg
      split at hg
      · rename_i r j v hlf
        rw [hlf] at hl
        split at hg
        · simp only [Option.map_eq_some_iff] at hg
          obtain ⟨_, _, rfl⟩ := hg
          exact ⟨by simp, fun z hz => by simp at hz; subst hz; exact hl r (by simp [alps])⟩
        · cases hg
      · simp only [Option.some.injEq] at hg
        subst hg
        exact ⟨by simp, by simp⟩
      · cases hg
  | io E e =>
    simp only [getArg]
    constructor
    · split
      · rename_i r j v hlf
        rw [hlf] at hl
        rw [deref_fr hl]
      · rfl
    · intro g hg
      split at hg
      · split at hg
        · simp only [Option.map_eq_some_iff] at hg
          obtain ⟨_, _, rfl⟩ := hg
          exact ⟨by simp, by simp⟩
        · cases hg
      · cases hg
  | rref a =>
    simp only [getArg, target_fr h1.d1]
    cases ht : target st (oneLeaf x) with
    | none => exact ⟨rfl, by simp⟩
    | some ls =>
      have h2 := h1.target ht
      have h3 : ∀ q ∈ alps ls, st' q = st q := fun q hq => h2.1 q (alps_refs hq)
      simp only [gatherAll_fr h3, owned_fr h3, true_and]
      intro g hg
      simp only [Option.map_eq_some_iff] at hg
      obtain ⟨_, _, rfl⟩ := hg
      exact ⟨owned_pl_fr h3, by simp⟩
  | rref2 a =>
    simp only [getArg, target_fr h1.d1]
    cases ht : target st (oneLeaf x) with
    | none => exact ⟨rfl, by simp⟩
    | some ls =>
      have h2 := h1.target ht
      match ls, h2, ht with
      | [], _, _ => exact ⟨rfl, by simp⟩
      | _ :: _ :: _, _, _ => exact ⟨rfl, by simp⟩
      | [l'], h2, ht =>
        simp only [target_fr h2.1]
        cases ht' : target st l' with
        | none => exact ⟨rfl, by simp⟩
        | some ls' =>
          have h3 : ∀ q ∈ alps ls', st' q = st q := by
            intro q hq
            rcases target_refs ht' q (alps_refs hq) with h4 | ⟨r, h4, h5⟩
            · exact h2.1 q h4
            · exact h2.2 r h4 q h5
          simp only [gatherAll_fr h3, owned_fr h3, true_and]
          intro g hg
          simp only [Option.map_eq_some_iff] at hg
          obtain ⟨_, _, rfl⟩ := hg
          exact ⟨owned_pl_fr h3, by simp⟩
  | iop a =>
    simp only [getArg]
    split
    · rename_i b hlf
      rw [hlf] at h1
      have hb := h1.d1 b (by simp [refs])
      have h3 : ∀ q ∈ alps (viewFrom b (st b).ver 0 (st b).ls), st' q = st q := by
        intro q hq
        rcases alps_view _ _ _ _ _ hq with rfl | hq
        · exact hb
        · exact h1.d2 b (by simp [refs]) q (alps_refs hq)
      simp only [hb, gatherAll_fr h3, owned_fr h3, true_and]
      intro g hg
      cases hbb : decide ((st b).sh = .agg) with
      | false => simp [hbb] at hg
      | true =>
        simp only [hbb, cond_true, Option.map_eq_some_iff] at hg
        obtain ⟨_, _, rfl⟩ := hg
        exact ⟨owned_pl_fr h3, by simp⟩
    · exact ⟨rfl, by simp⟩
  | fn As B =>
    simp only [getArg, true_and]
    intro g hg
    split at hg
    · split at hg
      · simp only [Option.some.injEq] at hg
        subst hg
        exact ⟨by simp, by simp⟩
      · cases hg
    · cases hg

theorem getArgsBy_fr {ga ga' : (pk : PK) → Shape × List Leaf → Option (Got pk.den)} : ∀ (ps : List PK) (xs : List (Shape × List Leaf)),
    (∀ x ∈ xs, ∀ pk, ga' pk x = ga pk x ∧ ∀ g, ga pk x = some g → (∀ z ∈ g.frz, st' z.1 = st z.1) ∧ (∀ z ∈ g.kill, st' z.1 = st z.1)) →
    getArgsBy ga' ps xs = getArgsBy ga ps xs ∧ ∀ g, getArgsBy ga ps xs = some g → (∀ z ∈ g.frz, st' z.1 = st z.1) ∧ (∀ z ∈ g.kill, st' z.1 = st z.1)
  | [], [], _ => ⟨rfl, fun g hg => by simp only [getArgsBy, Option.some.injEq] at hg; subst hg; exact ⟨by simp, by simp⟩⟩
  | [], _ :: _, _ => ⟨rfl, fun g hg => by simp [getArgsBy] at hg⟩
  | _ :: _, [], _ => ⟨rfl, fun g hg => by simp [getArgsBy] at hg⟩
  | p :: ps, x :: xs, h => by
    obtain ⟨h1, h2⟩ := h x (List.mem_cons_self ..) p
    obtain ⟨h3, h4⟩ := getArgsBy_fr ps xs (fun y hy => h y (List.mem_cons_of_mem _ hy))
    simp only [getArgsBy, h1, h3, true_and]
    intro g hg
    split at hg
    · rename_i g1 hg1
      split at hg
      · rename_i g2 hg2
        simp only [Option.some.injEq] at hg
        subst hg
        exact ⟨fun z hz => (List.mem_append.1 hz).elim ((h2 g1 hg1).1 z) ((h4 g2 hg2).1 z), fun z hz => (List.mem_append.1 hz).elim ((h2 g1 hg1).2 z) ((h4 g2 hg2).2 z)⟩
      · cases hg
    · cases hg

theorem getArgF_fr {pk : PK} {x : Shape × List Leaf} (h : Deep st st' x.2) : getArgF Γ st' pk x = getArgF Γ st pk x ∧ ∀ g, getArgF Γ st pk x = some g → (∀ z ∈ g.frz, st' z.1 = st z.1) ∧ (∀ z ∈ g.kill, st' z.1 = st z.1) := by
  cases pk with
  | fn As B =>
    simp only [getArgF]
    split
    · rename_i fc hfc
      have hx : oneLeaf x = .clo fc.1 fc.2 := by
        generalize oneLeaf x = l at hfc
        cases l <;> simp [cloOf] at hfc
        subst hfc
        rfl
      have h1 := h.one
      rw [hx] at h1
      have hcap : ∀ b ∈ fc.2, b ∈ refs [Leaf.clo fc.1 fc.2] := fun b hb => by simp [refs, hb]
      have hargs := fun (q : List PK) => getArgsBy_fr (st := st) (st' := st') (ga := getArg st) (ga' := getArg st') q (fc.2.map fun b => (Shape.one, [Leaf.bp b 0])) (fun y hy pk => by
        obtain ⟨b, hb, rfl⟩ := List.mem_map.1 hy
        have hbb : ∀ r ∈ refs [Leaf.bp b 0], r = b := fun r hr => by simpa [refs] using hr
        exact getArg_fr ⟨fun q hq => h1.d1 q (by rw [hbb q hq]; exact hcap b hb), fun r hr => h1.d2 r (by rw [hbb r hr]; exact hcap b hb), fun r hr => h1.d3 r (by rw [hbb r hr]; exact hcap b hb)⟩)
      unfold cloFn
      split
      · rename_i c hc
        unfold cloGo
        simp only [getArgs, (hargs _).1, true_and]
        intro g hg
        split at hg
        · cases hb : (c.ps.drop As.length).all PK.reads && B.flat && c.fresh with
          | false => simp [hb] at hg
          | true =>
            simp only [hb, cond_true] at hg
            split at hg
            · rename_i g0 hg0
              simp only [Option.some.injEq] at hg
              subst hg
              exact ⟨((hargs _).2 g0 hg0).1, by simp⟩
            · cases hg
        · cases hg
      · exact ⟨rfl, by simp⟩
    · exact getArg_fr h
  | rd a => exact getArg_fr (pk := .rd a) h
  | own E e => exact getArg_fr (pk := .own E e) h
  | io E e => exact getArg_fr (pk := .io E e) h
  | rref a => exact getArg_fr (pk := .rref a) h
  | rref2 a => exact getArg_fr (pk := .rref2 a) h
  | iop a => exact getArg_fr (pk := .iop a) h

theorem lone_refs {ls : List Leaf} {q : Nat} (h : q ∈ refs [lone ls]) : q ∈ refs ls := by
  unfold lone at h
  split at h
  · exact h
  · simp [refs] at h

theorem putOuts_fr : ∀ (ps : List PK) (xs : List (Shape × List Leaf)) (y : Outs ps), (∀ x ∈ xs, ∀ q ∈ refs x.2, st' q = st q) → putOuts st' ps xs y = putOuts st ps xs y
  | [], _, _, _ => by simp [putOuts]
  | p :: ps, [], y, h => by cases p <;> simp [putOuts]
  | p :: ps, x :: xs, y, h => by
    have ih := fun (y : Outs ps) => putOuts_fr ps xs y (fun z hz => h z (List.mem_cons_of_mem _ hz))
    have hx := h x (List.mem_cons_self ..)
    cases p with
    | io E e =>
      simp only [putOuts, ih]
      have hl : ∀ q ∈ refs [lone x.2], st' q = st q := fun q hq => hx q (lone_refs hq)
      congr 1
      split
      · rename_i r j v hlf
        rw [hlf] at hl
        rw [look_fr (hl r (by simp [refs]))]
      · rfl
    | iop a =>
      simp only [putOuts, ih]
      have hl : ∀ q ∈ refs [lone x.2], st' q = st q := fun q hq => hx q (lone_refs hq)
      congr 1
      split
      · rename_i b v hlf
        rw [hlf] at hl
        rw [look_fr (hl b (by simp [refs]))]
      · rfl
    | _ => exact ih _

theorem callK_fr {d : Nat} {f : FuncId} {xs : List (Shape × List Leaf)} (hx : ∀ x ∈ xs, Deep st st' x.2) (hd : st' d = st d) (hB : st' (B0 + d) = st (B0 + d)) : callK Γ st' d f xs κ = callK Γ st d f xs κ := by
  unfold callK
  split
  · rename_i c hc
    have hg := getArgsBy_fr (st := st) (st' := st') (ga := getArgF Γ st) (ga' := getArgF Γ st') c.ps xs (fun x hx' pk => getArgF_fr (hx x hx'))
    simp only [getArgsF, hg.1]
    split
    · rename_i g hgg
      obtain ⟨h1, h2⟩ := hg.2 g hgg
      have hbox : boxOk st' d c.rs = boxOk st d c.rs := by
        unfold boxOk
        split
        · rw [hB]
        · rfl
      have hfz : (bif c.fresh then [] else frzU st' g.frz) = (bif c.fresh then [] else frzU st g.frz) := by rw [frzU_fr h1]
      have hk : ∀ (U : Upd), killU (look U st') g.kill = killU (look U st) g.kill := fun U => killU_fr (fun z hz => look_fr (h2 z hz) U)
      have ho : ∀ (U : Upd) (y : Outs c.ps), putOuts (look U st') c.ps xs y = putOuts (look U st) c.ps xs y := fun U y => putOuts_fr c.ps xs y (fun x hx' q hq => look_fr ((hx x hx').d1 q hq) U)
      simp only [hbox, hfz, hk, ho, look_fr hd, look_fr hB]
    · rfl
  · rfl

theorem getTup_fr : ∀ (As : List Ty) (xs : List (Shape × List Leaf)), (∀ x ∈ xs, ∀ q ∈ alps x.2, st' q = st q) → getTup st' As xs = getTup st As xs
  | [], [], _ => rfl
  | [], _ :: _, _ => rfl
  | _ :: _, [], _ => rfl
  | a :: As, x :: xs, h => by
    simp only [getTup, gatherAll_fr (h x (List.mem_cons_self ..)), getTup_fr As xs (fun y hy => h y (List.mem_cons_of_mem _ hy))]

end
end Go.Proofs.YthgnfidnmnkeaaaGreatEv
