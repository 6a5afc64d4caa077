/- Regions in any order. -/
import Derived.Test.YthgnfidnmnkeaaaGreatEv21
namespace Go.Proofs.YthgnfidnmnkeaaaGreatEv
open Go Go.RowKit

section
variable {P : Program} {V : Env} {Γ : List Ctr} {T : TypeId → TI} {st st' : St} {o : Oper} {R : Type} {all : Array Oper}

def stAt (D : Nat → Bool) : List Upd → St → St
  | [], st => st
  | U :: us, st => stAt (fun j => D (j + 1)) us (bif D 0 then look U st else st)

theorem look_in {q : Nat} : ∀ {U : Upd} (s s' : St), q ∈ U.map (·.1) → look U s q = look U s' q
  | [], _, _, h => by simp at h
  | (r, c) :: U, s, s', h => by
    simp only [look]
    cases hb : Nat.beq q r with
    | true => rfl
    | false =>
      simp only [cond_false]
      refine look_in s s' ?_
      simp only [List.map_cons, List.mem_cons] at h
      rcases h with rfl | h
      · simp at hb
      · exact h

theorem look_out {q : Nat} : ∀ {U : Upd} (s : St), q ∉ U.map (·.1) → look U s q = s q
  | [], _, _ => rfl
  | (r, c) :: U, s, h => by
    simp only [List.map_cons, List.mem_cons, not_or] at h
    have hb : Nat.beq q r = false := by
      cases hb : Nat.beq q r with
      | false => rfl
      | true => exact absurd (Nat.eq_of_beq_eq_true hb) h.1
    simp only [look, hb, cond_false]
    exact look_out s h.2

theorem look_comm {U U' : Upd} (h : ∀ q, q ∈ U.map (·.1) → q ∉ U'.map (·.1)) (s : St) : look U' (look U s) = look U (look U' s) := by
  funext q
  by_cases h1 : q ∈ U.map (·.1)
  · rw [look_out _ (h q h1)]
    exact look_in _ _ h1
  · rw [look_out (U := U) _ h1]
    by_cases h2 : q ∈ U'.map (·.1)
    · exact look_in _ _ h2
    · rw [look_out _ h2, look_out _ h2, look_out _ h1]

theorem stAt_congr : ∀ {us : List Upd} {D D' : Nat → Bool} {s : St}, (∀ j, j < us.length → D j = D' j) → stAt D us s = stAt D' us s
  | [], _, _, _, _ => rfl
  | U :: us, D, D', s, h => by
    simp only [stAt]
    rw [h 0 (by simp)]
    exact stAt_congr (fun j hj => h (j + 1) (by simpa using hj))

theorem stAt_none : ∀ {us : List Upd} {D : Nat → Bool} {s : St}, (∀ j, D j = false) → stAt D us s = s
  | [], _, _, _ => rfl
  | U :: us, D, s, h => by
    simp only [stAt, h 0, cond_false]
    exact stAt_none (fun j => h (j + 1))

theorem stAt_agree {q : Nat} : ∀ {us : List Upd} {D D' : Nat → Bool} {s s' : St}, s q = s' q → (∀ (j : Nat) (U : Upd), us[j]? = some U → q ∈ U.map (·.1) → D j = D' j) → stAt D us s q = stAt D' us s' q
  | [], _, _, _, _, h, _ => h
  | U :: us, D, D', s, s', h, H => by
    simp only [stAt]
    refine stAt_agree ?_ (fun j U' h1 h2 => H (j + 1) U' (by simpa using h1) h2)
    by_cases hq : q ∈ U.map (·.1)
    · rw [H 0 U rfl hq]
      cases D' 0 with
      | true => exact look_in _ _ hq
      | false => exact h
    · have e1 : ∀ b : Bool, (bif b then look U s else s) q = s q := by intro b; cases b <;> simp [look_out _ hq]
      have e2 : ∀ b : Bool, (bif b then look U s' else s') q = s' q := by intro b; cases b <;> simp [look_out _ hq]
      rw [e1, e2, h]

theorem stAt_look {U : Upd} : ∀ {us : List Upd} {D : Nat → Bool} {s : St}, (∀ (j : Nat) (U' : Upd), us[j]? = some U' → D j = true → ∀ q, q ∈ U.map (·.1) → q ∉ U'.map (·.1)) → stAt D us (look U s) = look U (stAt D us s)
  | [], _, _, _ => rfl
  | U' :: us, D, s, h => by
    simp only [stAt]
    cases hD : D 0 with
    | true =>
      simp only [cond_true]
      rw [look_comm (h 0 U' rfl hD)]
      exact stAt_look (fun j U'' h1 h2 => h (j + 1) U'' (by simpa using h1) h2)
    | false =>
      simp only [cond_false]
      exact stAt_look (fun j U'' h1 h2 => h (j + 1) U'' (by simpa using h1) h2)

theorem stAt_insert {U : Upd} : ∀ {us : List Upd} {i : Nat} {D D' : Nat → Bool} {s : St}, us[i]? = some U → D i = false → (∀ j, D' j = (D j || Nat.beq j i)) →
    (∀ (j : Nat) (U' : Upd), us[j]? = some U' → i < j → D j = true → ∀ q, q ∈ U.map (·.1) → q ∉ U'.map (·.1)) → stAt D' us s = look U (stAt D us s)
  | [], i, _, _, _, h, _, _, _ => by simp at h
  | V :: us, 0, D, D', s, h, hD, hD', H => by
    simp at h
    subst h
    simp only [stAt]
    have h0 : D' 0 = true := by rw [hD' 0]; simp
    rw [h0, hD]
    simp only [cond_true, cond_false]
    have e : stAt (fun j => D' (j + 1)) us (look V s) = stAt (fun j => D (j + 1)) us (look V s) := stAt_congr (fun j _ => by rw [hD' (j + 1)]; simp [Nat.beq])
    rw [e]
    exact stAt_look (fun j U' h1 h2 => H (j + 1) U' (by simpa using h1) (by omega) h2)
  | V :: us, i + 1, D, D', s, h, hD, hD', H => by
    simp only [stAt]
    have h0 : D' 0 = D 0 := by rw [hD' 0]; simp [Nat.beq]
    rw [h0]
    exact stAt_insert (i := i) (by simpa using h) hD (fun j => by rw [hD' (j + 1)]; simp [Nat.beq]) (fun j U' h1 h2 h3 => H (j + 1) U' (by simpa using h1) (by omega) h3)

theorem run_get : ∀ {os : List Oper} {us : List Upd} {ts : List Trace} {s s' : St}, Run Γ T all s os us ts s' → ∀ (i : Nat) (o : Oper), os[i]? = some o →
    ∃ U t, us[i]? = some U ∧ ts[i]? = some t ∧ OpDone Γ T all o (stAt (fun j => decide (j < i)) us s) U t
  | [], _, _, _, _, _, i, o, h => by simp at h
  | o' :: os, [], _, _, _, h, _, _, _ => h.elim
  | o' :: os, _ :: _, [], _, _, h, _, _, _ => h.elim
  | o' :: os, U :: us, t :: ts, s, s', h, 0, o, hi => by
    simp at hi
    subst hi
    exact ⟨U, t, rfl, rfl, by rw [stAt_none (fun j => by simp)]; exact h.1⟩
  | o' :: os, U :: us, t :: ts, s, s', h, i + 1, o, hi => by
    obtain ⟨U', t', h1, h2, h3⟩ := run_get h.2 i o (by simpa using hi)
    refine ⟨U', t', by simpa using h1, by simpa using h2, ?_⟩
    simp only [stAt]
    have e : (fun j => decide (j + 1 < i + 1)) = fun j => decide (j < i) := by funext j; simp
    rw [e]
    simpa using h3

theorem run_len : ∀ {os : List Oper} {us : List Upd} {ts : List Trace} {s s' : St}, Run Γ T all s os us ts s' → us.length = os.length ∧ ts.length = os.length ∧ s' = stAt (fun _ => true) us s
  | [], [], [], _, _, h => ⟨rfl, rfl, h⟩
  | [], _ :: _, _, _, _, h => h.elim
  | [], [], _ :: _, _, _, h => h.elim
  | _ :: _, [], _, _, _, h => h.elim
  | _ :: _, _ :: _, [], _, _, h => h.elim
  | o :: os, U :: us, t :: ts, s, s', h => by
    obtain ⟨h1, h2, h3⟩ := run_len h.2
    exact ⟨by simp [h1], by simp [h2], by simpa [stAt] using h3⟩

/-! ### What is surely done before -/
theorem fold_bits {f : Nat → Nat} {i : Nat} : ∀ (l : List Edge) (s : Nat), (l.foldl (fun s e => bif Region.binds .any e then s ||| 2 ^ e.on ||| f e.on else s) s).testBit i = true →
    s.testBit i = true ∨ ∃ e ∈ l, Region.binds .any e = true ∧ (i = e.on ∨ (f e.on).testBit i = true)
  | [], s, h => .inl h
  | e :: l, s, h => by
    simp only [List.foldl_cons] at h
    rcases fold_bits l _ h with h | ⟨e', h1, h2⟩
    · cases hb : Region.binds .any e with
      | false => rw [hb] at h; exact .inl h
      | true =>
        rw [hb] at h
        simp only [cond_true, Nat.testBit_or, Bool.or_eq_true] at h
        rcases h with (h | h) | h
        · exact .inl h
        · refine .inr ⟨e, List.mem_cons_self .., hb, .inl ?_⟩
          rw [Nat.testBit_two_pow] at h
          exact (of_decide_eq_true h).symm
        · exact .inr ⟨e, List.mem_cons_self .., hb, .inr h⟩
    · exact .inr ⟨e', List.mem_cons_of_mem _ h1, h2⟩

theorem befs_get : ∀ (os : List Oper) (acc : List Nat), (∀ j, j < acc.length → (befs os acc).getD j 0 = acc.getD j 0) ∧
    ∀ (k : Nat) (o : Oper), os[k]? = some o → ∃ acc' : List Nat, acc'.length = acc.length + k ∧ (∀ j, j < acc'.length → acc'.getD j 0 = (befs os acc).getD j 0) ∧
      (befs os acc).getD (acc.length + k) 0 = o.after.toList.foldl (fun s e => bif Region.binds .any e then s ||| 2 ^ e.on ||| acc'.getD e.on 0 else s) 0
  | [], acc => ⟨fun _ _ => rfl, fun k o h => by simp at h⟩
  | o :: os, acc => by
    obtain ⟨h1, h2⟩ := befs_get os (acc ++ [o.after.toList.foldl (fun s e => bif Region.binds .any e then s ||| 2 ^ e.on ||| acc.getD e.on 0 else s) 0])
    have hpre : ∀ j, j < acc.length → (befs (o :: os) acc).getD j 0 = acc.getD j 0 := by
      intro j hj
      simp only [befs]
      rw [h1 j (by simp; omega)]
      simp [List.getD_eq_getElem?_getD, List.getElem?_append_left hj]
    refine ⟨hpre, fun k o' h => ?_⟩
    cases k with
    | zero =>
      simp at h
      subst h
      refine ⟨acc, rfl, fun j hj => (hpre j hj).symm, ?_⟩
      simp only [befs]
      rw [Nat.add_zero, h1 acc.length (by simp)]
      simp [List.getD_eq_getElem?_getD]
    | succ k =>
      obtain ⟨acc', h3, h4, h5⟩ := h2 k o' (by simpa using h)
      refine ⟨acc', by simp at h3; omega, fun j hj => h4 j hj, ?_⟩
      simp only [befs]
      have e : acc.length + (k + 1) = (acc ++ [o.after.toList.foldl (fun s e => bif Region.binds .any e then s ||| 2 ^ e.on ||| acc.getD e.on 0 else s) 0]).length + k := by simp; omega
      rw [e]
      exact h5

/-- What is surely done before an operation all of whose edges are done is done. -/
theorem before_done {ops : Array Oper} {D : Nat → Prop} (hcl : ∀ (j : Nat) (o : Oper), ops[j]? = some o → D j → ∀ e ∈ o.after.toList, Region.binds .any e = true → D e.on) :
    ∀ (n j : Nat), j < n → ∀ (o : Oper), ops[j]? = some o → (∀ e ∈ o.after.toList, Region.binds .any e = true → D e.on) → ∀ i, ((befs ops.toList []).getD j 0).testBit i = true → D i
  | 0, _, h, _, _, _, _, _ => by omega
  | n + 1, j, hj, o, ho, he, i, hi => by
    obtain ⟨acc', h1, h2, h3⟩ := (befs_get ops.toList []).2 j o (by simpa using ho)
    simp only [List.length_nil, Nat.zero_add] at h1 h3
    rw [h3] at hi
    rcases fold_bits (f := fun k => acc'.getD k 0) _ _ hi with h | ⟨e, h4, h5, h6⟩
    · simp at h
    · rcases h6 with rfl | h6
      · exact he e h4 h5
      · have hlt : e.on < acc'.length := by
          apply Classical.byContradiction
          intro hn
          have : acc'.getD e.on 0 = 0 := by
            rw [List.getD_eq_getElem?_getD, List.getElem?_eq_none (by omega)]
            rfl
          rw [this] at h6
          simp at h6
        rw [h2 _ hlt] at h6
        have hD := he e h4 h5
        have hlt2 : e.on < ops.size := by
          have := (Array.getElem?_eq_some_iff.1 ho).1
          omega
        exact before_done hcl n e.on (by omega) ops[e.on] (Array.getElem?_eq_getElem hlt2) (hcl e.on _ (Array.getElem?_eq_getElem hlt2) hD) i h6

theorem meets_false {a b : List Nat} (h : meets a b = false) {q : Nat} (ha : q ∈ a) : q ∉ b := by
  intro hb
  unfold meets at h
  rw [List.any_eq_false] at h
  have := h q ha
  simp only [List.any_eq_true, not_exists, not_and] at this
  exact this q hb (by simp)

theorem unmet_apart {before : List Nat} {ts : List Trace} (h : unmet before ts = true) {i j : Nat} (hij : i < j) {x y : Trace} (hx : ts[i]? = some x) (hy : ts[j]? = some y) : (before.getD j 0).testBit i = true ∨ x.apart y = true := by
  unfold unmet at h
  rw [List.all_eq_true] at h
  have hj := (List.getElem?_eq_some_iff.1 hy).1
  have h1 := h j (by simpa using hj)
  rw [List.all_eq_true] at h1
  have h2 := h1 i (by simpa using hij)
  simp only [hx, hy, Bool.or_eq_true] at h2
  exact h2

/-! ### The walk over all orders -/
theorem countP_one {p p' : Nat → Bool} {i : Nat} (hp : p i = true) (hp' : p' i = false) (h : ∀ j, j ≠ i → p' j = p j) : ∀ (l : List Nat), l.Nodup → i ∈ l → l.countP p' + 1 = l.countP p
  | [], _, hi => by simp at hi
  | x :: l, hn, hi => by
    rw [List.nodup_cons] at hn
    by_cases hx : x = i
    · subst hx
      have e : l.countP p' = l.countP p := by
        apply List.countP_congr
        intro y hy
        rw [h y (fun e => hn.1 (e ▸ hy))]
      simp [hp, hp', e]
    · have ih := countP_one hp hp' h l hn.2 ((List.mem_cons.1 hi).resolve_left (fun e => hx e.symm))
      simp only [List.countP_cons, h x hx]
      omega

theorem any_ok (hV : EnvOk V) (hT : TOk P T) (hΓ : ∀ c ∈ Γ, Sound P c) (hno : ∀ c ∈ Γ, c.ps.all PK.noOut = true) {ops : Array Oper} (hok : ∀ (i : Nat) (o : Oper), ops[i]? = some o → DstOk V o)
    (hguard : ∀ (i : Nat) (o : Oper), ops[i]? = some o → ∀ j want, o.guard = some (j, want) → ∀ s, (ops[j]?).bind (·.dst) = some s → s < V.nt) {Q : Exit → Act → World → Prop}
    {us : List Upd} {ts : List Trace} {s0 s1 : St} (hrun : Run Γ T ops s0 ops.toList us ts s1) (htext : textual ops = true) (hun : unmet (befs ops.toList []) ts = true) (hQ : ∀ a w, Rel P V s1 a w → Q .normal a w) :
    ∀ (fuel : Nat) (listed : Array Bool) (a : Act) (w : World), listed.size = ops.size → (List.range ops.size).countP (fun i => !listed.getD i true) = fuel →
      (∀ (j : Nat) (o : Oper), ops[j]? = some o → listed.getD j false = true → ∀ e ∈ o.after.toList, Region.binds .any e = true → listed.getD e.on false = true) →
      Rel P V (stAt (fun j => listed.getD j false) us s0) a w → wpAny P .any ops Q fuel listed a w := by
  obtain ⟨hul, htl, hend⟩ := run_len hrun
  have hsz : ops.toList.length = ops.size := Array.length_toList
  have hready : ∀ (listed : Array Bool), listed.size = ops.size → Region.ready .any ops listed = [] → ∀ i, i < ops.size → listed.getD i false = true := by
    intro listed hls hr i
    induction i using Nat.strongRecOn with
    | ind i ih =>
      intro hi
      cases hl : listed.getD i false with
      | true => rfl
      | false =>
        exfalso
        have hl2 : listed.getD i true = false := by
          rw [Array.getD_eq_getD_getElem?, Array.getElem?_eq_getElem (by omega)] at hl ⊢
          exact hl
        have ho : ops[i]? = some ops[i] := Array.getElem?_eq_getElem hi
        have hmem : i ∈ Region.ready .any ops listed := by
          unfold Region.ready
          rw [List.mem_filter]
          refine ⟨by simpa using hi, ?_⟩
          rw [hl2, ho]
          simp only [Bool.not_false, Bool.true_and, Option.map_some, Option.getD_some]
          rw [Array.all_eq_true_iff_forall_mem]
          intro e he
          cases hbd : Region.binds .any e with
          | false => rfl
          | true =>
            simp only [Bool.not_true, Bool.false_or]
            have hlt : e.on < i := by
              unfold textual at htext
              rw [List.all_eq_true] at htext
              have := htext i (by simpa using hi)
              simp only [ho] at this
              rw [List.all_eq_true] at this
              have := this e (by simpa using he)
              simpa [hbd] using this
            exact ih e.on hlt (by omega)
        rw [hr] at hmem
        simp at hmem
  have hfin : ∀ (listed : Array Bool) (a : Act) (w : World), listed.size = ops.size → Rel P V (stAt (fun j => listed.getD j false) us s0) a w → Region.ready .any ops listed = [] → Q .normal a w := by
    intro listed a w hls hr hrd
    refine hQ a w ?_
    rw [hend]
    have : stAt (fun _ => true) us s0 = stAt (fun j => listed.getD j false) us s0 := stAt_congr (fun j hj => (hready listed hls hrd j (by omega)).symm)
    rw [this]
    exact hr
  intro fuel
  induction fuel with
  | zero =>
    intro listed a w hls hcount hcl hr
    have hrd : Region.ready .any ops listed = [] := by
      unfold Region.ready
      rw [List.filter_eq_nil_iff]
      intro i hi hc
      rw [List.countP_eq_zero] at hcount
      have := hcount i hi
      simp only [Bool.and_eq_true] at hc
      exact this hc.1
    exact ⟨hrd, hfin listed a w hls hr hrd⟩
  | succ fuel ih =>
    intro listed a w hls hcount hcl hr
    refine ⟨hfin listed a w hls hr, fun i hi => ?_⟩
    unfold Region.ready at hi
    rw [List.mem_filter] at hi
    obtain ⟨hin, hi2⟩ := hi
    have hin : i < ops.size := by simpa using hin
    have ho : ops[i]? = some ops[i] := Array.getElem?_eq_getElem hin
    rw [ho] at hi2
    simp only [Bool.and_eq_true, Bool.not_eq_true', Option.map_some, Option.getD_some] at hi2
    obtain ⟨hunl, hedges⟩ := hi2
    rw [Array.all_eq_true_iff_forall_mem] at hedges
    have hunl2 : listed.getD i false = false := by
      rw [Array.getD_eq_getD_getElem?, Array.getElem?_eq_getElem (by omega)] at hunl ⊢
      exact hunl
    have hed : ∀ e ∈ (ops[i]).after.toList, Region.binds .any e = true → listed.getD e.on false = true := by
      intro e he hb
      have := hedges e (by simpa using he)
      simpa [hb] using this
    obtain ⟨U, t, hU, ht, hdone⟩ := run_get hrun i ops[i] (by simp)
    have hcl' : ∀ (j : Nat) (o : Oper), ops[j]? = some o → (fun k => listed.getD k false = true) j → ∀ e ∈ o.after.toList, Region.binds .any e = true → (fun k => listed.getD k false = true) e.on := hcl
    have hwr := hdone.1
    -- the others that count are as they were
    have hother : ∀ (j : Nat) (U' : Upd), us[j]? = some U' → j ≠ i → ∃ t', ts[j]? = some t' ∧ t'.wr = U'.map (·.1) := by
      intro j U' hj _
      have hjl : j < ops.size := by
        have := (List.getElem?_eq_some_iff.1 hj).1
        omega
      obtain ⟨U2, t2, h1, h2, h3⟩ := run_get hrun j ops[j] (by simp [hjl])
      rw [hj] at h1
      cases h1
      exact ⟨t2, h2, h3.1⟩
    have hap : ∀ (j : Nat) (U' : Upd), us[j]? = some U' → j ≠ i → listed.getD j false ≠ decide (j < i) → ∃ t', t'.wr = U'.map (·.1) ∧ (t'.apart t = true ∨ t.apart t' = true) := by
      intro j U' hj hne hdiff
      obtain ⟨t', h1, h2⟩ := hother j U' hj hne
      refine ⟨t', h2, ?_⟩
      rcases Nat.lt_or_gt_of_ne hne with hlt | hgt
      · have hl : listed.getD j false = false := by
          cases hl : listed.getD j false with
          | false => rfl
          | true => rw [hl] at hdiff; simp [hlt] at hdiff
        rcases unmet_apart hun hlt h1 ht with h3 | h3
        · have := before_done hcl' (i + 1) i (Nat.lt_succ_self _) ops[i] ho hed j h3
          rw [hl] at this
          cases this
        · exact .inl h3
      · have hl : listed.getD j false = true := by
          cases hl : listed.getD j false with
          | true => rfl
          | false => rw [hl] at hdiff; simp at hdiff; omega
        have hjl : j < ops.size := by
          have := (List.getElem?_eq_some_iff.1 hj).1
          omega
        have hoj : ops[j]? = some ops[j] := Array.getElem?_eq_getElem hjl
        rcases unmet_apart hun hgt ht h1 with h3 | h3
        · have := before_done hcl' (j + 1) j (Nat.lt_succ_self _) ops[j] hoj (hcl j _ hoj hl) i h3
          rw [hunl2] at this
          cases this
        · exact .inr h3
    have hdis : ∀ (x y : Trace), x.apart y = true → (∀ q ∈ x.wr, q ∉ y.wr ∧ q ∉ y.rd) ∧ (∀ q ∈ y.wr, q ∉ x.wr ∧ q ∉ x.rd) := by
      intro x y h
      unfold Trace.apart at h
      simp only [Bool.and_eq_true, Bool.not_eq_true'] at h
      obtain ⟨⟨h1, h2⟩, h3⟩ := h
      exact ⟨fun q hq => ⟨meets_false h1 hq, meets_false h2 hq⟩, fun q hq => ⟨fun hx => meets_false h1 hx hq, fun hx => meets_false h3 hx hq⟩⟩
    have hnot : ∀ (j : Nat) (U' : Upd), us[j]? = some U' → j ≠ i → listed.getD j false ≠ decide (j < i) → ∀ q ∈ U'.map (·.1), q ∉ t.wr ∧ q ∉ t.rd := by
      intro j U' hj hne hdiff q hq
      obtain ⟨t', h1, h2⟩ := hap j U' hj hne hdiff
      rw [← h1] at hq
      rcases h2 with h2 | h2
      · exact (hdis _ _ h2).1 q hq
      · exact (hdis _ _ h2).2 q hq
    have hres : OpRes Γ T ops ops[i] (stAt (fun j => listed.getD j false) us s0) U := by
      refine hdone.frame fun q hq => ?_
      refine stAt_agree rfl fun j U' hj hqj => ?_
      by_cases hji : j = i
      · subst hji
        rw [hunl2]
        simp
      · apply Classical.byContradiction
        intro hdiff
        have := hnot j U' hj hji hdiff q hqj
        rcases hq with hq | hq
        · exact this.2 hq
        · exact this.1 hq
    refine op_ok hV hT hΓ hno ho (hok i _ ho) (hguard i _ ho) hres hr fun a' w' hr' => ?_
    have hset : ∀ (b : Bool) (j : Nat), (listed.setIfInBounds i true).getD j b = if j = i then true else listed.getD j b := by
      intro b j
      simp only [Array.getD_eq_getD_getElem?, Array.getElem?_setIfInBounds]
      by_cases hji : j = i
      · subst hji
        simp [hls, hin]
      · rw [if_neg (fun e => hji e.symm), if_neg hji]
    refine ih _ a' w' (by simpa using hls) ?_ ?_ ?_
    · have := countP_one (p := fun j => !listed.getD j true) (p' := fun j => !(listed.setIfInBounds i true).getD j true) (i := i) (by simp [hunl]) (by simp [hset]) (fun j hj => by simp [hset, hj]) (List.range ops.size) List.nodup_range (by simpa using hin)
      omega
    · intro j o' hj hlj e he hb
      rw [hset] at hlj ⊢
      by_cases hei : e.on = i
      · rw [if_pos hei]
      · rw [if_neg hei]
        by_cases hji : j = i
        · subst hji
          rw [ho] at hj
          cases hj
          exact hed e he hb
        · rw [if_neg hji] at hlj
          exact hcl j o' hj hlj e he hb
    · have hins := stAt_insert (U := U) (us := us) (i := i) (D := fun j => listed.getD j false) (D' := fun j => (listed.setIfInBounds i true).getD j false) (s := s0) hU hunl2 (fun j => by
          simp only [hset]
          by_cases hji : j = i
          · subst hji; simp
          · have : Nat.beq j i = false := by
              cases hb : Nat.beq j i with
              | false => rfl
              | true => exact absurd (Nat.eq_of_beq_eq_true hb) hji
            simp [hji, this])
        (fun j U' hj hij hD q hq hq' => by
          have := hnot j U' hj (by omega) (by rw [hD]; simp; omega) q hq'
          exact this.1 (by rw [hwr]; exact hq))
      rw [hins]
      exact hr'

/-- A region. -/
theorem reg_ok (hV : EnvOk V) (hT : TOk P T) (hΓ : ∀ c ∈ Γ, Sound P c) (hno : ∀ c ∈ Γ, c.ps.all PK.noOut = true) (hmix : P.follows .mixedOrders = true) {id : Nat} {ops : Array Oper} {draw : Bool} (hok : ∀ (i : Nat) (o : Oper), ops[i]? = some o → DstOk V o)
    (hguard : ∀ (i : Nat) (o : Oper), ops[i]? = some o → ∀ j want, o.guard = some (j, want) → ∀ s, (ops[j]?).bind (·.dst) = some s → s < V.nt) {Q : Exit → Act → World → Prop} {κ : St → Option R} {r : R}
    (h : regK Γ T ops draw st κ = some r) (hκ : ∀ s1, κ s1 = some r → ∀ a w, Rel P V s1 a w → Q .normal a w) {a : Act} {w : World} (hr : Rel P V st a w) : (Code.region id ops draw).wp P Q a w := by
  unfold regK at h
  cases draw with
  | true =>
    simp only [cond_true] at h
    obtain ⟨us, ts, s1, hrun, h2⟩ := opsK_run _ _ _ _ _ h
    simp only [List.nil_append] at h2
    cases hb : textual ops && unmet (befs ops.toList []) ts with
    | false => simp [hb] at h2
    | true =>
      simp only [hb, cond_true] at h2
      simp only [Bool.and_eq_true] at hb
      refine wp_region_any hmix ?_
      have hD : ∀ j, (Array.replicate ops.size false).getD j false = false := by
        intro j
        simp only [Array.getD_eq_getD_getElem?, Array.getElem?_replicate]
        split <;> rfl
      refine any_ok hV hT hΓ hno hok hguard hrun hb.1 hb.2 (hκ s1 h2) ops.size (Array.replicate ops.size false) a _ (by simp) ?_ ?_ ?_
      · rw [List.countP_eq_length.2]
        · simp
        · intro i hi
          have hi : i < ops.size := by simpa using hi
          simp [Array.getD_eq_getD_getElem?, Array.getElem?_replicate, hi]
      · intro j o' _ hl
        rw [hD] at hl
        cases hl
      · rw [stAt_none (fun j => hD j)]
        obtain ⟨W, hr⟩ := hr
        exact ⟨W, hr.world hV (w' := { w with drawn := w.drawn + 1 }) (Nat.le_refl _) rfl rfl rfl (fun _ _ => rfl)⟩
  | false =>
    simp only [cond_false] at h
    obtain ⟨us, ts, s1, hrun, h2⟩ := opsK_run _ _ _ _ _ h
    refine wp_region ?_
    have := text_ok hV hT hΓ hno hok hguard ops.toList 0 st us ts s1 (by simp) hrun (hκ s1 h2) a w hr
    rw [Array.length_toList, ← List.range_eq_range'] at this
    exact this

end
end Go.Proofs.YthgnfidnmnkeaaaGreatEv
