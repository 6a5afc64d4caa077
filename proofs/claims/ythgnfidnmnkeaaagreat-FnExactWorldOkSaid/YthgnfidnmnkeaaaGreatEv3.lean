/- The relation: resources that are relabelled, slots and boxes that are written, worlds that grow. -/
import Derived.Test.YthgnfidnmnkeaaaGreatEv2
namespace Go.Proofs.YthgnfidnmnkeaaaGreatEv
open Go Go.RowKit

section
variable {P : Program} {V : Env} {W W' : Wit} {st st' : St} {w w' : World} {a : Act}

theorem look_append (A B : Upd) (st : St) : look (A ++ B) st = look A (look B st) := by
  funext q
  induction A with
  | nil => rfl
  | cons x A ih => obtain ⟨r, c⟩ := x; simp only [List.cons_append, look, ih]

theorem look_cons (r : Nat) (c : Cont) (U : Upd) (st : St) : look ((r, c) :: U) st = look [(r, c)] (look U st) := look_append [(r, c)] U st

theorem look_same (r : Nat) (c : Cont) (st : St) : look [(r, c)] st r = c := by simp [look]

theorem look_other {r q : Nat} (h : q ≠ r) (c : Cont) (st : St) : look [(r, c)] st q = st q := by
  have : Nat.beq q r = false := by
    cases hb : Nat.beq q r with
    | false => rfl
    | true => exact absurd (Nat.eq_of_beq_eq_true hb) h
  simp [look, this]

theorem look_cases (r q : Nat) (c : Cont) (st : St) : (q = r ∧ look [(r, c)] st q = c) ∨ (q ≠ r ∧ look [(r, c)] st q = st q) := by
  by_cases h : q = r
  · subst h; exact .inl ⟨rfl, look_same q c st⟩
  · exact .inr ⟨h, look_other h c st⟩

/-- The blocks that a state leans on. -/
def used (V : Env) (W : Wit) (st : St) (k : Nat) : Prop :=
  W.nw k ∨ V.prot k ∨ (∃ b, live st b ∧ W.β b = k) ∨ ∃ r j l, (st r).ls[j]? = some l ∧ isOwn l ∧ k ∈ W.bs r j

theorem RelAt.own_lt (h : RelAt P V W st a w) {r j : Nat} {l : Leaf} (hl : (st r).ls[j]? = some l) (ho : isOwn l) : ∀ k ∈ W.bs r j, k < w.heap.size := by
  have hj : j < (W.cs r).length := by rw [← h.len]; exact (List.getElem?_eq_some_iff.1 hl).1
  have := h.leaf r j l _ hl (List.getElem?_eq_getElem hj)
  cases l <;> simp only [isOwn] at ho
  exact Ow.lt this

theorem RelAt.box_lt (h : RelAt P V W st a w) {b : Nat} (hb : live st b) : W.β b < w.heap.size := by
  rcases h.boxes b hb.1 with ⟨h1, _⟩ | ⟨_, E, h2⟩
  · exact absurd (h1.symm.trans hb.2) (by simp)
  · exact (Array.getElem?_eq_some_iff.1 h2).1

theorem RelAt.used_lt (h : RelAt P V W st a w) : ∀ k, used V W st k → k < w.heap.size := by
  intro k hk
  rcases hk with hk | hk | ⟨b, hb, rfl⟩ | ⟨r, j, l, h1, h2, h3⟩
  · exact (h.nwlt k hk).1
  · exact Nat.lt_of_lt_of_le hk.1 h.size
  · exact h.box_lt hb
  · exact h.own_lt h1 h2 k h3

/-- Another world, the same where it counts. -/
theorem RelAt.world (hV : EnvOk V) (h : RelAt P V W st a w) (hs : w.heap.size ≤ w'.heap.size) (hos : w'.os = w.os) (ht : w'.tape = w.tape) (ho : w'.output = w.output)
    (hk : ∀ k, used V W st k → w'.heap[k]? = w.heap[k]?) : RelAt P V W st a w' := by
  have hstep : Step V W W st st w w' := ⟨fun r => ⟨Nat.le_refl _, fun _ => rfl⟩, fun b hb => ⟨hb, rfl⟩, fun _ h => h, fun k h => hk k (h.elim .inl (fun h => .inr (.inl h)))⟩
  exact {
    nt := h.nt, df := h.df, slots := h.slots,
    boxes := fun b hb => (h.boxes b hb).imp id fun ⟨h1, E, h2⟩ => ⟨h1, E, by rw [hk _ (.inr (.inr (.inl ⟨b, ⟨hb, h1⟩, rfl⟩)))]; exact h2⟩
    len := h.len, one := h.one,
    leaf := fun r j l v h1 h2 => (h.leaf r j l v h1 h2).carry hV.ro hstep (fun ho => ⟨rfl, fun k hkk => hk k (.inr (.inr (.inr ⟨r, j, l, h1, ho, hkk⟩)))⟩)
    ownb := h.ownb, sep := h.sep, box := h.box, inj := h.inj,
    nwlt := fun k hk => ⟨Nat.lt_of_lt_of_le (h.nwlt k hk).1 hs, (h.nwlt k hk).2⟩
    os := hos.trans h.os, tape := ht.trans h.tape, output := ho.trans h.output, size := Nat.le_trans h.size hs,
    keep := fun k hp => (hk k (.inr (.inl hp))).trans (h.keep k hp)
    fixb := h.fixb, fixt := h.fixt }

theorem RelAt.below (hV : EnvOk V) (h : RelAt P V W st a w) (hb : Below w.heap.size w w') : RelAt P V W st a w' :=
  h.world hV hb.size hb.os hb.tape hb.output fun k hk => hb.block k (h.used_lt k hk)

/-- One resource's leaves are told anew; its cells stay. -/
theorem RelAt.relabel (hV : EnvOk V) (h : RelAt P V W st a w) (r : Nat) (c : Cont) (nw' : Nat → Prop) (hver : (st r).ver ≤ c.ver) (hsh : c.sh = (st r).sh)
    (hlen : c.ls.length = (st r).ls.length) (hnw : ∀ k, W.nw k → nw' k) (hnwlt : ∀ k, nw' k → k < w.heap.size ∧ ¬ V.prot k)
    (hleaf : ∀ (j : Nat) (l : Leaf) (v : Value), c.ls[j]? = some l → (W.cs r)[j]? = some v → LeafOk P V { W with nw := nw' } (look [(r, c)] st) w (W.bs r j) l v)
    (hown : ∀ (j : Nat) (l : Leaf), c.ls[j]? = some l → isOwn l → (st r).ls[j]? = some l)
    (hnwown : ∀ (q j : Nat) (l : Leaf), (look [(r, c)] st q).ls[j]? = some l → isOwn l → ∀ k ∈ W.bs q j, ¬ nw' k)
    (hnwbox : ∀ b, live st b → ¬ nw' (W.β b)) : RelAt P V { W with nw := nw' } (look [(r, c)] st) a w := by
  have hl : ∀ b, live (look [(r, c)] st) b ↔ live st b := by
    intro b
    rcases look_cases r b c st with ⟨rfl, e⟩ | ⟨_, e⟩
    · simp [live, e, hsh]
    · simp [live, e]
  have hstep : Step V W { W with nw := nw' } st (look [(r, c)] st) w w :=
    ⟨fun q => by
      rcases look_cases r q c st with ⟨rfl, e⟩ | ⟨_, e⟩
      · rw [e]; exact ⟨hver, fun _ => rfl⟩
      · rw [e]; exact ⟨Nat.le_refl _, fun _ => rfl⟩,
     fun b hb => ⟨(hl b).2 hb, rfl⟩, hnw, fun _ _ => rfl⟩
  have hback : ∀ (q j : Nat) (l : Leaf), (look [(r, c)] st q).ls[j]? = some l → isOwn l → (st q).ls[j]? = some l := by
    intro q j l h1 h2
    rcases look_cases r q c st with ⟨rfl, e⟩ | ⟨_, e⟩
    · rw [e] at h1; exact hown j l h1 h2
    · rwa [e] at h1
  exact {
    nt := h.nt, df := h.df,
    slots := fun t ht => by
      rcases look_cases r t c st with ⟨rfl, e⟩ | ⟨_, e⟩
      · rw [e, hsh]; exact h.slots t ht
      · rw [e]; exact h.slots t ht
    boxes := fun b hb => by
      rcases look_cases r b c st with ⟨rfl, e⟩ | ⟨_, e⟩
      · rw [e, hsh]
        rcases h.boxes b hb with ⟨h1, h2⟩ | h1
        · refine .inl ⟨h1, ?_⟩
          rw [h2] at hlen
          exact List.eq_nil_of_length_eq_zero hlen
        · exact .inr h1
      · rw [e]; exact h.boxes b hb
    len := fun q => by
      rcases look_cases r q c st with ⟨rfl, e⟩ | ⟨_, e⟩
      · rw [e, hlen]; exact h.len q
      · rw [e]; exact h.len q
    one := h.one
    leaf := fun q j l v h1 h2 => by
      rcases look_cases r q c st with ⟨rfl, e⟩ | ⟨_, e⟩
      · rw [e] at h1; exact hleaf j l v h1 h2
      · rw [e] at h1
        exact (h.leaf q j l v h1 h2).carry hV.ro hstep (fun _ => ⟨rfl, fun _ _ => rfl⟩)
    ownb := fun q j l h1 h2 k hk => ⟨hnwown q j l h1 h2 k hk, (h.ownb q j l (hback q j l h1 h2) h2 k hk).2.1, fun b hb => (h.ownb q j l (hback q j l h1 h2) h2 k hk).2.2 b ((hl b).1 hb)⟩
    sep := fun q j l q' j' l' h1 h2 h3 h4 => h.sep q j l q' j' l' (hback q j l h1 h2) h2 (hback q' j' l' h3 h4) h4
    box := fun b hb => ⟨hnwbox b ((hl b).1 hb), (h.box b ((hl b).1 hb)).2⟩
    inj := fun b b' hb hb' => h.inj b b' ((hl b).1 hb) ((hl b').1 hb')
    nwlt := hnwlt
    os := h.os, tape := h.tape, output := h.output, size := h.size, keep := h.keep,
    fixb := fun x hx => ⟨(hl _).2 (h.fixb x hx).1, (h.fixb x hx).2⟩, fixt := h.fixt }

theorem getElem?_set' {α : Type} (ls : List α) (j i : Nat) (x y : α) (h : (ls.set j x)[i]? = some y) : (i = j ∧ y = x ∧ j < ls.length) ∨ (i ≠ j ∧ ls[i]? = some y) := by
  rw [List.getElem?_set] at h
  split at h
  · rename_i hij
    split at h
    · rename_i hj
      exact .inl ⟨hij.symm, by simpa using h.symm, hj⟩
    · cases h
  · rename_i hij
    exact .inr ⟨fun e => hij e.symm, h⟩

/-- Something is dropped. -/
theorem RelAt.kill1 (hV : EnvOk V) (h : RelAt P V W st a w) (r j : Nat) : RelAt P V W (look [(r, killC (st r) j)] st) a w := by
  refine h.relabel hV r _ W.nw (Nat.le_succ _) rfl (by simp [killC, setL]) (fun _ h => h) h.nwlt ?_ ?_ ?_ fun b hb => (h.box b hb).1
  · intro i l v h1 h2
    rcases getElem?_set' _ _ _ _ _ h1 with ⟨_, rfl, _⟩ | ⟨hne, h1⟩
    · trivial
    · refine (h.leaf r i l v h1 h2).carry hV.ro ⟨fun q => ?_, fun b hb => ?_, fun _ h => h, fun _ _ => rfl⟩ (fun _ => ⟨rfl, fun _ _ => rfl⟩)
      · rcases look_cases r q (killC (st r) j) st with ⟨rfl, e⟩ | ⟨_, e⟩
        · rw [e]; exact ⟨Nat.le_succ _, fun _ => rfl⟩
        · rw [e]; exact ⟨Nat.le_refl _, fun _ => rfl⟩
      · refine ⟨⟨hb.1, ?_⟩, rfl⟩
        rcases look_cases r b (killC (st r) j) st with ⟨rfl, e⟩ | ⟨_, e⟩
        · rw [e]; exact hb.2
        · rw [e]; exact hb.2
  · intro i l h1 h2
    rcases getElem?_set' _ _ _ _ _ h1 with ⟨_, rfl, _⟩ | ⟨hne, h1⟩
    · exact h2.elim
    · exact h1
  · intro q i l h1 h2
    have : (st q).ls[i]? = some l := by
      rcases look_cases r q (killC (st r) j) st with ⟨rfl, e⟩ | ⟨_, e⟩
      · rw [e] at h1
        rcases getElem?_set' _ _ _ _ _ h1 with ⟨_, rfl, _⟩ | ⟨hne, h1⟩
        · exact h2.elim
        · exact h1
      · rwa [e] at h1
    exact fun k hk => (h.ownb q i l this h2 k hk).1

/-- Something is frozen. -/
theorem RelAt.frz1 (hV : EnvOk V) (h : RelAt P V W st a w) (r j : Nat) :
    RelAt P V { W with nw := fun k => W.nw k ∨ ((∃ l, (st r).ls[j]? = some l ∧ isOwn l) ∧ k ∈ W.bs r j) } (look [(r, frzC (st r) j)] st) a w := by
  have hget : ∀ l, (st r).ls[j]? = some l → (st r).ls.getD j .dead = l := fun l hl => by rw [List.getD_eq_getElem?_getD, hl]; rfl
  have hstep : Step V W { W with nw := fun k => W.nw k ∨ ((∃ l, (st r).ls[j]? = some l ∧ isOwn l) ∧ k ∈ W.bs r j) } st (look [(r, frzC (st r) j)] st) w w := by
    refine ⟨fun q => ?_, fun b hb => ?_, fun _ h => .inl h, fun _ _ => rfl⟩
    · rcases look_cases r q (frzC (st r) j) st with ⟨rfl, e⟩ | ⟨_, e⟩
      · rw [e]; exact ⟨Nat.le_succ _, fun _ => rfl⟩
      · rw [e]; exact ⟨Nat.le_refl _, fun _ => rfl⟩
    · refine ⟨⟨hb.1, ?_⟩, rfl⟩
      rcases look_cases r b (frzC (st r) j) st with ⟨rfl, e⟩ | ⟨_, e⟩
      · rw [e]; exact hb.2
      · rw [e]; exact hb.2
  have hnoown : ∀ (i : Nat) (l : Leaf), (setL (st r).ls j (frzLeaf ((st r).ls.getD j .dead)))[i]? = some l → isOwn l → (st r).ls[i]? = some l ∧ i ≠ j := by
    intro i l h1 h2
    rcases getElem?_set' _ _ _ _ _ h1 with ⟨rfl, rfl, hj⟩ | ⟨hne, h1⟩
    · rw [hget _ (List.getElem?_eq_getElem hj)] at h2
      generalize (st r).ls[i] = l at h2
      cases l <;> exact h2.elim
    · exact ⟨h1, hne⟩
  refine h.relabel hV r _ _ (Nat.le_succ _) rfl (by simp [frzC, setL]) (fun _ h => .inl h) ?_ ?_ (fun i l h1 h2 => (hnoown i l h1 h2).1) ?_ ?_
  · rintro k (hk | ⟨⟨l, h1, h2⟩, hk⟩)
    · exact h.nwlt k hk
    · exact ⟨h.own_lt h1 h2 k hk, (h.ownb r j l h1 h2 k hk).2.1⟩
  · intro i l v h1 h2
    rcases getElem?_set' _ _ _ _ _ h1 with ⟨rfl, rfl, hj⟩ | ⟨hne, h1⟩
    · have h3 : (st r).ls[i]? = some (st r).ls[i] := List.getElem?_eq_getElem hj
      have h4 := h.leaf r i _ v h3 h2
      rw [hget _ h3]
      generalize hq : (st r).ls[i] = q at h3 h4
      cases q with
      | own p E e xs =>
        refine Rd.mono (fun k hk => ?_) (Ow.rd (E' := E) h4)
        rcases hk with hk | hk
        · exact gd_mono (W' := { W with nw := _ }) (fun h => h) (fun _ h => .inl h) k hk
        · exact .inl (.inr ⟨⟨_, h3, trivial⟩, hk⟩)
      | _ => exact h4.carry hV.ro hstep (fun ho => ho.elim)
    · exact (h.leaf r i l v h1 h2).carry hV.ro hstep (fun _ => ⟨rfl, fun _ _ => rfl⟩)
  · intro q i l h1 h2 k hk
    have h3 : (st q).ls[i]? = some l ∧ (q, i) ≠ (r, j) := by
      rcases look_cases r q (frzC (st r) j) st with ⟨rfl, e⟩ | ⟨hne, e⟩
      · rw [e] at h1
        have := hnoown i l h1 h2
        exact ⟨this.1, fun e => this.2 (by simpa using congrArg Prod.snd e)⟩
      · rw [e] at h1
        exact ⟨h1, fun e => hne (by simpa using congrArg Prod.fst e)⟩
    rintro (hn | ⟨⟨l', h4, h5⟩, hn⟩)
    · exact (h.ownb q i l h3.1 h2 k hk).1 hn
    · obtain ⟨rfl, rfl⟩ := h.sep q i l r j l' h3.1 h2 h4 h5 k hk hn
      exact h3.2 rfl
  · rintro b hb (hn | ⟨⟨l', h4, h5⟩, hn⟩)
    · exact (h.box b hb).1 hn
    · exact (h.ownb r j l' h4 h5 _ hn).2.2 b hb rfl

/-- What killing leaves owned was owned, and is not among the killed. -/
theorem killU_ok (hV : EnvOk V) : ∀ (ks : List (Nat × Nat)), RelAt P V W st a w → RelAt P V W (look (killU st ks) st) a w ∧
    (∀ (q i : Nat) (l : Leaf), (look (killU st ks) st q).ls[i]? = some l → isOwn l → (st q).ls[i]? = some l ∧ (q, i) ∉ ks) ∧
    (∀ q, (look (killU st ks) st q).sh = (st q).sh ∧ (st q).ver ≤ (look (killU st ks) st q).ver)
  | [], h => ⟨h, fun _ _ _ h1 _ => ⟨h1, by simp⟩, fun _ => ⟨rfl, Nat.le_refl _⟩⟩
  | (r, j) :: ks, h => by
    obtain ⟨h1, h2, h3⟩ := killU_ok hV ks h
    have e : look (killU st ((r, j) :: ks)) st = look [(r, killC (look (killU st ks) st r) j)] (look (killU st ks) st) := look_cons _ _ _ _
    rw [e]
    refine ⟨h1.kill1 hV r j, fun q i l h4 h5 => ?_, fun q => ?_⟩
    · have h6 : (look (killU st ks) st q).ls[i]? = some l ∧ (q, i) ≠ (r, j) := by
        rcases look_cases r q (killC (look (killU st ks) st r) j) (look (killU st ks) st) with ⟨rfl, e⟩ | ⟨hne, e⟩
        · rw [e] at h4
          rcases getElem?_set' _ _ _ _ _ h4 with ⟨_, rfl, _⟩ | ⟨hne, h4⟩
          · exact h5.elim
          · exact ⟨h4, fun e => hne (by simpa using congrArg Prod.snd e)⟩
        · rw [e] at h4
          exact ⟨h4, fun e => hne (by simpa using congrArg Prod.fst e)⟩
      obtain ⟨h7, h8⟩ := h2 q i l h6.1 h5
      exact ⟨h7, by simp only [List.mem_cons, not_or]; exact ⟨h6.2, h8⟩⟩
    · rcases look_cases r q (killC (look (killU st ks) st r) j) (look (killU st ks) st) with ⟨rfl, e⟩ | ⟨hne, e⟩
      · rw [e]; exact ⟨(h3 q).1, Nat.le_trans (h3 q).2 (Nat.le_succ _)⟩
      · rw [e]; exact h3 q

/-- The witness behind a freezing. -/
def Wit.frz (W : Wit) (st : St) (ks : List (Nat × Nat)) : Wit :=
  { W with nw := fun k => W.nw k ∨ ∃ x ∈ ks, (∃ l, (st x.1).ls[x.2]? = some l ∧ isOwn l) ∧ k ∈ W.bs x.1 x.2 }

theorem RelAt.nw_congr (h : RelAt P V W st a w) {nw' : Nat → Prop} (e : ∀ k, W.nw k ↔ nw' k) : RelAt P V { W with nw := nw' } st a w := by
  have : nw' = W.nw := funext fun k => propext (e k).symm
  subst this
  exact h

theorem frzU_ok (hV : EnvOk V) : ∀ (ks : List (Nat × Nat)), RelAt P V W st a w → RelAt P V (W.frz st ks) (look (frzU st ks) st) a w ∧
    (∀ (q i : Nat) (l : Leaf), (look (frzU st ks) st q).ls[i]? = some l → isOwn l → (st q).ls[i]? = some l ∧ (q, i) ∉ ks) ∧
    (∀ q, (look (frzU st ks) st q).sh = (st q).sh ∧ (st q).ver ≤ (look (frzU st ks) st q).ver)
  | [], h => ⟨h.nw_congr (fun k => by simp), fun _ _ _ h1 _ => ⟨h1, by simp⟩, fun _ => ⟨rfl, Nat.le_refl _⟩⟩
  | (r, j) :: ks, h => by
    obtain ⟨h1, h2, h3⟩ := frzU_ok hV ks h
    have e : look (frzU st ((r, j) :: ks)) st = look [(r, frzC (look (frzU st ks) st r) j)] (look (frzU st ks) st) := look_cons _ _ _ _
    rw [e]
    refine ⟨?_, fun q i l h4 h5 => ?_, fun q => ?_⟩
    · have h7 := h1.frz1 hV r j
      have h8 := h7.nw_congr (nw' := (W.frz st ((r, j) :: ks)).nw) (fun k => ?_)
      · exact h8
      · simp only [Wit.frz]
        constructor
        · rintro ((hk | ⟨x, hx, hk⟩) | ⟨⟨l, hl, ho⟩, hk⟩)
          · exact .inl hk
          · exact .inr ⟨x, List.mem_cons_of_mem _ hx, hk⟩
          · exact .inr ⟨(r, j), List.mem_cons_self .., ⟨l, (h2 r j l hl ho).1, ho⟩, hk⟩
        · rintro (hk | ⟨x, hx, ⟨l, hl, ho⟩, hk⟩)
          · exact .inl (.inl hk)
          · rcases List.mem_cons.1 hx with rfl | hx
            · by_cases hm : (r, j) ∈ ks
              · exact .inl (.inr ⟨(r, j), hm, ⟨l, hl, ho⟩, hk⟩)
              · refine .inr ⟨⟨l, ?_, ho⟩, hk⟩
                exact frzU_keep ks hm hl
            · exact .inl (.inr ⟨x, hx, ⟨l, hl, ho⟩, hk⟩)
    · have h6 : (look (frzU st ks) st q).ls[i]? = some l ∧ (q, i) ≠ (r, j) := by
        rcases look_cases r q (frzC (look (frzU st ks) st r) j) (look (frzU st ks) st) with ⟨rfl, e⟩ | ⟨hne, e⟩
        · rw [e] at h4
          rcases getElem?_set' _ _ _ _ _ h4 with ⟨rfl, rfl, hj⟩ | ⟨hne, h4⟩
          · exfalso
            generalize (look (frzU st ks) st q).ls.getD i .dead = l' at h5
            cases l' <;> exact h5.elim
          · exact ⟨h4, fun e => hne (by simpa using congrArg Prod.snd e)⟩
        · rw [e] at h4
          exact ⟨h4, fun e => hne (by simpa using congrArg Prod.fst e)⟩
      obtain ⟨h7, h8⟩ := h2 q i l h6.1 h5
      exact ⟨h7, by simp only [List.mem_cons, not_or]; exact ⟨h6.2, h8⟩⟩
    · rcases look_cases r q (frzC (look (frzU st ks) st r) j) (look (frzU st ks) st) with ⟨rfl, e⟩ | ⟨hne, e⟩
      · rw [e]; exact ⟨(h3 q).1, Nat.le_trans (h3 q).2 (Nat.le_succ _)⟩
      · rw [e]; exact h3 q
where
  frzU_keep : ∀ (ks : List (Nat × Nat)) {r j : Nat} {l : Leaf}, (r, j) ∉ ks → (st r).ls[j]? = some l → (look (frzU st ks) st r).ls[j]? = some l
    | [], _, _, _, _, hl => hl
    | (q, i) :: ks, r, j, l, hn, hl => by
      have h1 := frzU_keep ks (fun hm => hn (List.mem_cons_of_mem _ hm)) hl
      have e : look (frzU st ((q, i) :: ks)) st = look [(q, frzC (look (frzU st ks) st q) i)] (look (frzU st ks) st) := look_cons _ _ _ _
      rw [e]
      rcases look_cases q r (frzC (look (frzU st ks) st q) i) (look (frzU st ks) st) with ⟨rfl, e⟩ | ⟨hne, e⟩
      · rw [e]
        simp only [frzC, setL]
        rw [List.getElem?_set_ne]
        · exact h1
        · intro e; subst e; exact hn (List.mem_cons_self ..)
      · rw [e]; exact h1

/-- A slot is written. -/
theorem RelAt.put (hV : EnvOk V) (h : RelAt P V W st a w) (d : Nat) (hd : d < V.nt) (hfix : ∀ x ∈ V.fixt, x.1 ≠ d) (n : Nat) (sh : Shape) (ls : List Leaf) (v : Value)
    (csd : List Value) (bsd : Nat → List Nat) (hn : (st d).ver < n) (hs : ShOk sh v csd) (hl : ls.length = csd.length) (h1 : ∀ u ∈ csd, u.oneCell' = true)
    (hleaf : ∀ (j : Nat) (l : Leaf) (u : Value), ls[j]? = some l → csd[j]? = some u → LeafOk P V W st w (bsd j) l u)
    (hown : ∀ (j : Nat) (l : Leaf), ls[j]? = some l → isOwn l → ∀ k ∈ bsd j, ¬ W.nw k ∧ ¬ V.prot k ∧ (∀ b, live st b → W.β b ≠ k) ∧
      ∀ (r1 j1 : Nat) (l1 : Leaf), r1 ≠ d → (st r1).ls[j1]? = some l1 → isOwn l1 → k ∉ W.bs r1 j1)
    (hsep : ∀ (j j' : Nat) (l l' : Leaf), ls[j]? = some l → isOwn l → ls[j']? = some l' → isOwn l' → ∀ k, k ∈ bsd j → k ∈ bsd j' → j = j') :
    RelAt P V { W with cs := fun r => if r = d then csd else W.cs r, bs := fun r j => if r = d then bsd j else W.bs r j } (look [(d, ⟨n, sh, ls⟩)] st) (a.put (some d) v) w := by
  have hdB : d < B0 := Nat.lt_of_lt_of_le hd hV.nt
  have hl' : ∀ b, live (look [(d, ⟨n, sh, ls⟩)] st) b ↔ live st b := by
    intro b
    by_cases hb : B0 ≤ b
    · rw [live, live, look_other (by omega)]
    · simp [live, hb]
  have hstep : Step V W { W with cs := fun r => if r = d then csd else W.cs r, bs := fun r j => if r = d then bsd j else W.bs r j } st (look [(d, ⟨n, sh, ls⟩)] st) w w := by
    refine ⟨fun q => ?_, fun b hb => ⟨(hl' b).2 hb, rfl⟩, fun _ h => h, fun _ _ => rfl⟩
    rcases look_cases d q ⟨n, sh, ls⟩ st with ⟨rfl, e⟩ | ⟨hne, e⟩
    · rw [e]; exact ⟨Nat.le_of_lt hn, fun e => absurd e (by show n ≠ _; omega)⟩
    · rw [e]; exact ⟨Nat.le_refl _, fun _ => by simp [hne]⟩
  have hval : ∀ t, (a.put (some d) v).tmps.getD t undef = if t = d then v else a.tmps.getD t undef := by
    intro t
    by_cases ht : t = d
    · subst ht
      have : t < a.tmps.size := by rw [h.nt]; exact hd
      simp [Act.put, this]
    · simp only [Act.put, if_neg ht]
      rw [Array.getD_eq_getD_getElem?, Array.getD_eq_getD_getElem?, Array.getElem?_setIfInBounds_ne (fun e => ht e.symm)]
  exact {
    nt := by simp [Act.put, h.nt], df := by simp [Act.put, h.df]
    slots := fun t ht => by
      rw [hval]
      rcases look_cases d t ⟨n, sh, ls⟩ st with ⟨rfl, e⟩ | ⟨hne, e⟩
      · rw [e]; simpa using hs
      · rw [e]; simpa [hne] using h.slots t ht
    boxes := fun b hb => by
      have : b ≠ d := by omega
      rw [look_other this]
      simpa [this] using h.boxes b hb
    len := fun q => by
      rcases look_cases d q ⟨n, sh, ls⟩ st with ⟨rfl, e⟩ | ⟨hne, e⟩
      · rw [e]; simpa using hl
      · rw [e]; simpa [hne] using h.len q
    one := fun q u hu => by
      by_cases hq : q = d
      · simp only [hq, if_true] at hu; exact h1 u hu
      · simp only [hq, if_false] at hu; exact h.one q u hu
    leaf := fun q j l u h2 h3 => by
      rcases look_cases d q ⟨n, sh, ls⟩ st with ⟨rfl, e⟩ | ⟨hne, e⟩
      · rw [e] at h2
        simp only [if_true] at h3
        exact (hleaf j l u h2 h3).carry hV.ro hstep (fun _ => ⟨by simp, fun _ _ => rfl⟩)
      · rw [e] at h2
        simp only [hne, if_false] at h3
        exact (h.leaf q j l u h2 h3).carry hV.ro hstep (fun _ => ⟨by simp [hne], fun _ _ => rfl⟩)
    ownb := fun q j l h2 h3 k hk => by
      rcases look_cases d q ⟨n, sh, ls⟩ st with ⟨rfl, e⟩ | ⟨hne, e⟩
      · rw [e] at h2
        simp only [if_true] at hk
        have := hown j l h2 h3 k hk
        exact ⟨this.1, this.2.1, fun b hb => this.2.2.1 b ((hl' b).1 hb)⟩
      · rw [e] at h2
        simp only [hne, if_false] at hk
        have := h.ownb q j l h2 h3 k hk
        exact ⟨this.1, this.2.1, fun b hb => this.2.2 b ((hl' b).1 hb)⟩
    sep := fun q j l q' j' l' h2 h3 h4 h5 k hk hk' => by
      rcases look_cases d q ⟨n, sh, ls⟩ st with ⟨e0, e⟩ | ⟨hne, e⟩ <;> rcases look_cases d q' ⟨n, sh, ls⟩ st with ⟨e1, e'⟩ | ⟨hne', e'⟩
      · rw [e] at h2; rw [e'] at h4
        simp only [e0, if_true] at hk
        simp only [e1, if_true] at hk'
        exact ⟨e0.trans e1.symm, hsep j j' l l' h2 h3 h4 h5 k hk hk'⟩
      · rw [e] at h2; rw [e'] at h4
        simp only [e0, if_true] at hk
        simp only [hne', if_false] at hk'
        exact absurd hk' ((hown j l h2 h3 k hk).2.2.2 q' j' l' hne' h4 h5)
      · rw [e] at h2; rw [e'] at h4
        simp only [hne, if_false] at hk
        simp only [e1, if_true] at hk'
        exact absurd hk ((hown j' l' h4 h5 k hk').2.2.2 q j l hne h2 h3)
      · rw [e] at h2; rw [e'] at h4
        simp only [hne, if_false] at hk
        simp only [hne', if_false] at hk'
        exact h.sep q j l q' j' l' h2 h3 h4 h5 k hk hk'
    box := fun b hb => h.box b ((hl' b).1 hb)
    inj := fun b b' hb hb' => h.inj b b' ((hl' b).1 hb) ((hl' b').1 hb')
    nwlt := h.nwlt
    os := h.os, tape := h.tape, output := h.output, size := h.size, keep := h.keep
    fixb := fun x hx => ⟨(hl' _).2 (h.fixb x hx).1, (h.fixb x hx).2⟩
    fixt := fun x hx => by rw [hval, if_neg (hfix x hx)]; exact h.fixt x hx }

/-- A slot is written with what nobody owns. -/
theorem RelAt.putLs (hV : EnvOk V) (h : RelAt P V W st a w) (d : Nat) (hd : d < V.nt) (hfix : ∀ x ∈ V.fixt, x.1 ≠ d) (n : Nat) (sh : Shape) (ls : List Leaf) (v : Value)
    (csd : List Value) (hn : (st d).ver < n) (hs : ShOk sh v csd) (hl : LsOk P V W st w ls csd) :
    Rel P V (look [(d, ⟨n, sh, ls⟩)] st) (a.put (some d) v) w :=
  ⟨_, h.put hV d hd hfix n sh ls v csd (fun _ => []) hn hs hl.length hl.one' (fun j l u h1 h2 => (hl.at_ j l u h1 h2).1) (fun _ _ _ _ k hk => by simp at hk)
    (fun _ _ _ _ _ _ _ _ k hk => by simp at hk)⟩

end
end Go.Proofs.YthgnfidnmnkeaaaGreatEv
