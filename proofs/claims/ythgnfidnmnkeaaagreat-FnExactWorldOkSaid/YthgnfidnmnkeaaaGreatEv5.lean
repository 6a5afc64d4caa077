/- What is moved and what is frozen; boxes made and written. -/
import Derived.Test.YthgnfidnmnkeaaaGreatEv4
namespace Go.Proofs.YthgnfidnmnkeaaaGreatEv
open Go Go.RowKit

section
variable {P : Program} {V : Env} {W : Wit} {st : St} {w w' : World} {a : Act} {o : Oper}

theorem live_same {st st' : St} (h : ∀ q, (st' q).sh = (st q).sh) (b : Nat) : live st' b ↔ live st b := by simp [live, h]

theorem moved_ok (hV : EnvOk V) (h : RelAt P V W st a w) {ls : List Leaf} {cs : List Value} (hl : LsOk P V W st w ls cs) (hd : distinct (owned st ls) = true) :
    RelAt P V W (look (killU st (owned st ls)) st) a w ∧ (taken st ls).length = cs.length ∧
    (∀ (j : Nat) (l : Leaf) (u : Value), (taken st ls)[j]? = some l → cs[j]? = some u → LeafOk P V W (look (killU st (owned st ls)) st) w (movedBs W ls j) l u) ∧
    (∀ (j : Nat) (l : Leaf), (taken st ls)[j]? = some l → isOwn l → ∀ k ∈ movedBs W ls j, ¬ W.nw k ∧ ¬ V.prot k ∧ k < w.heap.size ∧
      (∀ b, live (look (killU st (owned st ls)) st) b → W.β b ≠ k) ∧
      ∀ (r1 j1 : Nat) (l1 : Leaf), (look (killU st (owned st ls)) st r1).ls[j1]? = some l1 → isOwn l1 → k ∉ W.bs r1 j1) ∧
    (∀ (j j' : Nat) (l l' : Leaf), (taken st ls)[j]? = some l → isOwn l → (taken st ls)[j']? = some l' → isOwn l' → ∀ k, k ∈ movedBs W ls j → k ∈ movedBs W ls j' → j = j') := by
  obtain ⟨h1, h2, h3⟩ := killU_ok hV (owned st ls) h
  have hstep := step_kill hV h (owned st ls)
  have hget : ∀ (j : Nat) (l : Leaf), (taken st ls)[j]? = some l → ∃ l0 u, ls[j]? = some l0 ∧ cs[j]? = some u ∧ deref st l0 = l ∧ LeafOk P V W st w [] l0 u ∧ ¬ isOwn l0 := by
    intro j l hj
    simp only [taken, List.getElem?_map, Option.map_eq_some_iff] at hj
    obtain ⟨l0, h4, h5⟩ := hj
    have hlt : j < cs.length := by rw [← hl.length]; exact (List.getElem?_eq_some_iff.1 h4).1
    have h6 := List.getElem?_eq_getElem hlt
    have h7 := hl.at_ j l0 _ h4 h6
    exact ⟨l0, _, h4, h6, h5, h7.1, h7.2.1⟩
  have howned : ∀ (j : Nat) (l : Leaf), (taken st ls)[j]? = some l → isOwn l → ∃ r i n, ls[j]? = some (.al r i n) ∧ isOwn (deref st (.al r i n)) ∧ (st r).ls[i]? = some l := by
    intro j l hj ho
    obtain ⟨l0, u, h4, h5, rfl, h6, h7⟩ := hget j l hj
    rcases deref_ok hV h h6 h7 with ⟨r, i, n, rfl, h8, _, h9⟩ | ⟨h8, _⟩
    · exact ⟨r, i, n, h4, h8, h9⟩
    · exact absurd ho h8
  refine ⟨h1, by simp [taken, hl.length], fun j l u hj hu => ?_, fun j l hj ho k hk => ?_, fun j j' l l' hj ho hj' ho' k hk hk' => ?_⟩
  · obtain ⟨l0, u', h4, h5, rfl, h6, h7⟩ := hget j l hj
    obtain rfl : u = u' := Option.some.inj (hu.symm.trans h5)
    rcases deref_ok hV h h6 h7 with ⟨r, i, n, rfl, h8, h9, _⟩ | ⟨h8, h9⟩
    · have : movedBs W ls j = W.bs r i := by simp [movedBs, h4]
      rw [this]
      exact h9.carry hV.ro hstep (fun _ => ⟨rfl, fun _ _ => rfl⟩)
    · exact h9.carry hV.ro hstep (fun h => absurd h h8)
  · obtain ⟨r, i, n, h4, h5, h6⟩ := howned j l hj ho
    have e : movedBs W ls j = W.bs r i := by simp [movedBs, h4]
    rw [e] at hk
    have h7 := h.ownb r i l h6 ho k hk
    refine ⟨h7.1, h7.2.1, h.own_lt h6 ho k hk, fun b hb => h7.2.2 b ((live_same (fun q => (h3 q).1) b).1 hb), fun r1 j1 l1 h8 h9 hk1 => ?_⟩
    obtain ⟨h10, h11⟩ := h2 r1 j1 l1 h8 h9
    obtain ⟨rfl, rfl⟩ := h.sep r i l r1 j1 l1 h6 ho h10 h9 k hk hk1
    exact h11 (owned_mem h4 h5)
  · obtain ⟨r, i, n, h4, h5, h6⟩ := howned j l hj ho
    obtain ⟨r', i', n', h4', h5', h6'⟩ := howned j' l' hj' ho'
    have e : movedBs W ls j = W.bs r i := by simp [movedBs, h4]
    have e' : movedBs W ls j' = W.bs r' i' := by simp [movedBs, h4']
    rw [e] at hk
    rw [e'] at hk'
    obtain ⟨rfl, rfl⟩ := h.sep r i l r' i' l' h6 ho h6' ho' k hk hk'
    exact distinct_at hd h4 h5 h4' h5'

/-- A slot is written with what is moved. -/
theorem RelAt.putMoved (hV : EnvOk V) (h : RelAt P V W st a w) {ls : List Leaf} {cs : List Value} (hl : LsOk P V W st w ls cs) (hd : distinct (owned st ls) = true)
    (d : Nat) (hdn : d < V.nt) (hfix : ∀ x ∈ V.fixt, x.1 ≠ d) {sh : Shape} {v : Value} (hs : ShOk sh v cs) :
    Rel P V (look (putU st (killU st (owned st ls)) d sh (taken st ls)) st) (a.put (some d) v) w := by
  obtain ⟨h1, h2, h3, h4, h5⟩ := moved_ok hV h hl hd
  rw [putU, look_cons]
  exact ⟨_, h1.put hV d hdn hfix _ sh (taken st ls) v cs (movedBs W ls) (Nat.lt_succ_self _) hs h2 hl.one' h3
    (fun j l hj ho k hk => ⟨(h4 j l hj ho k hk).1, (h4 j l hj ho k hk).2.1, (h4 j l hj ho k hk).2.2.2.1, fun r1 j1 l1 _ => (h4 j l hj ho k hk).2.2.2.2 r1 j1 l1⟩) h5⟩

/-- A box is made, or written: what is asked in general. -/
theorem RelAt.setBoxG (hV : EnvOk V) (h : RelAt P V W st a w) (b : Nat) (hb : B0 ≤ b) (n : Nat) (ls : List Leaf) (csd : List Value) (bsd : Nat → List Nat) (g : Nat) (E : TypeId)
    (hn : (st b).ver < n) (hg : (live st b ∧ W.β b = g) ∨ (¬ live st b ∧ ¬ used V W st g ∧ ∀ (j : Nat) (l : Leaf), ls[j]? = some l → isOwn l → ∀ k ∈ bsd j, k ≠ g)) (hnew : w'.heap[g]? = some (.cells csd.toArray E (0, 0)))
    (hsame : ∀ k, used V W st k → k ≠ g → w'.heap[k]? = w.heap[k]?) (hsameb : ∀ (j : Nat) (l : Leaf), ls[j]? = some l → isOwn l → ∀ k ∈ bsd j, k ≠ g → w'.heap[k]? = w.heap[k]?) (hsz : w.heap.size ≤ w'.heap.size) (hos : w'.os = w.os) (ht : w'.tape = w.tape) (ho : w'.output = w.output)
    (hl : ls.length = csd.length) (h1 : ∀ u ∈ csd, u.oneCell' = true)
    (hleaf : ∀ (j : Nat) (l : Leaf) (u : Value), ls[j]? = some l → csd[j]? = some u → LeafOk P V W st w (bsd j) l u)
    (hown : ∀ (j : Nat) (l : Leaf), ls[j]? = some l → isOwn l → ∀ k ∈ bsd j, ¬ W.nw k ∧ ¬ V.prot k ∧ (∀ b, live st b → W.β b ≠ k) ∧
      ∀ (r1 j1 : Nat) (l1 : Leaf), r1 ≠ b → (st r1).ls[j1]? = some l1 → isOwn l1 → k ∉ W.bs r1 j1)
    (hsep : ∀ (j j' : Nat) (l l' : Leaf), ls[j]? = some l → isOwn l → ls[j']? = some l' → isOwn l' → ∀ k, k ∈ bsd j → k ∈ bsd j' → j = j') :
    RelAt P V { W with β := fun r => if r = b then g else W.β r, cs := fun r => if r = b then csd else W.cs r, bs := fun r j => if r = b then bsd j else W.bs r j }
      (look [(b, ⟨n, .agg, ls⟩)] st) a w' := by
  have hgo : ¬ W.nw g ∧ ¬ V.prot g ∧ (∀ q, q ≠ b → live st q → W.β q ≠ g) ∧ ∀ (r1 j1 : Nat) (l1 : Leaf), (st r1).ls[j1]? = some l1 → isOwn l1 → g ∉ W.bs r1 j1 := by
    rcases hg with ⟨hlv, rfl⟩ | ⟨hlv, hg⟩
    · exact ⟨(h.box b hlv).1, (h.box b hlv).2, fun q hq hlq e => hq (h.inj q b hlq hlv e), fun r1 j1 l1 h2 h3 hk => (h.ownb r1 j1 l1 h2 h3 _ hk).2.2 b hlv rfl⟩
    · have hu := hg.1
      simp only [used, not_or, not_exists, not_and] at hu
      exact ⟨hu.1, hu.2.1, fun q _ hlq e => hu.2.2.1 q hlq e, fun r1 j1 l1 h2 h3 hk => hu.2.2.2 r1 j1 l1 h2 h3 hk⟩
  have hbd : ∀ (j : Nat) (l : Leaf), ls[j]? = some l → isOwn l → ∀ k ∈ bsd j, k ≠ g := by
    intro j l h2 h3 k hk
    rcases hg with ⟨hlv, rfl⟩ | ⟨hlv, hg⟩
    · exact fun e => (hown j l h2 h3 k hk).2.2.1 b hlv e.symm
    · exact hg.2 j l h2 h3 k hk
  have hlv' : ∀ q, live (look [(b, ⟨n, .agg, ls⟩)] st) q ↔ (q = b ∨ live st q) := by
    intro q
    rcases look_cases b q ⟨n, .agg, ls⟩ st with ⟨e0, e⟩ | ⟨hne, e⟩
    · subst e0
      simp [live, e, hb]
    · simp [live, e, hne]
  have hheap : ∀ k, used V W st k → k ≠ g → w'.heap[k]? = w.heap[k]? := hsame
  have hstep : Step V W { W with β := fun r => if r = b then g else W.β r, cs := fun r => if r = b then csd else W.cs r, bs := fun r j => if r = b then bsd j else W.bs r j } st (look [(b, ⟨n, .agg, ls⟩)] st) w w' := by
    refine ⟨fun q => ?_, fun q hq => ⟨(hlv' q).2 (.inr hq), ?_⟩, fun _ h => h, fun k hk => hheap k (hk.elim .inl (fun h => .inr (.inl h))) ?_⟩
    · rcases look_cases b q ⟨n, .agg, ls⟩ st with ⟨rfl, e⟩ | ⟨hne, e⟩
      · rw [e]; exact ⟨Nat.le_of_lt hn, fun e => absurd e (by show n ≠ _; omega)⟩
      · rw [e]; exact ⟨Nat.le_refl _, fun _ => by simp [hne]⟩
    · by_cases hqb : q = b
      · subst hqb
        rcases hg with ⟨_, e⟩ | ⟨hlv, _⟩
        · simp [e]
        · exact absurd hq hlv
      · simp [hqb]
    · rintro rfl
      exact hk.elim hgo.1 hgo.2.1
  exact {
    nt := h.nt, df := h.df
    slots := fun t ht' => by
      have : t ≠ b := by omega
      rw [look_other this]
      simpa [this] using h.slots t ht'
    boxes := fun q hq => by
      rcases look_cases b q ⟨n, .agg, ls⟩ st with ⟨rfl, e⟩ | ⟨hne, e⟩
      · rw [e]; exact .inr ⟨rfl, E, by simpa using hnew⟩
      · rw [e]
        refine (h.boxes q hq).imp id fun ⟨h2, E', h3⟩ => ⟨h2, E', ?_⟩
        simp only [hne, if_false]
        rw [hheap _ (.inr (.inr (.inl ⟨q, ⟨hq, h2⟩, rfl⟩))) (hgo.2.2.1 q hne ⟨hq, h2⟩)]
        exact h3
    len := fun q => by
      rcases look_cases b q ⟨n, .agg, ls⟩ st with ⟨rfl, e⟩ | ⟨hne, e⟩
      · rw [e]; simpa using hl
      · rw [e]; simpa [hne] using h.len q
    one := fun q u hu => by
      by_cases hq : q = b
      · simp only [hq, if_true] at hu; exact h1 u hu
      · simp only [hq, if_false] at hu; exact h.one q u hu
    leaf := fun q j l u h2 h3 => by
      rcases look_cases b q ⟨n, .agg, ls⟩ st with ⟨rfl, e⟩ | ⟨hne, e⟩
      · rw [e] at h2
        simp only [if_true] at h3
        exact (hleaf j l u h2 h3).carry hV.ro hstep (fun ho => ⟨by simp, fun k hk => hsameb j l h2 ho k hk (hbd j l h2 ho k hk)⟩)
      · rw [e] at h2
        simp only [hne, if_false] at h3
        refine (h.leaf q j l u h2 h3).carry hV.ro hstep (fun ho => ⟨by simp [hne], fun k hk => hheap k (.inr (.inr (.inr ⟨q, j, l, h2, ho, hk⟩))) ?_⟩)
        rintro rfl
        exact hgo.2.2.2 q j l h2 ho hk
    ownb := fun q j l h2 h3 k hk => by
      rcases look_cases b q ⟨n, .agg, ls⟩ st with ⟨rfl, e⟩ | ⟨hne, e⟩
      · rw [e] at h2
        simp only [if_true] at hk
        have h4 := hown j l h2 h3 k hk
        refine ⟨h4.1, h4.2.1, fun p hp => ?_⟩
        by_cases hpq : p = q
        · simp only [hpq, if_true]; exact fun e => hbd j l h2 h3 k hk e.symm
        · simp only [hpq, if_false]; exact h4.2.2.1 p (((hlv' p).1 hp).resolve_left hpq)
      · rw [e] at h2
        simp only [hne, if_false] at hk
        have h4 := h.ownb q j l h2 h3 k hk
        refine ⟨h4.1, h4.2.1, fun p hp => ?_⟩
        by_cases hpq : p = b
        · simp only [hpq, if_true]; rintro rfl; exact hgo.2.2.2 q j l h2 h3 hk
        · simp only [hpq, if_false]; exact h4.2.2 p (((hlv' p).1 hp).resolve_left hpq)
    sep := fun q j l q' j' l' h2 h3 h4 h5 k hk hk' => by
      rcases look_cases b q ⟨n, .agg, ls⟩ st with ⟨e0, e⟩ | ⟨hne, e⟩ <;> rcases look_cases b q' ⟨n, .agg, ls⟩ st with ⟨e1, e'⟩ | ⟨hne', e'⟩
      · rw [e] at h2; rw [e'] at h4
        simp only [e0, if_true] at hk
        simp only [e1, if_true] at hk'
        exact ⟨e0.trans e1.symm, hsep j j' l l' h2 h3 h4 h5 k hk hk'⟩
      · rw [e] at h2; rw [e'] at h4
        simp only [e0, if_true] at hk
        simp only [hne', if_false] at hk'
        exact absurd hk' ((hown j l h2 h3 k hk).2.2.2 q' j' l' hne' h4 h5)
      · rw [e] at h2; rw [e'] at h4
        simp only [hne, if_false] at hk
        simp only [e1, if_true] at hk'
        exact absurd hk ((hown j' l' h4 h5 k hk').2.2.2 q j l hne h2 h3)
      · rw [e] at h2; rw [e'] at h4
        simp only [hne, if_false] at hk
        simp only [hne', if_false] at hk'
        exact h.sep q j l q' j' l' h2 h3 h4 h5 k hk hk'
    box := fun q hq => by
      by_cases hqb : q = b
      · simp only [hqb, if_true]; exact ⟨hgo.1, hgo.2.1⟩
      · simp only [hqb, if_false]; exact h.box q (((hlv' q).1 hq).resolve_left hqb)
    inj := fun q q' hq hq' e => by
      by_cases hqb : q = b <;> by_cases hqb' : q' = b
      · rw [hqb, hqb']
      · simp only [hqb, if_true, hqb', if_false] at e
        exact absurd e.symm (hgo.2.2.1 q' hqb' (((hlv' q').1 hq').resolve_left hqb'))
      · simp only [hqb, if_false, hqb', if_true] at e
        exact absurd e (hgo.2.2.1 q hqb (((hlv' q).1 hq).resolve_left hqb))
      · simp only [hqb, if_false, hqb', if_false] at e
        exact h.inj q q' (((hlv' q).1 hq).resolve_left hqb) (((hlv' q').1 hq').resolve_left hqb') e
    nwlt := fun k hk => ⟨Nat.lt_of_lt_of_le (h.nwlt k hk).1 hsz, (h.nwlt k hk).2⟩
    os := hos.trans h.os, tape := ht.trans h.tape, output := ho.trans h.output, size := Nat.le_trans h.size hsz
    keep := fun k hp => by
      rw [hheap k (.inr (.inl hp)) (by rintro rfl; exact hgo.2.1 hp)]
      exact h.keep k hp
    fixb := fun x hx => by
      obtain ⟨h2, h3⟩ := h.fixb x hx
      refine ⟨(hlv' _).2 (.inr h2), ?_⟩
      by_cases hxb : x.1 = b
      · simp only [hxb, if_true]
        rcases hg with ⟨_, e⟩ | ⟨hlv, _⟩
        · rw [← e, ← hxb]; exact h3
        · exact absurd (hxb ▸ h2) hlv
      · simpa only [hxb, if_false] using h3
    fixt := h.fixt }

/-- A box is made, or written. -/
theorem RelAt.setBox (hV : EnvOk V) (h : RelAt P V W st a w) (b : Nat) (hb : B0 ≤ b) (n : Nat) (ls : List Leaf) (csd : List Value) (bsd : Nat → List Nat) (g : Nat) (E : TypeId)
    (hn : (st b).ver < n) (hg : (live st b ∧ W.β b = g) ∨ (¬ live st b ∧ w.heap.size ≤ g)) (hnew : w'.heap[g]? = some (.cells csd.toArray E (0, 0)))
    (hsame : ∀ k, k < w.heap.size → k ≠ g → w'.heap[k]? = w.heap[k]?) (hsz : w.heap.size ≤ w'.heap.size) (hos : w'.os = w.os) (ht : w'.tape = w.tape) (ho : w'.output = w.output)
    (hl : ls.length = csd.length) (h1 : ∀ u ∈ csd, u.oneCell' = true)
    (hleaf : ∀ (j : Nat) (l : Leaf) (u : Value), ls[j]? = some l → csd[j]? = some u → LeafOk P V W st w (bsd j) l u)
    (hown : ∀ (j : Nat) (l : Leaf), ls[j]? = some l → isOwn l → ∀ k ∈ bsd j, ¬ W.nw k ∧ ¬ V.prot k ∧ k < w.heap.size ∧ (∀ b, live st b → W.β b ≠ k) ∧
      ∀ (r1 j1 : Nat) (l1 : Leaf), r1 ≠ b → (st r1).ls[j1]? = some l1 → isOwn l1 → k ∉ W.bs r1 j1)
    (hsep : ∀ (j j' : Nat) (l l' : Leaf), ls[j]? = some l → isOwn l → ls[j']? = some l' → isOwn l' → ∀ k, k ∈ bsd j → k ∈ bsd j' → j = j') :
    RelAt P V { W with β := fun r => if r = b then g else W.β r, cs := fun r => if r = b then csd else W.cs r, bs := fun r j => if r = b then bsd j else W.bs r j }
      (look [(b, ⟨n, .agg, ls⟩)] st) a w' :=
  h.setBoxG hV b hb n ls csd bsd g E hn (hg.imp id fun ⟨h2, h3⟩ => ⟨h2, fun hu => by have := h.used_lt g hu; omega, fun j l h4 h5 k hk => by have := (hown j l h4 h5 k hk).2.2.1; omega⟩) hnew
    (fun k hk hkg => hsame k (h.used_lt k hk) hkg) (fun j l h4 h5 k hk hkg => hsame k (hown j l h4 h5 k hk).2.2.1 hkg) hsz hos ht ho hl h1 hleaf
    (fun j l h4 h5 k hk => ⟨(hown j l h4 h5 k hk).1, (hown j l h4 h5 k hk).2.1, (hown j l h4 h5 k hk).2.2.2.1, (hown j l h4 h5 k hk).2.2.2.2⟩) hsep

/-- The operands' leaves, frozen. -/
theorem frozen_ok (hV : EnvOk V) (h : RelAt P V W st a w) {ls : List Leaf} {cs : List Value} (hl : LsOk P V W st w ls cs) (ks : List (Nat × Nat)) (hks : ∀ x ∈ owned st ls, x ∈ ks) :
    LsOk P V (W.frz st ks) (look (frzU st ks) st) w (frozen' st ls) cs := by
  have hstep := step_frz hV h ks
  refine LsOk.mk (by simp [frozen', hl.length]) fun j l u hj hu => ?_
  simp only [frozen', List.getElem?_map, Option.map_eq_some_iff] at hj
  obtain ⟨l0, h1, rfl⟩ := hj
  obtain ⟨h2, h3, h4⟩ := hl.at_ j l0 u h1 hu
  rcases deref_ok hV h h2 h3 with ⟨r, i, n, rfl, h5, h6, h7⟩ | ⟨h5, h6⟩
  · have hm := hks _ (owned_mem h1 h5)
    generalize deref st (.al r i n) = q at h5 h6 h7
    cases q with
    | own p E e xs =>
      refine ⟨?_, id, h4⟩
      refine Rd.mono (fun k hk => ?_) (Ow.rd (E' := E) h6)
      rcases hk with hk | hk
      · exact gd_mono (W' := W.frz st ks) (fun h => h) (fun _ h => Or.inl h) k hk
      · exact .inl (.inr ⟨(r, i), hm, ⟨_, h7, trivial⟩, hk⟩)
    | _ => exact h5.elim
  · generalize deref st l0 = q at h5 h6
    cases q with
    | own p E e xs => exact absurd trivial h5
    | _ => exact ⟨h6.carry hV.ro hstep (fun h => h.elim), id, h4⟩

/-- What is gathered may be read by all, once it is frozen. -/
theorem reach_frz (h : RelAt P V W st a w) {ls : List Leaf} {ks : List (Nat × Nat)} (hks : ∀ x ∈ owned st ls, x ∈ ks) (p : Bool) : ∀ k, reach V W p (owned st ls) k → gd V (W.frz st ks) p k := by
  intro k hk
  rcases hk with hk | ⟨x, hx, hk⟩
  · exact gd_mono (W' := W.frz st ks) (fun h => h) (fun _ h => Or.inl h) k hk
  · refine .inl (.inr ⟨x, hks x hx, ?_, hk⟩)
    have hown : ∀ {ls : List Leaf}, x ∈ owned st ls → ∃ l, (st x.1).ls[x.2]? = some l ∧ isOwn l := by
      intro ls
      induction ls with
      | nil => intro h; simp [owned] at h
      | cons l ls ih =>
        intro h'
        cases l with
        | al r j v =>
          simp only [owned, List.mem_append] at h'
          rcases h' with h' | h'
          · split at h'
            · rename_i p E e xs hd
              simp at h'
              subst h'
              exact ⟨_, (deref_own h hd).2, trivial⟩
            · simp at h'
          · exact ih h'
        | _ => exact ih h'
    exact hown hx

end
end Go.Proofs.YthgnfidnmnkeaaaGreatEv
