/- Code and loops. -/
import Derived.Test.YthgnfidnmnkeaaaGreatEv22
namespace Go.Proofs.YthgnfidnmnkeaaaGreatEv
open Go Go.RowKit

section
variable {P : Program} {V : Env} {Γ : List Ctr} {T : TypeId → TI} {st st' : St} {o : Oper} {R : Type} {all : Array Oper}

/-! ### At a loop's head -/
theorem clean_len (live : List Nat) : ∀ (cs : List Coe) (ls : List Leaf), (cleanLs live cs ls).length = ls.length
  | [], [] => rfl
  | _ :: _, [] => rfl
  | [], _ :: ls => by simp [cleanLs, clean_len live [] ls]
  | _ :: cs, _ :: ls => by simp [cleanLs, clean_len live cs ls]

theorem clean_at (live : List Nat) : ∀ (cs : List Coe) (ls : List Leaf) (j : Nat) (l : Leaf), (cleanLs live cs ls)[j]? = some l → ∃ l0, ls[j]? = some l0 ∧ (l = .dead ∨ ∃ c, l = cleanLeaf live c l0)
  | [], [], j, l, h => by simp [cleanLs] at h
  | _ :: _, [], j, l, h => by simp [cleanLs] at h
  | [], l0 :: ls, 0, l, h => by simp [cleanLs] at h; exact ⟨l0, rfl, .inl h.symm⟩
  | c :: cs, l0 :: ls, 0, l, h => by simp [cleanLs] at h; exact ⟨l0, rfl, .inr ⟨c, h.symm⟩⟩
  | [], l0 :: ls, j + 1, l, h => by
    simp only [cleanLs, List.getElem?_cons_succ] at h
    obtain ⟨l1, h1, h2⟩ := clean_at live [] ls j l h
    exact ⟨l1, by simpa using h1, h2⟩
  | c :: cs, l0 :: ls, j + 1, l, h => by
    simp only [cleanLs, List.getElem?_cons_succ] at h
    obtain ⟨l1, h1, h2⟩ := clean_at live cs ls j l h
    exact ⟨l1, by simpa using h1, h2⟩

theorem norm_at (live : List (Nat × List Coe)) (q : Nat) : norm live st q = Cont.none ∧ q ∉ live.map (·.1) ∨ ∃ cs, norm live st q = ⟨0, (st q).sh, cleanLs (live.map (·.1)) cs (st q).ls⟩ ∧ q ∈ live.map (·.1) := by
  have key : ∀ (keys : List Nat) (l : List (Nat × List Coe)), (mkSt (l.map fun r => (r.1, ⟨0, (st r.1).sh, cleanLs keys r.2 (st r.1).ls⟩)) q = Cont.none ∧ q ∉ l.map (·.1)) ∨
      ∃ cs, mkSt (l.map fun r => (r.1, ⟨0, (st r.1).sh, cleanLs keys r.2 (st r.1).ls⟩)) q = ⟨0, (st q).sh, cleanLs keys cs (st q).ls⟩ ∧ q ∈ l.map (·.1) := by
    intro keys l
    induction l with
    | nil => exact .inl ⟨rfl, by simp⟩
    | cons x l ih =>
      obtain ⟨r, cs⟩ := x
      by_cases h : q = r
      · subst h
        exact .inr ⟨cs, by simp [mkSt, look], by simp⟩
      · have hb : Nat.beq q r = false := by
          cases hb : Nat.beq q r with
          | false => rfl
          | true => exact absurd (Nat.eq_of_beq_eq_true hb) h
        rcases ih with ⟨h1, h2⟩ | ⟨cs', h1, h2⟩
        · refine .inl ⟨?_, by simpa [h] using h2⟩
          rw [← h1]
          simp [mkSt, look, hb]
        · refine .inr ⟨cs', ?_, by simp only [List.map_cons, List.mem_cons]; exact .inr h2⟩
          rw [← h1]
          simp [mkSt, look, hb]
  exact key (live.map (·.1)) live

theorem clean_own {keys : List Nat} {c : Coe} {l0 : Leaf} (h : isOwn (cleanLeaf keys c l0)) : isOwn l0 ∨ l0 = .nil := by
  unfold cleanLeaf at h
  split at h
  · exact h.elim
  · exact .inr rfl
  · exact .inl trivial
  · exact h.elim
  all_goals first
    | exact h.elim
    | exact .inl trivial
    | (generalize (!_ || _ : Bool) = b at h; cases b <;> exact h.elim)
    | (generalize (List.any _ _ : Bool) = b at h; cases b <;> exact h.elim)
    | (generalize (List.all _ _ : Bool) = b at h; cases b <;> exact h.elim)

theorem clean_leaf {W W' : Wit} {w : World} {keys : List Nat} {bs bs' : List Nat} {c : Coe} {l0 : Leaf} {v : Value} (h : LeafOk P V W st w bs l0 v)
    (hnw : ∀ k, W.nw k → W'.nw k) (hβ : W'.β = W.β) (hlive : ∀ b, keys.any (Nat.beq b) = true → (st b).sh = .agg → (st' b).sh = .agg)
    (hown : isOwn l0 → bs' = bs) (hnil : l0 = .nil → bs' = []) (hfrz : isOwn l0 → ¬ isOwn (cleanLeaf keys c l0) → (∃ p E e, c = .ro p E e) → ∀ k ∈ bs, W'.nw k) :
    LeafOk P V W' st' w bs' (cleanLeaf keys c l0) v := by
  have hgd : ∀ (p q : Bool), (!q || p) = true → ∀ k, gd V W q k → gd V W' p k := by
    intro p q hpq k hk
    rcases hk with hk | ⟨h1, hk⟩
    · exact .inl (hnw k hk)
    · refine .inr ⟨?_, hk⟩
      subst h1
      simpa using hpq
  cases c with
  | kill => simp only [cleanLeaf]; trivial
  | keep =>
    cases l0 with
    | int k n => exact h
    | bool b => exact h
    | str s => exact h
    | nil => exact h
    | fn As B φ => exact h
    | bp b off =>
      simp only [cleanLeaf]
      cases hb : keys.any (Nat.beq b) with
      | false => trivial
      | true =>
        obtain ⟨h1, h2, h3⟩ := h
        exact ⟨h1, hlive b hb h2, by rw [hβ]; exact h3⟩
    | clo f caps =>
      simp only [cleanLeaf]
      cases hb : caps.all (fun b => keys.any (Nat.beq b)) with
      | false => trivial
      | true =>
        obtain ⟨h1, h2⟩ := h
        rw [List.all_eq_true] at hb
        exact ⟨by rw [hβ]; exact h1, fun b hbc => ⟨(h2 b hbc).1, hlive b (hb b hbc) (h2 b hbc).2⟩⟩
    | _ => simp only [cleanLeaf]; trivial
  | own p E e =>
    cases l0 with
    | nil =>
      have hv : v = .slice none 0 0 := h
      subst hv
      rw [hnil rfl]
      exact Ow.nil w _ E e
    | own q E' e' xs =>
      simp only [cleanLeaf]
      cases hb : (!q || p) with
      | false => trivial
      | true =>
        rw [hown trivial]
        exact Ow.carry h (hgd p q hb) (fun _ _ => rfl) (fun _ _ => rfl)
    | _ => simp only [cleanLeaf]; trivial
  | ro p E e =>
    cases l0 with
    | nil =>
      have hv : v = .slice none 0 0 := h
      subst hv
      exact Rd.nil w _ E e
    | ro q E' e' xs =>
      simp only [cleanLeaf]
      cases hb : (!q || p) with
      | false => trivial
      | true => exact Rd.mono (hgd p q hb) h
    | own q E' e' xs =>
      have hfz := hfrz trivial (by simp only [cleanLeaf]; cases (!q || p) <;> exact fun h => h) ⟨p, E, e, rfl⟩
      simp only [cleanLeaf]
      cases hb : (!q || p) with
      | false => trivial
      | true =>
        refine Rd.mono (fun k hk => ?_) (Ow.rd (E' := E') h)
        rcases hk with hk | hk
        · exact hgd p q hb k hk
        · exact .inl (hfz k hk)
    | _ => simp only [cleanLeaf]; trivial
  | rp p =>
    cases l0 with
    | rpp q a x =>
      simp only [cleanLeaf]
      cases hb : (!q || p) with
      | false => trivial
      | true =>
        obtain ⟨b, ob, g, o', c, hv, hb1, hcell, hg, hr, hc⟩ := h
        exact ⟨b, ob, g, o', c, hv, hb1.imp (hnw b) id, hcell, hg.imp (hnw g) id, Rd.mono (hgd p q hb) hr, hc⟩
    | rp q a x off =>
      simp only [cleanLeaf]
      cases hb : (!q || p) with
      | false => trivial
      | true =>
        obtain ⟨g, o', c, hv, hg, hr, hc⟩ := h
        exact ⟨g, o', c, hv, hg.imp (hnw g) id, Rd.mono (hgd p q hb) hr, hc⟩
    | _ => simp only [cleanLeaf]; trivial

open Classical in
theorem norm_ok (_hV : EnvOk V) (hfb : V.fixb = []) {a : Act} {w : World} (h : Rel P V st a w) (live : List (Nat × List Coe)) : Rel P V (norm live st) a w := by
  obtain ⟨W, h⟩ := h
  have hat := norm_at (st := st) live
  have hlv : ∀ b, Go.Proofs.YthgnfidnmnkeaaaGreatEv.live (norm live st) b → Go.Proofs.YthgnfidnmnkeaaaGreatEv.live st b := by
    rintro b ⟨h1, h2⟩
    rcases hat b with ⟨e, _⟩ | ⟨cs, e, _⟩
    · rw [e] at h2; cases h2
    · rw [e] at h2; exact ⟨h1, h2⟩
  have hle : ∀ (q j : Nat) (l : Leaf), (norm live st q).ls[j]? = some l → q ∈ live.map (·.1) ∧ ∃ l0, (st q).ls[j]? = some l0 ∧ (l = .dead ∨ ∃ c, l = cleanLeaf (live.map (·.1)) c l0) := by
    intro q j l hl
    rcases hat q with ⟨e, _⟩ | ⟨cs, e, hm⟩
    · rw [e] at hl; simp [Cont.none] at hl
    · rw [e] at hl; exact ⟨hm, clean_at _ _ _ _ _ hl⟩
  have hob : ∀ (q j : Nat) (l : Leaf), (norm live st q).ls[j]? = some l → isOwn l → ∃ l0, (st q).ls[j]? = some l0 ∧ (isOwn l0 ∨ l0 = .nil) := by
    intro q j l hl ho
    obtain ⟨_, l0, h1, h2⟩ := hle q j l hl
    rcases h2 with rfl | ⟨c, rfl⟩
    · exact ho.elim
    · exact ⟨l0, h1, clean_own ho⟩
  let bs' : Nat → Nat → List Nat := fun q j => if (∃ l0, (st q).ls[j]? = some l0 ∧ isOwn l0) then W.bs q j else []
  let nw' : Nat → Prop := fun k => W.nw k ∨ ∃ q j l0 l, (st q).ls[j]? = some l0 ∧ isOwn l0 ∧ (norm live st q).ls[j]? = some l ∧ ¬ isOwn l ∧ k ∈ W.bs q j
  have hbs1 : ∀ (q j k : Nat), k ∈ bs' q j → (∃ l0, (st q).ls[j]? = some l0 ∧ isOwn l0) ∧ k ∈ W.bs q j := by
    intro q j k hk
    by_cases hc : ∃ l0, (st q).ls[j]? = some l0 ∧ isOwn l0
    · simp only [bs', if_pos hc] at hk; exact ⟨hc, hk⟩
    · simp only [bs', if_neg hc] at hk; simp at hk
  refine ⟨{ β := W.β, cs := fun q => if q ∈ live.map (·.1) then W.cs q else [], bs := bs', nw := nw' }, ?_⟩
  exact {
    nt := h.nt, df := h.df
    slots := fun t ht => by
      rcases hat t with ⟨e, hm⟩ | ⟨cs, e, hm⟩
      · rw [e]; simp [hm, Cont.none, ShOk]
      · rw [e]; simp only [hm, if_true]; exact h.slots t ht
    boxes := fun b hb => by
      rcases hat b with ⟨e, hm⟩ | ⟨cs, e, hm⟩
      · rw [e]; exact .inl ⟨rfl, rfl⟩
      · rw [e]
        rcases h.boxes b hb with ⟨h1, h2⟩ | ⟨h1, E, h2⟩
        · exact .inl ⟨h1, by rw [h2]; exact List.eq_nil_of_length_eq_zero (by rw [clean_len]; rfl)⟩
        · exact .inr ⟨h1, E, by simp only [hm, if_true]; exact h2⟩
    len := fun q => by
      rcases hat q with ⟨e, hm⟩ | ⟨cs, e, hm⟩
      · rw [e]; simp [hm, Cont.none]
      · rw [e]; simp only [hm, if_true, clean_len]; exact h.len q
    one := fun q u hu => by
      by_cases hm : q ∈ live.map (·.1)
      · simp only [hm, if_true] at hu; exact h.one q u hu
      · simp only [hm, if_false] at hu; simp at hu
    leaf := fun q j l v hl hv => by
      obtain ⟨hm, l0, h1, h2⟩ := hle q j l hl
      simp only [hm, if_true] at hv
      have hlo := h.leaf q j l0 v h1 hv
      rcases h2 with rfl | ⟨c, rfl⟩
      · trivial
      · refine clean_leaf (st := st) (W := W) (W' := { β := W.β, cs := fun q => if q ∈ live.map (·.1) then W.cs q else [], bs := bs', nw := nw' }) (keys := live.map (·.1)) hlo (fun k hk => Or.inl hk) rfl ?_ ?_ ?_ ?_
        · intro b hb hag
          have hbm : b ∈ live.map (·.1) := by
            rw [List.any_eq_true] at hb
            obtain ⟨x, hx, he⟩ := hb
            rw [Nat.eq_of_beq_eq_true he]
            exact hx
          rcases hat b with ⟨_, hm'⟩ | ⟨cs, e, _⟩
          · exact absurd hbm hm'
          · rw [e]; exact hag
        · intro ho
          show bs' q j = _
          simp only [bs', if_pos (⟨l0, h1, ho⟩ : ∃ l0, (st q).ls[j]? = some l0 ∧ isOwn l0)]
        · intro e
          show bs' q j = _
          have hc : ¬ ∃ l0, (st q).ls[j]? = some l0 ∧ isOwn l0 := by
            rintro ⟨l1, h3, h4⟩
            rw [h1, e] at h3
            cases h3
            exact h4.elim
          simp only [bs', if_neg hc]
        · intro ho hn _ k hk
          exact .inr ⟨q, j, l0, _, h1, ho, hl, hn, hk⟩
    ownb := fun q j l hl ho k hk => by
      obtain ⟨⟨l0, h1, h2⟩, h3⟩ := hbs1 q j k hk
      obtain ⟨q1, q2, q3⟩ := h.ownb q j l0 h1 h2 k h3
      refine ⟨?_, q2, fun b hb => q3 b (hlv b hb)⟩
      rintro (hn | ⟨q', j', l1, l2, h4, h5, h6, h7, h8⟩)
      · exact q1 hn
      · obtain ⟨rfl, rfl⟩ := h.sep q j l0 q' j' l1 h1 h2 h4 h5 k h3 h8
        rw [hl] at h6
        cases h6
        exact h7 ho
    sep := fun q j l q' j' l' _ _ _ _ k hk hk' => by
      obtain ⟨⟨l0, h1, h2⟩, h3⟩ := hbs1 q j k hk
      obtain ⟨⟨l0', h1', h2'⟩, h3'⟩ := hbs1 q' j' k hk'
      exact h.sep q j l0 q' j' l0' h1 h2 h1' h2' k h3 h3'
    box := fun b hb => by
      obtain ⟨q1, q2⟩ := h.box b (hlv b hb)
      refine ⟨?_, q2⟩
      rintro (hn | ⟨q', j', l1, l2, h4, h5, h6, h7, h8⟩)
      · exact q1 hn
      · exact (h.ownb q' j' l1 h4 h5 _ h8).2.2 b (hlv b hb) rfl
    inj := fun b b' hb hb' => h.inj b b' (hlv b hb) (hlv b' hb')
    nwlt := fun k hk => by
      rcases hk with hn | ⟨q', j', l1, l2, h4, h5, h6, h7, h8⟩
      · exact h.nwlt k hn
      · exact ⟨h.own_lt h4 h5 k h8, (h.ownb q' j' l1 h4 h5 k h8).2.1⟩
    os := h.os, tape := h.tape, output := h.output, size := h.size, keep := h.keep
    fixb := fun x hx => by rw [hfb] at hx; simp at hx
    fixt := h.fixt }

/-! ### Code -/
def exOf : Ex → Exit
  | .normal => .normal
  | .exit id => .exit id
  | .ret => .ret

theorem operOk_dst {nt : Nat} {fix : List Nat} (hnt : V.nt = nt) (hfix : ∀ x ∈ V.fixt, x.1 ∈ fix) (h : operOk nt fix all o = true) : DstOk V o := by
  intro d hd
  simp only [operOk, hd, Bool.and_eq_true, Bool.not_eq_true', List.any_eq_false] at h
  obtain ⟨⟨h1, h2⟩, _⟩ := h
  refine ⟨by rw [hnt]; simpa [Nat.blt_eq] using h1, fun x hx e => ?_⟩
  exact h2 _ (hfix x hx) (by simp [e])

end
end Go.Proofs.YthgnfidnmnkeaaaGreatEv
