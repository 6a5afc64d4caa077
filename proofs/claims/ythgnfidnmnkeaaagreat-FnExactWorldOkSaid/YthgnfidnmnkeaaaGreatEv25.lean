/- A function: how it begins. -/
import Derived.Test.YthgnfidnmnkeaaaGreatEv24
namespace Go.Proofs.YthgnfidnmnkeaaaGreatEv
open Go Go.RowKit

section
variable {P : Program} {Γ : List Ctr} {T : TypeId → TI} {R : Type} {w : World} {ro pr : Nat → Prop}

def parC : (pk : PK) → pk.den → Cont
  | .rd a, x => ⟨0, shOf a.isAgg, leaves false true a x⟩
  | .own E e, x => ⟨0, .one, [.own (!e.flat) E e x]⟩
  | .rref a, x => ⟨0, .one, [.rp true a x 0]⟩
  | .rref2 a, x => ⟨0, .one, [.rpp true a x]⟩
  | .fn As B, x => ⟨0, .one, [.fn As B x]⟩
  | .io _ _, _ => Cont.none
  | .iop _, _ => Cont.none

theorem parsSt_cons (t : Nat) {p : PK} (ps : List PK) (x : Args (p :: ps)) (h : p.noOut = true) : parsSt t (p :: ps) x = (t, parC p x.1) :: parsSt (t + 1) ps x.2 := by
  cases p <;> first | rfl | cases h

/-- What a parameter's slot holds. -/
structure ParOk (P : Program) (w : World) (ro pr : Nat → Prop) (pk : PK) (v : Value) (c : Cont) (csl : List Value) : Prop where
  sh : ShOk c.sh v csl
  slot : c.sh = .one ∨ c.sh = .agg
  len : c.ls.length = csl.length
  one : ∀ u ∈ csl, u.oneCell' = true
  leaf : ∀ (V : Env) (W : Wit) (st : St), V.w0 = w → V.ro0 = ro → V.prot = pr → ∀ (j : Nat) (l : Leaf) (u : Value), c.ls[j]? = some l → csl[j]? = some u → LeafOk P V W st w (pk.given v) l u
  own : ∀ (j : Nat) (l : Leaf), c.ls[j]? = some l → isOwn l → j = 0

theorem leaves_own (p : Bool) : ∀ (a : Ty) (x : a.den) (j : Nat) (l : Leaf), (leaves false p a x)[j]? = some l → ¬ isOwn l
  | .int _, _, 0, l, h => by simp [leaves] at h; subst h; exact id
  | .bool, _, 0, l, h => by simp [leaves] at h; subst h; exact id
  | .str, _, 0, l, h => by simp [leaves] at h; subst h; exact id
  | .list _ _, _, 0, l, h => by simp [leaves] at h; subst h; exact id
  | .int _, _, j + 1, l, h => by simp [leaves] at h
  | .bool, _, j + 1, l, h => by simp [leaves] at h
  | .str, _, j + 1, l, h => by simp [leaves] at h
  | .list _ _, _, j + 1, l, h => by simp [leaves] at h
  | .unit, _, j, l, h => by simp [leaves] at h
  | .pair a b, x, j, l, h => by
    simp only [leaves] at h
    by_cases hj : j < (leaves false p a x.1).length
    · rw [List.getElem?_append_left hj] at h
      exact leaves_own p a x.1 j l h
    · rw [List.getElem?_append_right (by omega)] at h
      exact leaves_own p b x.2 _ l h

theorem par_ok {pk : PK} {x : pk.den} {v : Value} (hno : pk.noOut = true) (h : ArgOk P w ro pr pk x v) : ∃ csl, ParOk P w ro pr pk v (parC pk x) csl := by
  cases pk with
  | rd a =>
    obtain ⟨cs, h1, h2⟩ := h
    refine ⟨cs, shOf_ok h1, ?_, ?_, h2.one, ?_, ?_⟩
    · show shOf a.isAgg = _ ∨ shOf a.isAgg = _
      cases a.isAgg <;> simp [shOf]
    · rw [h2.len]; exact leaves_length false true a x
    · intro V W st hw hro hpr j l u hj hu
      have := leaves_ok (P := P) (V := V) (W := W) (st := st) (p := true) (G := ro) (fun k hk => .inr ⟨rfl, by rw [hro]; exact hk⟩) h2
      have h3 := this.at_ j l u hj hu
      exact h3.1
    · intro j l hj ho
      exact absurd ho (leaves_own true a x j l hj)
  | own E e =>
    refine ⟨[v], rfl, .inl rfl, rfl, fun u hu => by simp at hu; subst hu; exact Ow.one h, ?_, ?_⟩
    · intro V W st hw hro hpr j l u hj hu
      cases j with
      | zero =>
        simp [parC] at hj hu
        subst hj; subst hu
        show Ow w (gd V W (!e.flat)) E e x v v.ownBlock.toList
        cases hf : e.flat with
        | true =>
          obtain ⟨flat, h1, h2, h3⟩ := h
          exact ⟨flat, h1, h2, fun j y hj => by
            obtain ⟨c, hr, hc⟩ := h3 j y hj
            exact ⟨c, Rd.flat hf hr, hc⟩⟩
        | false => exact Ow.carry h (fun k hk => .inr ⟨rfl, by rw [hro]; exact hk⟩) (fun _ _ => rfl) (fun _ _ => rfl)
      | succ j => simp [parC] at hj
    · intro j l hj ho
      cases j with
      | zero => rfl
      | succ j => simp [parC] at hj
  | rref a =>
    obtain ⟨g, o, c, hv, hg, hr, hc⟩ := h
    subst hv
    refine ⟨[_], rfl, .inl rfl, rfl, fun u hu => by simp at hu; subst hu; rfl, ?_, ?_⟩
    · intro V W st hw hro hpr j l u hj hu
      cases j with
      | zero =>
        simp [parC] at hj hu
        subst hj; subst hu
        exact ⟨g, o, c, rfl, .inr (by rw [hpr]; exact hg), hr.mono (fun k hk => .inr ⟨rfl, by rw [hro]; exact hk⟩), hc⟩
      | succ j => simp [parC] at hj
    · intro j l hj ho
      cases j with
      | zero => rfl
      | succ j => simp [parC] at hj
  | rref2 a =>
    obtain ⟨b, ob, g, o, c, hv, hb, hcell, hg, hr, hc⟩ := h
    subst hv
    refine ⟨[_], rfl, .inl rfl, rfl, fun u hu => by simp at hu; subst hu; rfl, ?_, ?_⟩
    · intro V W st hw hro hpr j l u hj hu
      cases j with
      | zero =>
        simp [parC] at hj hu
        subst hj; subst hu
        exact ⟨b, ob, g, o, c, rfl, .inr (by rw [hpr]; exact hb), hcell, .inr (by rw [hpr]; exact hg), hr.mono (fun k hk => .inr ⟨rfl, by rw [hro]; exact hk⟩), hc⟩
      | succ j => simp [parC] at hj
    · intro j l hj ho
      cases j with
      | zero => rfl
      | succ j => simp [parC] at hj
  | fn As B =>
    have hv1 : v.oneCell' = true := by
      obtain ⟨f, caps, e, _⟩ := h
      rw [e]; rfl
    refine ⟨[v], rfl, .inl rfl, rfl, fun u hu => by simp at hu; subst hu; exact hv1, ?_, ?_⟩
    · intro V W st hw hro hpr j l u hj hu
      cases j with
      | zero =>
        simp [parC] at hj hu
        subst hj; subst hu
        show FnOk P V.w0 V.prot As B x v
        rw [hw, hpr]
        exact h
      | succ j => simp [parC] at hj
    · intro j l hj ho
      cases j with
      | zero => rfl
      | succ j => simp [parC] at hj
  | io E e => cases hno
  | iop a => cases hno

theorem args_len : ∀ {ps : List PK} {x : Args ps} {vs : List Value}, ArgsOk P w ro pr ps x vs → vs.length = ps.length
  | [], _, _, h => by rw [show _ = _ from h]; rfl
  | _ :: _, _, _, ⟨_, _, e, _, h⟩ => by rw [e, List.length_cons, List.length_cons, args_len h]

theorem pars_ok : ∀ (ps : List PK) (x : Args ps) (vs : List Value) (t : Nat), ps.all PK.noOut = true → ArgsOk P w ro pr ps x vs →
    ∃ cs : Nat → List Value, ∀ q, ((q < t ∨ t + ps.length ≤ q) → mkSt (parsSt t ps x) q = Cont.none ∧ cs q = []) ∧
      ∀ (i : Nat) (v : Value) (pk : PK), vs[i]? = some v → ps[i]? = some pk → q = t + i → ParOk P w ro pr pk v (mkSt (parsSt t ps x) q) (cs q)
  | [], x, vs, t, _, h => ⟨fun _ => [], fun q => ⟨fun _ => ⟨rfl, rfl⟩, fun i v pk _ h2 => by simp at h2⟩⟩
  | p :: ps, x, vs, t, hno, h => by
    obtain ⟨v, vs', rfl, h1, h2⟩ := h
    simp only [List.all_cons, Bool.and_eq_true] at hno
    obtain ⟨csl, hp⟩ := par_ok hno.1 h1
    obtain ⟨cs, hcs⟩ := pars_ok ps x.2 vs' (t + 1) hno.2 h2
    refine ⟨fun q => if q = t then csl else cs q, fun q => ?_⟩
    rw [parsSt_cons t ps x hno.1]
    have hlook : mkSt ((t, parC p x.1) :: parsSt (t + 1) ps x.2) q = if q = t then parC p x.1 else mkSt (parsSt (t + 1) ps x.2) q := by
      by_cases hq : q = t
      · subst hq; simp [mkSt, look]
      · have hb : Nat.beq q t = false := by
          cases hb : Nat.beq q t with
          | false => rfl
          | true => exact absurd (Nat.eq_of_beq_eq_true hb) hq
        simp [mkSt, look, hb, hq]
    rw [hlook]
    refine ⟨fun hq => ?_, fun i u pk hi hpk hq => ?_⟩
    · have hne : q ≠ t := by simp at hq; omega
      simp only [hne, if_false]
      exact (hcs q).1 (by simp at hq; omega)
    · cases i with
      | zero =>
        simp at hi hpk
        subst hi; subst hpk; subst hq
        simp only [Nat.add_zero, if_true]
        exact hp
      | succ i =>
        have hne : q ≠ t := by omega
        simp only [hne, if_false]
        exact (hcs q).2 i u pk (by simpa using hi) (by simpa using hpk) (by omega)

theorem given_sub : ∀ {ps : List PK} {vs : List Value} {i : Nat} {pk : PK} {v : Value}, ps[i]? = some pk → vs[i]? = some v → ∀ k ∈ pk.given v, k ∈ blocks ps vs
  | [], _, _, _, _, h, _, _, _ => by simp at h
  | _ :: _, [], _, _, _, _, h, _, _ => by simp at h
  | p :: ps, v :: vs, 0, pk, u, h1, h2, k, hk => by
    simp at h1 h2
    subst h1; subst h2
    exact List.mem_append_left _ (List.mem_append_left _ hk)
  | p :: ps, v :: vs, i + 1, pk, u, h1, h2, k, hk => List.mem_append_right _ (given_sub (ps := ps) (vs := vs) (i := i) (by simpa using h1) (by simpa using h2) k hk)

theorem given_sep : ∀ {ps : List PK} {vs : List Value} {i i' : Nat} {pk pk' : PK} {v v' : Value}, (blocks ps vs).Nodup → ps[i]? = some pk → vs[i]? = some v → ps[i']? = some pk' → vs[i']? = some v' →
    ∀ k, k ∈ pk.given v → k ∈ pk'.given v' → i = i'
  | [], _, _, _, _, _, _, _, _, h, _, _, _, _, _, _ => by simp at h
  | _ :: _, [], _, _, _, _, _, _, _, _, h, _, _, _, _, _ => by simp at h
  | p :: ps, v :: vs, 0, 0, _, _, _, _, _, _, _, _, _, _, _, _ => rfl
  | p :: ps, v :: vs, 0, i' + 1, pk, pk', u, u', hn, h1, h2, h3, h4, k, hk, hk' => by
    simp at h1 h2
    subst h1; subst h2
    simp only [blocks] at hn
    rw [List.nodup_append] at hn
    exact absurd rfl (hn.2.2 k (List.mem_append_left _ hk) k (given_sub (ps := ps) (vs := vs) (i := i') (by simpa using h3) (by simpa using h4) k hk'))
  | p :: ps, v :: vs, i + 1, 0, pk, pk', u, u', hn, h1, h2, h3, h4, k, hk, hk' => by
    simp at h3 h4
    subst h3; subst h4
    simp only [blocks] at hn
    rw [List.nodup_append] at hn
    exact absurd rfl (hn.2.2 k (List.mem_append_left _ hk') k (given_sub (ps := ps) (vs := vs) (i := i) (by simpa using h1) (by simpa using h2) k hk))
  | p :: ps, v :: vs, i + 1, i' + 1, pk, pk', u, u', hn, h1, h2, h3, h4, k, hk, hk' => by
    simp only [blocks] at hn
    rw [List.nodup_append] at hn
    have := given_sep (ps := ps) (vs := vs) (i := i) (i' := i') (pk := pk) (pk' := pk') (v := u) (v' := u') hn.2.1 (by simpa using h1) (by simpa using h2) (by simpa using h3) (by simpa using h4) k hk hk'
    omega

/-- A function's environment. -/
def envOf (w : World) (ro : Nat → Prop) (ps : List PK) (vs : List Value) (nt : Nat) : Env := ⟨w, ro, blocks ps vs, nt, [], []⟩

theorem init_ok {ps : List PK} {x : Args ps} {vs : List Value} {nt : Nat} (hno : ps.all PK.noOut = true) (h : ArgsOk P w ro (fun k => k < w.heap.size ∧ k ∉ blocks ps vs) ps x vs) (hnd : (blocks ps vs).Nodup)
    (hnt : ps.length ≤ nt) (hB : nt ≤ B0) : Rel P (envOf w ro ps vs nt) (mkSt (parsSt 0 ps x)) { tmps := vs.toArray ++ Array.replicate (nt - vs.length) undef, defers := [] } w := by
  have hlen := args_len h
  obtain ⟨cs, hcs⟩ := pars_ok ps x vs 0 hno h
  have hin : ∀ q, q < ps.length → ∃ v pk, vs[q]? = some v ∧ ps[q]? = some pk ∧ ParOk P w ro (fun k => k < w.heap.size ∧ k ∉ blocks ps vs) pk v (mkSt (parsSt 0 ps x) q) (cs q) := by
    intro q hq
    have h1 : vs[q]? = some (vs[q]'(by omega)) := List.getElem?_eq_getElem (by omega)
    have h2 : ps[q]? = some ps[q] := List.getElem?_eq_getElem hq
    exact ⟨_, _, h1, h2, (hcs q).2 q _ _ h1 h2 (by omega)⟩
  have hout : ∀ q, ps.length ≤ q → mkSt (parsSt 0 ps x) q = Cont.none ∧ cs q = [] := fun q hq => (hcs q).1 (.inr (by omega))
  have hnl : ∀ b, ¬ live (mkSt (parsSt 0 ps x)) b := by
    rintro b ⟨h1, h2⟩
    rw [(hout b (by omega)).1] at h2
    cases h2
  let bs : Nat → Nat → List Nat := fun q _ => match ps[q]?, vs[q]? with
    | some pk, some v => pk.given v
    | _, _ => []
  have hbs : ∀ (q j : Nat) (pk : PK) (v : Value), ps[q]? = some pk → vs[q]? = some v → bs q j = pk.given v := by
    intro q j pk v h1 h2
    simp only [bs, h1, h2]
  have hown : ∀ (q j : Nat) (l : Leaf), (mkSt (parsSt 0 ps x) q).ls[j]? = some l → isOwn l → j = 0 ∧ ∃ pk v, ps[q]? = some pk ∧ vs[q]? = some v := by
    intro q j l h1 h2
    by_cases hq : q < ps.length
    · obtain ⟨v, pk, h3, h4, h5⟩ := hin q hq
      exact ⟨h5.own j l h1 h2, pk, v, h4, h3⟩
    · rw [(hout q (by omega)).1] at h1
      simp [Cont.none] at h1
  refine ⟨{ β := fun _ => 0, cs := cs, bs := bs, nw := fun _ => False }, ?_⟩
  exact {
    nt := by show (vs.toArray ++ Array.replicate (nt - vs.length) undef).size = nt; simp; omega
    df := rfl
    slots := fun t ht => by
      by_cases hq : t < ps.length
      · obtain ⟨v, pk, h3, h4, h5⟩ := hin t hq
        have : (vs.toArray ++ Array.replicate (nt - vs.length) undef).getD t undef = v := by
          rw [Array.getD_eq_getD_getElem?, Array.getElem?_append_left (by simp; omega)]
          simp [h3]
        show ShOk _ ((vs.toArray ++ Array.replicate (nt - vs.length) undef).getD t undef) _
        rw [this]
        exact h5.sh
      · obtain ⟨h1, h2⟩ := hout t (by omega)
        rw [h1]
        exact h2
    boxes := fun b hb => by
      have := (hout b (by omega)).1
      rw [this]
      exact .inl ⟨rfl, rfl⟩
    len := fun q => by
      by_cases hq : q < ps.length
      · obtain ⟨v, pk, h3, h4, h5⟩ := hin q hq
        exact h5.len
      · obtain ⟨h1, h2⟩ := hout q (by omega)
        rw [h1]
        show ([] : List Leaf).length = (cs q).length
        rw [h2]
        rfl
    one := fun q u hu => by
      by_cases hq : q < ps.length
      · obtain ⟨v, pk, h3, h4, h5⟩ := hin q hq
        exact h5.one u hu
      · have hu : u ∈ cs q := hu
        rw [(hout q (by omega)).2] at hu
        simp at hu
    leaf := fun q j l v hl hv => by
      by_cases hq : q < ps.length
      · obtain ⟨v', pk, h3, h4, h5⟩ := hin q hq
        have e := hbs q j pk v' h4 h3
        show LeafOk P _ _ _ w (bs q j) l v
        rw [e]
        exact h5.leaf (envOf w ro ps vs nt) _ _ rfl rfl rfl j l v hl hv
      · rw [(hout q (by omega)).1] at hl
        simp [Cont.none] at hl
    ownb := fun q j l hl ho k hk => by
      obtain ⟨_, pk, v, h3, h4⟩ := hown q j l hl ho
      have hk : k ∈ bs q j := hk
      rw [hbs q j pk v h3 h4] at hk
      exact ⟨id, fun hp => hp.2 (given_sub h3 h4 k hk), fun b hb => absurd hb (hnl b)⟩
    sep := fun q j l q' j' l' hl ho hl' ho' k hk hk' => by
      obtain ⟨e1, pk, v, h3, h4⟩ := hown q j l hl ho
      obtain ⟨e2, pk', v', h3', h4'⟩ := hown q' j' l' hl' ho'
      have hk : k ∈ bs q j := hk
      have hk' : k ∈ bs q' j' := hk'
      rw [hbs q j pk v h3 h4] at hk
      rw [hbs q' j' pk' v' h3' h4'] at hk'
      exact ⟨given_sep hnd h3 h4 h3' h4' k hk hk', by omega⟩
    box := fun b hb => absurd hb (hnl b)
    inj := fun b _ hb => absurd hb (hnl b)
    nwlt := fun k hk => hk.elim
    os := rfl, tape := rfl, output := rfl, size := Nat.le_refl _, keep := fun _ _ => rfl
    fixb := fun y hy => by cases hy
    fixt := fun y hy => by cases hy }

end
end Go.Proofs.YthgnfidnmnkeaaaGreatEv
