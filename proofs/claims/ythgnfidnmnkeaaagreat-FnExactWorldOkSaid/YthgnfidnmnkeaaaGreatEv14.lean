/- What a contract says; the arguments of a call. -/
import Derived.Test.YthgnfidnmnkeaaaGreatEv13
namespace Go.Proofs.YthgnfidnmnkeaaaGreatEv
open Go Go.RowKit

/-! ### What a contract says -/
def ArgOk (P : Program) (w : World) (ro pr : Nat → Prop) : (pk : PK) → pk.den → Value → Prop
  | .rd a, x, v => ∃ cs, ValOk a.isAgg v cs ∧ Rd w ro a x cs
  | .own E e, x, v => Ow w ro E e x v v.ownBlock.toList
  | .io E e, x, v => Ow w ro E e x v v.ownBlock.toList
  | .rref a, x, v => ∃ g o c, v = .pointer (some ⟨g, o, none⟩) ∧ pr g ∧ Rd w ro a x c ∧ Cells w g o c
  | .rref2 a, x, v => ∃ b ob g o c, v = .pointer (some ⟨b, ob, none⟩) ∧ pr b ∧ w.cell? ⟨b, ob, none⟩ = some (.pointer (some ⟨g, o, none⟩)) ∧ pr g ∧ Rd w ro a x c ∧ Cells w g o c
  | .iop a, x, v => ∃ g c E, v = .pointer (some ⟨g, 0, none⟩) ∧ w.heap[g]? = some (.cells c.toArray E (0, 0)) ∧ Rd w ro a x c
  | .fn As B, φ, v => FnOk P w pr As B φ v

def ArgsOk (P : Program) (w : World) (ro pr : Nat → Prop) : (ps : List PK) → Args ps → List Value → Prop
  | [], _, vs => vs = []
  | p :: ps, x, vs => ∃ v vs', vs = v :: vs' ∧ ArgOk P w ro pr p x.1 v ∧ ArgsOk P w ro pr ps x.2 vs'

def PK.given : PK → Value → List Nat
  | .own _ _, v => v.ownBlock.toList
  | _, _ => []

def PK.lent : PK → Value → List Nat
  | .io _ _, v => v.ownBlock.toList
  | .iop _, .pointer (some a) => [a.block]
  | _, _ => []

def givens : (ps : List PK) → List Value → List Nat
  | p :: ps, v :: vs => p.given v ++ givens ps vs
  | _, _ => []

def blocks : (ps : List PK) → List Value → List Nat
  | p :: ps, v :: vs => p.given v ++ p.lent v ++ blocks ps vs
  | _, _ => []

def PK.noOut : PK → Bool
  | .io _ _ | .iop _ => false
  | _ => true

def LvOk (w : World) (G : Nat → Prop) (p : Bool) (bs : List Nat) : Leaf → Value → Prop
  | .int k n, v => v = .int k n
  | .bool b, v => v = .bool b
  | .str s, v => v = .string s
  | .ro q E e xs, v => q = p ∧ Rd w G (.list E e) xs [v]
  | .own q E e xs, v => q = p ∧ Ow w G E e xs v bs
  | _, _ => False

/-- The results' leaves. -/
def rsLs (p : Bool) : (rs : List RK) → Ress rs → List (Bool × List Leaf)
  | [], _ => []
  | .v ow a :: rs, y => (a.isAgg, leaves ow p a y.1) :: rsLs p rs y.2
  | .box _ :: rs, y => (false, []) :: rsLs p rs y.2

def OutsOk (w : World) (G : Nat → Prop) : (ps : List PK) → Outs ps → List Value → Prop
  | .io E e :: ps, o, v :: vs => Ow w G E e o.1 v v.ownBlock.toList ∧ OutsOk w G ps o.2 vs
  | .iop a :: ps, o, v :: vs => (∃ g c E, v = .pointer (some ⟨g, 0, none⟩) ∧ w.heap[g]? = some (.cells c.toArray E (0, 0)) ∧ Rd w G a o.1 c) ∧ OutsOk w G ps o.2 vs
  | .rd _ :: ps, o, _ :: vs => OutsOk w G ps o vs
  | .own _ _ :: ps, o, _ :: vs => OutsOk w G ps o vs
  | .rref _ :: ps, o, _ :: vs => OutsOk w G ps o vs
  | .rref2 _ :: ps, o, _ :: vs => OutsOk w G ps o vs
  | .fn _ _ :: ps, o, _ :: vs => OutsOk w G ps o vs
  | _, _, _ => True

structure ResPost (w' : World) (G N Fr : Nat → Prop) (base : Nat) (rs : List RK) (y : Ress rs) (v : Value) : Prop where
  vals : rs.all RK.isV = true → ∃ (cs : List Value) (bsd : Nat → List Nat), ShOk (resCont 0 (rsLs false rs y)).sh v cs ∧ (∀ u ∈ cs, u.oneCell' = true) ∧
    (∀ p, (resCont 0 (rsLs p rs y)).ls.length = cs.length) ∧
    (∀ (p : Bool) (j : Nat) (l : Leaf) (u : Value), (resCont 0 (rsLs p rs y)).ls[j]? = some l → cs[j]? = some u → LvOk w' G p (bsd j) l u) ∧
    (∀ (p : Bool) (j : Nat) (l : Leaf), (resCont 0 (rsLs p rs y)).ls[j]? = some l → isOwn l → ∀ k ∈ bsd j, Fr k ∧ ¬ N k) ∧
    (∀ (p : Bool) (j j' : Nat) (l l' : Leaf), (resCont 0 (rsLs p rs y)).ls[j]? = some l → isOwn l → (resCont 0 (rsLs p rs y)).ls[j']? = some l' → isOwn l' → ∀ k, k ∈ bsd j → k ∈ bsd j' → j = j')
  box : ∀ (a : Ty) (h : rs = [.box a]), ∃ g cs E, v = .pointer (some ⟨g, 0, none⟩) ∧ w'.heap[g]? = some (.cells cs.toArray E (0, 0)) ∧ Rd w' G a (h ▸ y : Ress [.box a]).1 cs ∧ Fr g ∧ ¬ N g

def Fresh (w w' : World) (gs : List Nat) (k : Nat) : Prop := k < w'.heap.size ∧ (w.heap.size ≤ k ∨ k ∈ gs)

def Post (c : Ctr) (w : World) (ro : Nat → Prop) (vs : List Value) (y : Ress c.rs × Outs c.ps) (e : Ending) (w' : World) : Prop :=
  ∃ v N, e = .returned v ∧ w.heap.size ≤ w'.heap.size ∧ w'.os = w.os ∧ w'.tape = w.tape ∧ w'.output = w.output ∧
    (∀ k, k < w.heap.size → k ∉ blocks c.ps vs → w'.heap[k]? = w.heap[k]?) ∧ (∀ k, N k → Fresh w w' (givens c.ps vs) k) ∧
    OutsOk w' (fun k => N k ∨ (c.fresh = false ∧ ro k)) c.ps y.2 vs ∧
    ResPost w' (fun k => N k ∨ (c.fresh = false ∧ ro k)) N (Fresh w w' (givens c.ps vs)) w.heap.size c.rs y.1 v

def Sound (P : Program) (c : Ctr) : Prop :=
  EnterOk P c.f ∧ ∀ (w : World) (ro : Nat → Prop) (x : Args c.ps) (vs : List Value) (y : Ress c.rs × Outs c.ps),
    ArgsOk P w ro (fun k => k < w.heap.size ∧ k ∉ blocks c.ps vs) c.ps x vs → (∀ k, ro k → k < w.heap.size ∧ k ∉ blocks c.ps vs) → (blocks c.ps vs).Nodup → c.den x = some y →
    Calls P c.f vs.toArray w (Post c w ro vs y)

section
variable {P : Program} {V : Env} {Γ : List Ctr} {T : TypeId → TI} {st : St} {o : Oper} {R : Type} {κ : Upd → Option R} {r : R}

theorem FnOk.mono {w0 : World} {S S' : Nat → Prop} (hS : ∀ k, S k → S' k) {As : List Ty} {B : Ty} {φ : Tup As → Option B.den} {v : Value} (h : FnOk P w0 S As B φ v) : FnOk P w0 S' As B φ v := by
  obtain ⟨f, caps, e, he, hc⟩ := h
  exact ⟨f, caps, e, he, fun w1 hs hk => hc w1 hs (fun k hk' => hk k (hS k hk'))⟩

theorem FnOk.move {w0 w : World} {S S' : Nat → Prop} (hsz : w0.heap.size ≤ w.heap.size) (hS : ∀ k, S k → S' k ∧ w.heap[k]? = w0.heap[k]?) {As : List Ty} {B : Ty} {φ : Tup As → Option B.den} {v : Value}
    (h : FnOk P w0 S As B φ v) : FnOk P w S' As B φ v := by
  obtain ⟨f, caps, e, he, hc⟩ := h
  exact ⟨f, caps, e, he, fun w1 hs hk => hc w1 (Nat.le_trans hsz hs) (fun k hk' => (hk k (hS k hk').1).trans (hS k hk').2)⟩

theorem ArgOk.mono {w : World} {ro ro' pr pr' : Nat → Prop} (hro : ∀ k, ro k → ro' k) (hpr : ∀ k, pr k → pr' k) : ∀ {pk : PK} {x : pk.den} {v : Value}, ArgOk P w ro pr pk x v → ArgOk P w ro' pr' pk x v
  | .rd _, _, _, ⟨cs, h1, h2⟩ => ⟨cs, h1, h2.mono hro⟩
  | .own _ _, _, _, h => Ow.carry h hro (fun _ _ => rfl) (fun _ _ => rfl)
  | .io _ _, _, _, h => Ow.carry h hro (fun _ _ => rfl) (fun _ _ => rfl)
  | .rref _, _, _, ⟨g, o, c, h1, h2, h3, h4⟩ => ⟨g, o, c, h1, hpr g h2, h3.mono hro, h4⟩
  | .rref2 _, _, _, ⟨b, ob, g, o, c, h1, h2, h3, h4, h5, h6⟩ => ⟨b, ob, g, o, c, h1, hpr b h2, h3, hpr g h4, h5.mono hro, h6⟩
  | .iop _, _, _, ⟨g, c, E, h1, h2, h3⟩ => ⟨g, c, E, h1, h2, h3.mono hro⟩
  | .fn _ _, _, _, h => FnOk.mono hpr h

theorem ArgsOk.mono {w : World} {ro ro' pr pr' : Nat → Prop} (hro : ∀ k, ro k → ro' k) (hpr : ∀ k, pr k → pr' k) : ∀ {ps : List PK} {x : Args ps} {vs : List Value}, ArgsOk P w ro pr ps x vs → ArgsOk P w ro' pr' ps x vs
  | [], _, _, h => h
  | _ :: _, _, _, ⟨v, vs', e, h1, h2⟩ => ⟨v, vs', e, h1.mono hro hpr, ArgsOk.mono hro hpr h2⟩

/-- What a call may look at. -/
def seen (V : Env) (W : Wit) (st : St) (ks : List (Nat × Nat)) (k : Nat) : Prop := W.nw k ∨ V.prot k ∨ (∃ b, live st b ∧ W.β b = k) ∨ ∃ x ∈ ks, k ∈ W.bs x.1 x.2

theorem seen_mono {W : Wit} {k1 k2 : List (Nat × Nat)} (h : ∀ x ∈ k1, x ∈ k2) : ∀ k, seen V W st k1 k → seen V W st k2 k := by
  rintro k (hk | hk | hk | ⟨x, hx, hk⟩)
  · exact .inl hk
  · exact .inr (.inl hk)
  · exact .inr (.inr (.inl hk))
  · exact .inr (.inr (.inr ⟨x, h x hx, hk⟩))

theorem reach_mono {W : Wit} {p q : Bool} {k1 k2 : List (Nat × Nat)} (hp : p = true → q = true) (h : ∀ x ∈ k1, x ∈ k2) : ∀ k, reach V W p k1 k → reach V W q k2 k := by
  rintro k (hk | ⟨x, hx, hk⟩)
  · exact .inl (gd_mono (W' := W) hp (fun _ h => h) k hk)
  · exact .inr ⟨x, h x hx, hk⟩

theorem valOk_of {agg : Bool} {v : Value} {cs : List Value} (h : ShOk (shOf agg) v cs) : ValOk agg v cs := by
  cases agg <;> exact h

def OwnPlace (st : St) (x : Nat × Nat) : Prop := ∃ l, (st x.1).ls[x.2]? = some l ∧ isOwn l

theorem owned_place {W : Wit} {a : Act} {w : World} (h : RelAt P V W st a w) {x : Nat × Nat} {ls : List Leaf} (hx : x ∈ owned st ls) : OwnPlace st x := buildEls_ok.owned_own h hx

theorem target_ok {W : Wit} {a : Act} {w : World} (h : RelAt P V W st a w) {l : Leaf} {ls : List Leaf} {v : Value} (hl : LeafOk P V W st w [] l v) (ht : target st l = some ls) (ks : List (Nat × Nat)) :
    ∃ g o cs, v = .pointer (some ⟨g, o, none⟩) ∧ seen V W st ks g ∧ LsOk P V W st w ls cs ∧ Cells w g o cs := by
  unfold target at ht
  split at ht
  · rename_i b
    cases hb : decide ((st b).sh = .agg) with
    | false => simp [hb] at ht
    | true =>
      simp only [hb, cond_true, Option.some.injEq] at ht
      subst ht
      obtain ⟨hB, hag, hv⟩ := hl
      rcases h.boxes b hB with ⟨h8, _⟩ | ⟨_, E, h8⟩
      · rw [hag] at h8; cases h8
      · exact ⟨W.β b, 0, W.cs b, hv, .inr (.inr (.inl ⟨b, ⟨hB, hag⟩, rfl⟩)), view_ok h b, fun i v hv => by
          rw [Nat.zero_add, cell_of_row w (W.β b) i _ E (0, 0) h8]
          simpa using hv⟩
  · rename_i p a x
    simp only [Option.some.injEq] at ht
    subst ht
    obtain ⟨g, o', c, hv, hg, hrd, hc⟩ := hl
    rw [Nat.add_zero] at hv
    exact ⟨g, o', c, hv, hg.elim .inl (fun h => .inr (.inl h)), leaves_ok (fun _ h => h) hrd, hc⟩
  · rename_i p a x
    simp only [Option.some.injEq] at ht
    subst ht
    obtain ⟨b, ob, g, o', c, hv, hb, hcell, hg, hrd, hc⟩ := hl
    refine ⟨b, ob, [.pointer (some ⟨g, o', none⟩)], hv, hb.elim .inl (fun h => .inr (.inl h)), ⟨⟨⟨g, o', c, rfl, hg, hrd, hc⟩, id, rfl⟩, trivial⟩, fun i u hi => ?_⟩
    cases i with
    | zero => simp at hi; subst hi; exact hcell
    | succ i => simp at hi
  · cases ht

theorem one_arg {W : Wit} {w : World} {x : Shape × List Leaf} {l : Leaf} {v : Value} {cs : List Value} (hs : ShOk x.1 v cs) (hl : LsOk P V W st w x.2 cs) (hx : oneLeaf x = l) (hd : l ≠ .dead) :
    LeafOk P V W st w [] l v ∧ v.oneCell' = true := by
  unfold oneLeaf at hx
  split at hx
  · rename_i l'
    subst hx
    have hs : cs = [v] := hs
    subst hs
    exact ⟨hl.1.1, hl.1.2.2⟩
  · exact absurd hx.symm hd

theorem getArg_ok (hV : EnvOk V) {W : Wit} {a : Act} {w : World} (h : RelAt P V W st a w) {pk : PK} {x : Shape × List Leaf} {v : Value} {cs : List Value} (hs : ShOk x.1 v cs) (hl : LsOk P V W st w x.2 cs) (hno : pk.noOut = true)
    {g : Got pk.den} (hg : getArg st pk x = some g) : ArgOk P w (reach V W g.p g.frz) (seen V W st g.frz) pk g.val v ∧ pk.given v = g.kill.flatMap (fun x => W.bs x.1 x.2) ∧ pk.lent v = [] ∧
      (∀ z ∈ g.frz, OwnPlace st z) ∧ (∀ z ∈ g.kill, OwnPlace st z) := by
  obtain ⟨sh, ls⟩ := x
  cases pk with
  | rd b =>
    simp only [getArg] at hg
    cases hb : decide (sh = shOf b.isAgg) with
    | false => simp [hb] at hg
    | true =>
      have hb := of_decide_eq_true hb
      subst hb
      simp only [decide_true, cond_true, Option.map_eq_some_iff] at hg
      obtain ⟨⟨p, y⟩, hy, rfl⟩ := hg
      exact ⟨⟨cs, valOk_of hs, gatherAll_ok h hl hy⟩, rfl, rfl, fun z hz => owned_place h hz, by simp⟩
  | own E e =>
    simp only [getArg] at hg
    split at hg
    · rename_i r1 j1 n1 hx
      obtain ⟨hl1, hv⟩ := one_arg hs hl hx (by simp)
      split at hg
      · rename_i p E' e' xs hd
        simp only [Option.map_eq_some_iff] at hg
        obtain ⟨ys, hc, rfl⟩ := hg
        obtain ⟨rfl, rfl, rfl⟩ := castList_some hc
        obtain ⟨h1, h2, h3, h4⟩ := al_own h hd hl1
        have hbs : W.bs r1 j1 = v.ownBlock.toList := by obtain ⟨_, _, h5, _⟩ := h2; exact h5
        rw [hbs] at h2
        exact ⟨Ow.carry h2 (fun k hk => .inl hk) (fun _ _ => rfl) (fun _ _ => rfl), by simp [PK.given, hbs], rfl, by simp, fun z hz => by simp at hz; subst hz; exact ⟨_, h3, trivial⟩⟩
      · cases hg
    · rename_i hx
      obtain ⟨hl1, hv⟩ := one_arg hs hl hx (by simp)
      simp only [Option.some.injEq] at hg
      subst hg
      have hv : v = .slice none 0 0 := hl1
      subst hv
      exact ⟨Ow.nil w _ E e, rfl, rfl, by simp, by simp⟩
    · cases hg
  | io E e => cases hno
  | iop b => cases hno
  | rref b =>
    simp only [getArg] at hg
    split at hg
    · rename_i ls' ht
      obtain ⟨hl1, hv⟩ := one_arg hs hl rfl (by intro e; rw [e] at ht; simp [target] at ht)
      simp only [Option.map_eq_some_iff] at hg
      obtain ⟨⟨p, y⟩, hy, rfl⟩ := hg
      obtain ⟨g, o', cs, hv, hg, hls, hc⟩ := target_ok h hl1 ht (owned st ls')
      exact ⟨⟨g, o', cs, hv, hg, gatherAll_ok h hls hy, hc⟩, rfl, rfl, fun z hz => owned_place h hz, by simp⟩
    · cases hg
  | rref2 b =>
    simp only [getArg] at hg
    split at hg
    · rename_i l' ht
      obtain ⟨hl1, hv⟩ := one_arg hs hl rfl (by intro e; rw [e] at ht; simp [target] at ht)
      split at hg
      · rename_i ls' ht'
        simp only [Option.map_eq_some_iff] at hg
        obtain ⟨⟨p, y⟩, hy, rfl⟩ := hg
        obtain ⟨g, o', cs, hv, hg, hls, hc⟩ := target_ok h hl1 ht (owned st ls')
        match cs, hls with
        | [u], hls =>
          obtain ⟨g2, o2, cs2, hv2, hg2, hls2, hc2⟩ := target_ok h hls.1.1 ht' (owned st ls')
          have hcell := hc 0 u rfl
          rw [Nat.add_zero, hv2] at hcell
          exact ⟨⟨g, o', g2, o2, cs2, hv, hg, hcell, hg2, gatherAll_ok h hls2 hy, hc2⟩, rfl, rfl, fun z hz => owned_place h hz, by simp⟩
      · cases hg
    · cases hg
  | fn As B =>
    simp only [getArg] at hg
    split at hg
    · rename_i As' B' φ hx
      obtain ⟨hl1, hv⟩ := one_arg hs hl hx (by simp)
      split at hg
      · rename_i hh
        obtain ⟨rfl, rfl⟩ := hh
        simp only [Option.some.injEq] at hg
        subst hg
        have hf : FnOk P V.w0 V.prot As' B' φ v := hl1
        exact ⟨FnOk.move h.size (fun k hk => ⟨.inr (.inl hk), h.keep k hk⟩) hf, rfl, rfl, by simp, by simp⟩
      · cases hg
    · cases hg

end
end Go.Proofs.YthgnfidnmnkeaaaGreatEv
