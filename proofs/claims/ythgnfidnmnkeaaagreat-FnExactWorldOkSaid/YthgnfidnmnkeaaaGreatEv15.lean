/- Closures that are handed over; all arguments. -/
import Derived.Test.YthgnfidnmnkeaaaGreatEv14
namespace Go.Proofs.YthgnfidnmnkeaaaGreatEv
open Go Go.RowKit

section
variable {P : Program} {V : Env} {Γ : List Ctr} {T : TypeId → TI} {st : St} {o : Oper} {R : Type} {κ : Upd → Option R} {r : R}

def XsOk (P : Program) (V : Env) (W : Wit) (st : St) (w : World) : List (Shape × List Leaf) → List Value → Prop
  | [], vs => vs = []
  | x :: xs, vs => ∃ v vs' cs, vs = v :: vs' ∧ ShOk x.1 v cs ∧ LsOk P V W st w x.2 cs ∧ XsOk P V W st w xs vs'

/-- What one argument's reading gives. -/
def GotOk (P : Program) (V : Env) (W : Wit) (st : St) (w : World) (pk : PK) (v : Value) (g : Got pk.den) : Prop :=
  ArgOk P w (reach V W g.p g.frz) (seen V W st g.frz) pk g.val v ∧ pk.given v = g.kill.flatMap (fun x => W.bs x.1 x.2) ∧ pk.lent v = [] ∧ (∀ z ∈ g.frz, OwnPlace st z) ∧ (∀ z ∈ g.kill, OwnPlace st z)

theorem getArgsBy_ok {W : Wit} {w : World} {ga : (pk : PK) → Shape × List Leaf → Option (Got pk.den)}
    (H : ∀ (pk : PK) (x : Shape × List Leaf) (v : Value) (cs : List Value) (g : Got pk.den), ShOk x.1 v cs → LsOk P V W st w x.2 cs → pk.noOut = true → ga pk x = some g → GotOk P V W st w pk v g) :
    ∀ (ps : List PK) (xs : List (Shape × List Leaf)) (vs : List Value) (g : Got (Args ps)), XsOk P V W st w xs vs → ps.all PK.noOut = true → getArgsBy ga ps xs = some g →
      ArgsOk P w (reach V W g.p g.frz) (seen V W st g.frz) ps g.val vs ∧ blocks ps vs = g.kill.flatMap (fun x => W.bs x.1 x.2) ∧ givens ps vs = g.kill.flatMap (fun x => W.bs x.1 x.2) ∧
        (∀ z ∈ g.frz, OwnPlace st z) ∧ (∀ z ∈ g.kill, OwnPlace st z)
  | [], [], vs, g, hx, _, hg => by
    simp only [getArgsBy, Option.some.injEq] at hg
    subst hg
    exact ⟨hx, rfl, rfl, by simp, by simp⟩
  | [], _ :: _, _, _, _, _, hg => by simp [getArgsBy] at hg
  | _ :: _, [], _, _, _, _, hg => by simp [getArgsBy] at hg
  | p :: ps, x :: xs, vs, g, hx, hno, hg => by
    obtain ⟨v, vs', cs, rfl, hs, hl, hrest⟩ := hx
    simp only [List.all_cons, Bool.and_eq_true] at hno
    simp only [getArgsBy] at hg
    split at hg
    · rename_i g1 hg1
      split at hg
      · rename_i g2 hg2
        simp only [Option.some.injEq] at hg
        subst hg
        obtain ⟨h1, h2, h3, h4, h5⟩ := H p x v cs g1 hs hl hno.1 hg1
        obtain ⟨h6, h7, h8, h9, h10⟩ := getArgsBy_ok H ps xs vs' g2 hrest hno.2 hg2
        refine ⟨⟨v, vs', rfl, h1.mono (reach_mono (by intro h; simp [h]) (fun x hx => List.mem_append_left _ hx)) (seen_mono fun x hx => List.mem_append_left _ hx),
          h6.mono (reach_mono (by intro h; simp [h]) (fun x hx => List.mem_append_right _ hx)) (seen_mono fun x hx => List.mem_append_right _ hx)⟩, ?_, ?_, ?_, ?_⟩
        · simp [blocks, h2, h3, h7]
        · simp [givens, h2, h8]
        · intro z hz
          rcases List.mem_append.1 hz with hz | hz
          · exact h4 z hz
          · exact h9 z hz
        · intro z hz
          rcases List.mem_append.1 hz with hz | hz
          · exact h5 z hz
          · exact h10 z hz
      · cases hg
    · cases hg

theorem findC_mem : ∀ {Γ : List Ctr} {f : FuncId} {c : Ctr}, findC Γ f = some c → c ∈ Γ ∧ c.f = f
  | [], _, _, h => by simp [findC] at h
  | c' :: Γ, f, c, h => by
    simp only [findC] at h
    cases hb : Nat.beq c'.f f with
    | true =>
      simp only [hb, cond_true, Option.some.injEq] at h
      subst h
      exact ⟨List.mem_cons_self .., Nat.eq_of_beq_eq_true hb⟩
    | false =>
      simp only [hb, cond_false] at h
      obtain ⟨h1, h2⟩ := findC_mem h
      exact ⟨List.mem_cons_of_mem _ h1, h2⟩

theorem lv_rd {w : World} {G : Nat → Prop} {p : Bool} : ∀ (a : Ty) (x : a.den) (cs : List Value) (bsd : Nat → List Nat), cs.length = a.cells →
    (∀ (j : Nat) (l : Leaf) (u : Value), (leaves false p a x)[j]? = some l → cs[j]? = some u → LvOk w G p (bsd j) l u) → Rd w G a x cs
  | .int k, x, cs, bsd, hl, h => by
    match cs, hl with
    | [u], _ => rw [show u = _ from h 0 _ u rfl rfl]; rfl
  | .bool, x, cs, bsd, hl, h => by
    match cs, hl with
    | [u], _ => rw [show u = _ from h 0 _ u rfl rfl]; rfl
  | .str, x, cs, bsd, hl, h => by
    match cs, hl with
    | [u], _ => rw [show u = _ from h 0 _ u rfl rfl]; rfl
  | .unit, x, cs, bsd, hl, h => List.eq_nil_of_length_eq_zero hl
  | .pair a b, x, cs, bsd, hl, h => by
    have hl : cs.length = a.cells + b.cells := hl
    have hla := leaves_length false p a x.1
    refine ⟨cs.take a.cells, cs.drop a.cells, (List.take_append_drop _ _).symm, lv_rd (p := p) a x.1 _ bsd (by simp; omega) ?_, lv_rd (p := p) b x.2 _ (fun j => bsd (a.cells + j)) (by simp; omega) ?_⟩
    · intro j l u h1 h2
      have hj : j < a.cells := by rw [← hla]; exact (List.getElem?_eq_some_iff.1 h1).1
      rw [List.getElem?_take, if_pos hj] at h2
      exact h j l u (by simp only [leaves]; rw [List.getElem?_append_left (by omega)]; exact h1) h2
    · intro j l u h1 h2
      rw [List.getElem?_drop] at h2
      refine h (a.cells + j) l u ?_ h2
      simp only [leaves]
      rw [List.getElem?_append_right (by omega), hla, Nat.add_sub_cancel_left]
      exact h1
  | .list E e, x, cs, bsd, hl, h => by
    match cs, hl with
    | [u], _ => exact (h 0 _ u rfl rfl).2

theorem tup_args {w : World} {G pr : Nat → Prop} {q : List PK} {z : Args q} {cv : List Value} (hz : ArgsOk P w G pr q z cv) : ∀ (As : List Ty) (x : Tup As) (args : List Value), TupOk w G As x args →
    ArgsOk P w G pr (As.map .rd ++ q) (tupArgs q z As x) (args ++ cv)
  | [], _, _, h => by rw [show _ = _ from h]; exact hz
  | a :: As, x, _, ⟨v, c, vs', rfl, h1, h2, h3⟩ => ⟨v, vs' ++ cv, rfl, ⟨c, h1, h2⟩, tup_args hz As x.2 vs' h3⟩

theorem blocks_reads : ∀ (ps : List PK) (vs : List Value), ps.all PK.reads = true → blocks ps vs = []
  | [], _, _ => by simp [blocks]
  | _ :: _, [], _ => by simp [blocks]
  | p :: ps, v :: vs, h => by
    simp only [List.all_cons, Bool.and_eq_true] at h
    simp only [blocks, blocks_reads ps vs h.2, List.append_nil]
    cases p <;> simp [PK.reads] at h <;> rfl

theorem args_carry {w w1 : World} {ro pr ro' pr' : Nat → Prop} (hro : ∀ k, ro k → ro' k ∧ w1.heap[k]? = w.heap[k]?) (hpr : ∀ k, pr k → pr' k ∧ w1.heap[k]? = w.heap[k]?) : ∀ {ps : List PK} {x : Args ps} {vs : List Value},
    ps.all PK.reads = true → ArgsOk P w ro pr ps x vs → ArgsOk P w1 ro' pr' ps x vs
  | [], _, _, _, h => h
  | p :: ps, x, _, hr, ⟨v, vs', e, h1, h2⟩ => by
    simp only [List.all_cons, Bool.and_eq_true] at hr
    refine ⟨v, vs', e, ?_, args_carry hro hpr hr.2 h2⟩
    cases p with
    | rd a =>
      obtain ⟨cs, h3, h4⟩ := h1
      exact ⟨cs, h3, h4.carry (fun k hk => (hro k hk).1) (fun k hk => (hro k hk).2)⟩
    | rref a =>
      obtain ⟨g, o, c, h3, h4, h5, h6⟩ := h1
      exact ⟨g, o, c, h3, (hpr g h4).1, h5.carry (fun k hk => (hro k hk).1) (fun k hk => (hro k hk).2), h6.same (hpr g h4).2⟩
    | rref2 a =>
      obtain ⟨b, ob, g, o, c, h3, h4, h5, h6, h7, h8⟩ := h1
      exact ⟨b, ob, g, o, c, h3, (hpr b h4).1, by rw [cell_same (hpr b h4).2]; exact h5, (hpr g h6).1, h7.carry (fun k hk => (hro k hk).1) (fun k hk => (hro k hk).2), h8.same (hpr g h6).2⟩
    | _ => simp [PK.reads] at hr

theorem reach_seen (hV : EnvOk V) {W : Wit} {p : Bool} {ks : List (Nat × Nat)} : ∀ k, reach V W p ks k → seen V W st ks k := by
  rintro k ((hk | ⟨_, hk⟩) | hk)
  · exact .inl hk
  · exact .inr (.inl (hV.ro k hk))
  · exact .inr (.inr (.inr hk))

theorem seen_used {W : Wit} {ks : List (Nat × Nat)} (hks : ∀ z ∈ ks, OwnPlace st z) : ∀ k, seen V W st ks k → used V W st k := by
  rintro k (hk | hk | hk | ⟨x, hx, hk⟩)
  · exact .inl hk
  · exact .inr (.inl hk)
  · exact .inr (.inr (.inl hk))
  · obtain ⟨l, h1, h2⟩ := hks x hx
    exact .inr (.inr (.inr ⟨x.1, x.2, l, h1, h2, hk⟩))

theorem xs_caps {W : Wit} {w : World} : ∀ (caps : List Nat), (∀ b ∈ caps, B0 ≤ b ∧ (st b).sh = .agg) →
    XsOk P V W st w (caps.map fun b => (Shape.one, [Leaf.bp b 0])) (caps.map fun b => Value.pointer (some ⟨W.β b, 0, none⟩))
  | [], _ => rfl
  | b :: caps, h => ⟨_, _, [.pointer (some ⟨W.β b, 0, none⟩)], rfl, rfl, ⟨⟨⟨(h b (List.mem_cons_self ..)).1, (h b (List.mem_cons_self ..)).2, rfl⟩, id, rfl⟩, trivial⟩,
      xs_caps caps (fun q hq => h q (List.mem_cons_of_mem _ hq))⟩

theorem reads_noOut {ps : List PK} (h : ps.all PK.reads = true) : ps.all PK.noOut = true := by
  rw [List.all_eq_true] at h ⊢
  intro p hp
  have := h p hp
  cases p <;> simp [PK.reads] at this <;> rfl

theorem getArg_got (hV : EnvOk V) {W : Wit} {a : Act} {w : World} (h : RelAt P V W st a w) (pk : PK) (x : Shape × List Leaf) (v : Value) (cs : List Value) (g : Got pk.den) (hs : ShOk x.1 v cs) (hl : LsOk P V W st w x.2 cs) (hno : pk.noOut = true)
    (hg : getArg st pk x = some g) : GotOk P V W st w pk v g := getArg_ok hV h hs hl hno hg

/-- A closure is the function that its contract tells. -/
theorem clo_ok (hV : EnvOk V) (hΓ : ∀ c ∈ Γ, Sound P c) {W : Wit} {a : Act} {w : World} (h : RelAt P V W st a w) {As : List Ty} {B : Ty} {f : FuncId} {caps : List Nat} {v : Value} (hl : LeafOk P V W st w [] (.clo f caps) v)
    {g : Got (Tup As → Option B.den)} (hg : cloFn Γ st As B f caps = some g) : FnOk P w (seen V W st g.frz) As B g.val v ∧ (∀ z ∈ g.frz, OwnPlace st z) ∧ g.kill = [] := by
  unfold cloFn at hg
  split at hg
  · rename_i c hc
    obtain ⟨hmem, rfl⟩ := findC_mem hc
    obtain ⟨hent, hsound⟩ := hΓ c hmem
    obtain ⟨f', ps, rs, fresh, den⟩ := c
    simp only at hg hent hsound hl
    generalize ps.drop As.length = q at hg
    unfold cloGo at hg
    split at hg
    · rename_i hh
      obtain ⟨rfl, rfl⟩ := hh
      cases hb : q.all PK.reads && B.flat && fresh with
      | false => simp [hb] at hg
      | true =>
        simp only [hb, cond_true] at hg
        simp only [Bool.and_eq_true] at hb
        obtain ⟨⟨hb1, hb2⟩, hb3⟩ := hb
        subst hb3
        split at hg
        · rename_i g0 hg0
          simp only [Option.some.injEq] at hg
          subst hg
          obtain ⟨hv, hcaps⟩ := hl
          obtain ⟨h1, h2, h3, h4, h5⟩ := getArgsBy_ok (getArg_got hV h) q _ _ g0 (xs_caps caps hcaps) (reads_noOut hb1) hg0
          refine ⟨⟨f', _, hv, hent, fun w1 hsz hsame x args y hx hy => ?_⟩, h4, rfl⟩
          simp only [Option.map_eq_some_iff] at hy
          obtain ⟨y0, hy0, rfl⟩ := hy
          have hb0 : ∀ vs, blocks (As.map .rd ++ q) vs = [] := fun vs => blocks_reads _ vs (by
            rw [List.all_append, hb1, Bool.and_true, List.all_eq_true]
            intro p hp
            obtain ⟨a', _, rfl⟩ := List.mem_map.1 hp
            rfl)
          have hlt : ∀ k, seen V W st g0.frz k → k < w1.heap.size := fun k hk => Nat.lt_of_lt_of_le (h.used_lt k (seen_used h4 k hk)) hsz
          have hargs := tup_args (P := P) (pr := fun k => k < w1.heap.size ∧ k ∉ blocks (As.map .rd ++ q) (args ++ caps.map fun b => Value.pointer (some ⟨W.β b, 0, none⟩)))
            (args_carry (P := P) (w1 := w1) (ro' := fun k => k < w1.heap.size) (fun k hk => ⟨hlt k (reach_seen hV k hk), hsame k (reach_seen hV k hk)⟩)
              (fun k hk => ⟨⟨hlt k hk, by rw [hb0]; simp⟩, hsame k hk⟩) hb1 h1) As x args hx
          have hcalls := hsound w1 (fun k => k < w1.heap.size) (tupArgs q g0.val As x) (args ++ caps.map fun b => Value.pointer (some ⟨W.β b, 0, none⟩)) y0 hargs
            (fun k hk => ⟨hk, by rw [hb0]; simp⟩) (by rw [hb0]; exact List.nodup_nil) hy0
          have hargv : args.toArray ++ (caps.map fun b => Value.pointer (some ⟨W.β b, 0, none⟩)).toArray = (args ++ caps.map fun b => Value.pointer (some ⟨W.β b, 0, none⟩)).toArray := by simp
          rw [hargv]
          refine hcalls.mono fun e w2 hpost => ?_
          obtain ⟨u, N, rfl, hsz2, hos, htp, hou, hfr, _, _, hres⟩ := hpost
          obtain ⟨cs, bsd, hs1, hs2, hs3, hs4, _, _⟩ := hres.vals rfl
          refine ⟨u, cs, rfl, valOk_of hs1, ?_, ⟨hos, htp, hou, hsz2, fun k hk => hfr k hk (by rw [hb0]; simp)⟩⟩
          refine Rd.flat (G := fun k => N k ∨ (true = false ∧ k < w1.heap.size)) (w := w2) hb2 (lv_rd (p := false) B y0.1.1 cs bsd ?_ (fun j l u hj hu => hs4 false j l u hj hu))
          have := hs3 false
          rw [← this]
          exact (leaves_length false false B y0.1.1)
        · cases hg
    · cases hg
  · cases hg

theorem getArgF_got (hV : EnvOk V) (hΓ : ∀ c ∈ Γ, Sound P c) {W : Wit} {a : Act} {w : World} (h : RelAt P V W st a w) (pk : PK) (x : Shape × List Leaf) (v : Value) (cs : List Value) (g : Got pk.den) (hs : ShOk x.1 v cs) (hl : LsOk P V W st w x.2 cs) (hno : pk.noOut = true)
    (hg : getArgF Γ st pk x = some g) : GotOk P V W st w pk v g := by
  cases pk with
  | fn As B =>
    simp only [getArgF] at hg
    split at hg
    · rename_i fc hfc
      have hx : oneLeaf x = .clo fc.1 fc.2 := by
        generalize oneLeaf x = l at hfc
        cases l <;> simp [cloOf] at hfc
        subst hfc
        rfl
      obtain ⟨hl1, _⟩ := one_arg hs hl hx (by simp)
      obtain ⟨h1, h2, h3⟩ := clo_ok hV hΓ h hl1 hg
      exact ⟨h1, by rw [h3]; rfl, rfl, h2, by rw [h3]; simp⟩
    · exact getArg_ok hV h hs hl hno hg
  | io E e => cases hno
  | iop b => cases hno
  | _ => exact getArg_ok hV h hs hl hno hg

end
end Go.Proofs.YthgnfidnmnkeaaaGreatEv
