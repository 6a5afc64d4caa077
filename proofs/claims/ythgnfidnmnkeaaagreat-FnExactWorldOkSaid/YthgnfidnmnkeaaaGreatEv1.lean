/- What a plain value means in memory: reading, owning; the relation between the evaluator's state and the machine's. -/
import Derived.Test.YthgnfidnmnkeaaaGreatEv0
import Derived.Below
import Derived.Maps.AppendAt
import Derived.Laws.OwnMore
namespace Go.Proofs.YthgnfidnmnkeaaaGreatEv
open Go Go.RowKit

/-! ### Cells that stand in memory -/
def Cells (w : World) (g off : Nat) (cs : List Value) : Prop := ∀ i v, cs[i]? = some v → w.cell? ⟨g, off + i, none⟩ = some v

theorem Cells.same {w w' : World} {g off : Nat} {cs : List Value} (h : Cells w g off cs) (hg : w'.heap[g]? = w.heap[g]?) : Cells w' g off cs := by
  intro i v hv
  have := h i v hv
  simpa [World.cell?, hg] using this

def Rd (w : World) (G : Nat → Prop) : (a : Ty) → a.den → List Value → Prop
  | .int k, n, cs => cs = [.int k n]
  | .bool, b, cs => cs = [.bool b]
  | .str, s, cs => cs = [.string s]
  | .unit, _, cs => cs = []
  | .pair a b, x, cs => ∃ c1 c2, cs = c1 ++ c2 ∧ Rd w G a x.1 c1 ∧ Rd w G b x.2 c2
  | .list _ e, xs, cs => ∃ A cap, cs = [.slice A xs.length cap] ∧ xs.length ≤ cap ∧
      (0 < xs.length → ∃ g o, A = some ⟨g, o, none⟩ ∧ G g ∧ ∀ j (x : e.den), xs[j]? = some x → ∃ c, Rd w G e x c ∧ Cells w g (o + j * e.cells) c)

theorem Rd.carry {w w' : World} {G G' : Nat → Prop} (hG : ∀ k, G k → G' k) (hw : ∀ k, G k → w'.heap[k]? = w.heap[k]?) :
    ∀ {a : Ty} {x : a.den} {cs : List Value}, Rd w G a x cs → Rd w' G' a x cs
  | .int _, _, _, h => h
  | .bool, _, _, h => h
  | .str, _, _, h => h
  | .unit, _, _, h => h
  | .pair _ _, _, _, ⟨c1, c2, e, h1, h2⟩ => ⟨c1, c2, e, Rd.carry hG hw h1, Rd.carry hG hw h2⟩
  | .list _ _, _, _, ⟨A, cap, e, hc, h⟩ => ⟨A, cap, e, hc, fun hp => by
      obtain ⟨g, o, hA, hg, hx⟩ := h hp
      exact ⟨g, o, hA, hG g hg, fun j x hj => by
        obtain ⟨c, hr, hcl⟩ := hx j x hj
        exact ⟨c, Rd.carry hG hw hr, hcl.same (hw g hg)⟩⟩⟩

theorem Rd.mono {w : World} {G G' : Nat → Prop} (hG : ∀ k, G k → G' k) {a : Ty} {x : a.den} {cs : List Value} (h : Rd w G a x cs) : Rd w G' a x cs :=
  Rd.carry hG (fun _ _ => rfl) h

theorem Rd.len {w : World} {G : Nat → Prop} : ∀ {a : Ty} {x : a.den} {cs : List Value}, Rd w G a x cs → cs.length = a.cells
  | .int _, _, _, h => by rw [show _ = _ from h]; rfl
  | .bool, _, _, h => by rw [show _ = _ from h]; rfl
  | .str, _, _, h => by rw [show _ = _ from h]; rfl
  | .unit, _, _, h => by rw [show _ = _ from h]; rfl
  | .pair _ _, _, _, ⟨c1, c2, e, h1, h2⟩ => by rw [e, List.length_append, Rd.len h1, Rd.len h2]; rfl
  | .list _ _, _, _, ⟨A, cap, e, _, _⟩ => by rw [e]; rfl

theorem Rd.one {w : World} {G : Nat → Prop} : ∀ {a : Ty} {x : a.den} {cs : List Value}, Rd w G a x cs → ∀ v ∈ cs, v.oneCell' = true
  | .int _, _, _, h => by rw [show _ = _ from h]; simp [Value.oneCell']
  | .bool, _, _, h => by rw [show _ = _ from h]; simp [Value.oneCell']
  | .str, _, _, h => by rw [show _ = _ from h]; simp [Value.oneCell']
  | .unit, _, _, h => by rw [show _ = _ from h]; simp
  | .pair _ _, _, _, ⟨c1, c2, e, h1, h2⟩ => by
    rw [e]; intro v hv
    rcases List.mem_append.1 hv with hv | hv
    · exact Rd.one h1 v hv
    · exact Rd.one h2 v hv
  | .list _ _, _, _, ⟨A, cap, e, _, _⟩ => by rw [e]; simp [Value.oneCell']

/-- A flat value is read of its cells alone. -/
theorem Rd.flat {w w' : World} {G G' : Nat → Prop} : ∀ {a : Ty} {x : a.den} {cs : List Value}, a.flat = true → Rd w G a x cs → Rd w' G' a x cs
  | .int _, _, _, _, h => h
  | .bool, _, _, _, h => h
  | .str, _, _, _, h => h
  | .unit, _, _, _, h => h
  | .pair _ _, _, _, hf, ⟨c1, c2, e, h1, h2⟩ => by
    simp only [Ty.flat, Bool.and_eq_true] at hf
    exact ⟨c1, c2, e, Rd.flat hf.1 h1, Rd.flat hf.2 h2⟩
  | .list _ _, _, _, hf, _ => by simp [Ty.flat] at hf

/-! ### A list that is owned -/
def Ow (w : World) (G : Nat → Prop) (E : TypeId) (e : Ty) (xs : List e.den) (v : Value) (bs : List Nat) : Prop :=
  ∃ flat, w.ownsRow 0 E e.cells v xs.length flat ∧ bs = v.ownBlock.toList ∧
    ∀ j (x : e.den), xs[j]? = some x → ∃ c, Rd w G e x c ∧ ∀ i u, c[i]? = some u → flat[j * e.cells + i]? = some u

theorem ownsRow_same {w w' : World} {E : TypeId} {s n : Nat} {v : Value} {flat : List Value} (h : w.ownsRow 0 E s v n flat) (hb : ∀ k, v.ownBlock = some k → w'.heap[k]? = w.heap[k]?) : w'.ownsRow 0 E s v n flat := by
  refine ⟨h.1, ?_⟩
  rcases h.2 with hn | ⟨g, cap, cur, rfl, hbg, hg, rest⟩
  · exact .inl hn
  · exact .inr ⟨g, cap, cur, rfl, hbg, by rw [hb g rfl]; exact hg, rest⟩

theorem Ow.carry {w w' : World} {G G' : Nat → Prop} {E : TypeId} {e : Ty} {xs : List e.den} {v : Value} {bs : List Nat} (h : Ow w G E e xs v bs)
    (hG : ∀ k, G k → G' k) (hw : ∀ k, G k → w'.heap[k]? = w.heap[k]?) (hb : ∀ k ∈ bs, w'.heap[k]? = w.heap[k]?) : Ow w' G' E e xs v bs := by
  obtain ⟨flat, h1, h2, h3⟩ := h
  refine ⟨flat, ownsRow_same h1 (fun k hk => hb k (by rw [h2, hk]; simp)), h2, fun j x hj => ?_⟩
  obtain ⟨c, hr, hc⟩ := h3 j x hj
  exact ⟨c, hr.carry hG hw, hc⟩

theorem Ow.lt {w : World} {G : Nat → Prop} {E : TypeId} {e : Ty} {xs : List e.den} {v : Value} {bs : List Nat} (h : Ow w G E e xs v bs) : ∀ k ∈ bs, k < w.heap.size := by
  obtain ⟨flat, h1, h2, _⟩ := h
  intro k hk
  rw [h2] at hk
  exact (h1.lt k (by simpa using hk)).2

theorem Ow.nodup {w : World} {G : Nat → Prop} {E : TypeId} {e : Ty} {xs : List e.den} {v : Value} {bs : List Nat} (h : Ow w G E e xs v bs) : bs.Nodup := by
  obtain ⟨flat, h1, h2, _⟩ := h
  rw [h2]
  cases v.ownBlock <;> simp

theorem Ow.slice {w : World} {G : Nat → Prop} {E : TypeId} {e : Ty} {xs : List e.den} {v : Value} {bs : List Nat} (h : Ow w G E e xs v bs) :
    ∃ A cap, v = .slice A xs.length cap ∧ xs.length ≤ cap := by
  obtain ⟨flat, h1, h2, _⟩ := h
  rcases h1.2 with ⟨rfl, hn⟩ | ⟨g, cap, cur, rfl, _, _, hc, _⟩
  · exact ⟨none, 0, by rw [hn], by omega⟩
  · exact ⟨_, cap, rfl, hc⟩

theorem Ow.one {w : World} {G : Nat → Prop} {E : TypeId} {e : Ty} {xs : List e.den} {v : Value} {bs : List Nat} (h : Ow w G E e xs v bs) : v.oneCell' = true := by
  obtain ⟨A, cap, rfl, _⟩ := h.slice
  rfl

/-- What is owned may be read. -/
theorem Ow.rd {w : World} {G : Nat → Prop} {E E' : TypeId} {e : Ty} {xs : List e.den} {v : Value} {bs : List Nat} (h : Ow w G E e xs v bs) :
    Rd w (fun k => G k ∨ k ∈ bs) (.list E' e) xs [v] := by
  obtain ⟨flat, h1, h2, h3⟩ := h
  rcases h1.2 with ⟨rfl, hn⟩ | ⟨g, cap, cur, rfl, hb, hg, hc, hm, hs, ht⟩
  · exact ⟨none, 0, by rw [hn], by omega, fun hp => by omega⟩
  · refine ⟨some ⟨g, 0, none⟩, cap, rfl, hc, fun _ => ⟨g, 0, rfl, .inr (by rw [h2]; simp [Value.ownBlock]), fun j x hj => ?_⟩⟩
    obtain ⟨c, hr, hcl⟩ := h3 j x hj
    refine ⟨c, hr.mono (fun k hk => .inl hk), fun i u hu => ?_⟩
    have := hcl i u hu
    rw [← ht, List.getElem?_take] at this
    split at this
    · rw [Nat.zero_add, cell_of_row w g _ cur E (0, 0) hg]
      simpa using this
    · cases this

theorem Ow.nil (w : World) (G : Nat → Prop) (E : TypeId) (e : Ty) : Ow w G E e [] (.slice none 0 0) [] :=
  ⟨[], World.ownsRow_nil w 0 E e.cells, rfl, fun j x hj => by simp at hj⟩

theorem Rd.nil (w : World) (G : Nat → Prop) (E : TypeId) (e : Ty) : Rd w G (.list E e) [] [.slice none 0 0] :=
  ⟨none, 0, rfl, Nat.le_refl _, fun h => by simp at h⟩

/-! ### Function values -/
def ValOk (agg : Bool) (v : Value) (cs : List Value) : Prop := if agg then v = .agg cs.toArray else cs = [v]

def TupOk (w : World) (G : Nat → Prop) : (As : List Ty) → Tup As → List Value → Prop
  | [], _, vs => vs = []
  | a :: as, x, vs => ∃ v c vs', vs = v :: vs' ∧ ValOk a.isAgg v c ∧ Rd w G a x.1 c ∧ TupOk w G as x.2 vs'

/-- The call of this function enters its body. -/
def EnterOk (P : Program) (f : FuncId) : Prop := ∀ (args : Array Value) (w : World), (callFunc f args).run P w = .ok (.enter f args) w

/-- A function value that computes φ, in every world that is as w0 was on S. -/
def FnOk (P : Program) (w0 : World) (S : Nat → Prop) (As : List Ty) (B : Ty) (φ : Tup As → Option B.den) (v : Value) : Prop :=
  ∃ f caps, v = .func (.func f) #[] caps ∧ EnterOk P f ∧
    ∀ w1 : World, w0.heap.size ≤ w1.heap.size → (∀ k, S k → w1.heap[k]? = w0.heap[k]?) →
      ∀ (x : Tup As) (args : List Value) (y : B.den), TupOk w1 (fun k => k < w1.heap.size) As x args → φ x = some y →
        Calls P f (args.toArray ++ caps) w1 (fun e w2 => ∃ u c, e = .returned u ∧ ValOk B.isAgg u c ∧ Rd w2 (fun _ => False) B y c ∧ Below w1.heap.size w1 w2)

/-! ### The relation -/
structure Env where
  w0 : World
  ro0 : Nat → Prop
  own0 : List Nat
  nt : Nat
  fixb : List (Nat × Nat)
  fixt : List (Nat × Value)

def Env.prot (V : Env) (k : Nat) : Prop := k < V.w0.heap.size ∧ k ∉ V.own0

structure Wit where
  β : Nat → Nat
  cs : Nat → List Value
  bs : Nat → Nat → List Nat
  nw : Nat → Prop

/-- What a flagged list may reach. -/
def gd (V : Env) (W : Wit) (p : Bool) (k : Nat) : Prop := W.nw k ∨ (p = true ∧ V.ro0 k)

def LeafOk (P : Program) (V : Env) (W : Wit) (st : St) (w : World) (bs : List Nat) : Leaf → Value → Prop
  | .int k n, v => v = .int k n
  | .bool b, v => v = .bool b
  | .str s, v => v = .string s
  | .nil, v => v = .slice none 0 0
  | .ro p E e xs, v => Rd w (gd V W p) (.list E e) xs [v]
  | .own p E e xs, v => Ow w (gd V W p) E e xs v bs
  | .al r j n, v => n ≤ (st r).ver ∧ ((st r).ver = n → (W.cs r)[j]? = some v)
  | .ep r j n i sz off, v => n ≤ (st r).ver ∧ ((st r).ver = n → ∃ g len cap, (W.cs r)[j]? = some (.slice (some ⟨g, 0, none⟩) len cap) ∧ i < len ∧ v = .pointer (some ⟨g, i * sz + off, none⟩))
  | .rp p a x off, v => ∃ g o c, v = .pointer (some ⟨g, o + off, none⟩) ∧ (W.nw g ∨ V.prot g) ∧ Rd w (gd V W p) a x c ∧ Cells w g o c
  | .rpp p a x, v => ∃ b ob g o c, v = .pointer (some ⟨b, ob, none⟩) ∧ (W.nw b ∨ V.prot b) ∧ w.cell? ⟨b, ob, none⟩ = some (.pointer (some ⟨g, o, none⟩)) ∧
      (W.nw g ∨ V.prot g) ∧ Rd w (gd V W p) a x c ∧ Cells w g o c
  | .bp b off, v => B0 ≤ b ∧ (st b).sh = .agg ∧ v = .pointer (some ⟨W.β b, off, none⟩)
  | .clo f caps, v => v = .func (.func f) #[] (caps.map fun b => Value.pointer (some ⟨W.β b, 0, none⟩)).toArray ∧ ∀ b ∈ caps, B0 ≤ b ∧ (st b).sh = .agg
  | .fn As B φ, v => FnOk P V.w0 V.prot As B φ v
  | .dead, _ => True

def TupSh : List (Bool × Nat) → List Value → List Value → Prop
  | [], vs, cs => vs = [] ∧ cs = []
  | (agg, n) :: ps, vs, cs => ∃ v vs' c cs', vs = v :: vs' ∧ cs = c ++ cs' ∧ c.length = n ∧ ValOk agg v c ∧ TupSh ps vs' cs'

def ShOk : Shape → Value → List Value → Prop
  | .off, _, cs => cs = []
  | .und, v, cs => v = undef ∧ cs = []
  | .one, v, cs => cs = [v]
  | .agg, v, cs => v = .agg cs.toArray
  | .tup ps, v, cs => ∃ vs, v = .tuple vs.toArray ∧ TupSh ps vs cs

def isOwn : Leaf → Prop
  | .own _ _ _ _ => True
  | _ => False

def live (st : St) (b : Nat) : Prop := B0 ≤ b ∧ (st b).sh = .agg

structure RelAt (P : Program) (V : Env) (W : Wit) (st : St) (a : Act) (w : World) : Prop where
  nt : a.tmps.size = V.nt
  df : a.defers = []
  slots : ∀ t, t < B0 → ShOk (st t).sh (a.tmps.getD t undef) (W.cs t)
  boxes : ∀ b, B0 ≤ b → ((st b).sh = .off ∧ (st b).ls = []) ∨ ((st b).sh = .agg ∧ ∃ E, w.heap[W.β b]? = some (.cells (W.cs b).toArray E (0, 0)))
  len : ∀ r, (st r).ls.length = (W.cs r).length
  one : ∀ r, ∀ v ∈ W.cs r, v.oneCell' = true
  leaf : ∀ r j l v, (st r).ls[j]? = some l → (W.cs r)[j]? = some v → LeafOk P V W st w (W.bs r j) l v
  ownb : ∀ r j l, (st r).ls[j]? = some l → isOwn l → ∀ k ∈ W.bs r j, ¬ W.nw k ∧ ¬ V.prot k ∧ ∀ b, live st b → W.β b ≠ k
  sep : ∀ r j l r' j' l', (st r).ls[j]? = some l → isOwn l → (st r').ls[j']? = some l' → isOwn l' → ∀ k, k ∈ W.bs r j → k ∈ W.bs r' j' → r = r' ∧ j = j'
  box : ∀ b, live st b → ¬ W.nw (W.β b) ∧ ¬ V.prot (W.β b)
  inj : ∀ b b', live st b → live st b' → W.β b = W.β b' → b = b'
  nwlt : ∀ k, W.nw k → k < w.heap.size ∧ ¬ V.prot k
  os : w.os = V.w0.os
  tape : w.tape = V.w0.tape
  output : w.output = V.w0.output
  size : V.w0.heap.size ≤ w.heap.size
  keep : ∀ k, V.prot k → w.heap[k]? = V.w0.heap[k]?
  fixb : ∀ x ∈ V.fixb, live st x.1 ∧ W.β x.1 = x.2
  fixt : ∀ x ∈ V.fixt, a.tmps.getD x.1 undef = x.2

def Rel (P : Program) (V : Env) (st : St) (a : Act) (w : World) : Prop := ∃ W, RelAt P V W st a w

/-- What is asked of an environment. -/
structure EnvOk (V : Env) : Prop where
  ro : ∀ k, V.ro0 k → V.prot k
  nt : V.nt ≤ B0

end Go.Proofs.YthgnfidnmnkeaaaGreatEv
