/- What is handed in is a plain value. -/
import Derived.Test.YthgnfidnmnkeaaaGreatEv29
namespace Go.Proofs.YthgnfidnmnkeaaaGreatEv
open Go Go.RowKit

section
variable {H : Type} {enc : TypeId × Value → H} {P : Program} {w : World} {base : Nat} {spare : Nat → Bool} {held : Bool}

def shF (P : Program) (g : Ty → TypeId → Bool) : List Field → Nat → Ty → Bool
  | [], _, _ => false
  | [f], off, b => Nat.beq f.offset off && Nat.beq (P.cellsOf f.type) b.cells && g b f.type
  | f :: fs, off, .pair b c => Nat.beq f.offset off && Nat.beq (P.cellsOf f.type) b.cells && g b f.type && shF P g fs (off + b.cells) c
  | _, _, _ => false

/-- A type's shape. -/
def shT (P : Program) : Nat → Ty → TypeId → Bool
  | 0, _, _ => false
  | n + 1, a, t => match a with
    | .int k => (match P.underlying t with | some (.int k') => decide (k' = k) | _ => false)
    | .bool => (match P.underlying t with | some .bool => true | _ => false)
    | .str => (match P.underlying t with | some .string => true | _ => false)
    | .pair b c => (match P.underlying t with | some (.struct fs) => shF P (shT P n) fs.toList 0 (.pair b c) && Nat.beq (P.cellsOf t) (b.cells + c.cells) | _ => false)
    | .list E e => (match P.underlying t with | some (.slice E') => Nat.beq E' E && Nat.beq (P.cellsOf E) e.cells && Nat.blt 0 e.cells && shT P n e E | _ => false)
    | .unit => false

/-- What is known of its size. -/
def Sm : (a : Ty) → a.den → Prop
  | .int k, n => (Lit.int k n).wf = true
  | .pair a b, x => Sm a x.1 ∧ Sm b x.2
  | .list _ e, xs => xs.length ≤ maxLen ∧ ∀ x ∈ (xs : List e.den), Sm e x
  | .bool, _ => True
  | .str, s => s.size ≤ maxLen
  | .unit, _ => True

theorem mapM_some {α β : Type} {f : α → Option β} : ∀ (l : List α) (ys : List β), l.mapM f = some ys → ys.length = l.length ∧ ∀ (i : Nat) (x : α), l[i]? = some x → ∃ y, f x = some y ∧ ys[i]? = some y
  | [], ys, h => by
    simp at h
    subst h
    exact ⟨rfl, fun i x hx => by simp at hx⟩
  | x :: l, ys, h => by
    rw [List.mapM_cons] at h
    cases hf : f x with
    | none => rw [hf] at h; cases h
    | some y =>
      rw [hf] at h
      cases hm : l.mapM f with
      | none => rw [hm] at h; cases h
      | some zs =>
        rw [hm] at h
        cases h
        obtain ⟨h1, h2⟩ := mapM_some l zs hm
        refine ⟨by simp [h1], fun i u hu => ?_⟩
        cases i with
        | zero => simp at hu; subst hu; exact ⟨y, hf, rfl⟩
        | succ i => simpa using h2 i u (by simpa using hu)

theorem cells_get {a : Addr} {n : Nat} {cs : List Value} (h : w.cells? base a n = some cs) : base ≤ a.block ∧ cs.length = n ∧ ∀ i u, cs[i]? = some u → w.cell? (a.add i) = some u := by
  unfold World.cells? at h
  split at h
  · rename_i hb
    obtain ⟨h1, h2⟩ := mapM_some _ _ h
    refine ⟨hb, by simpa using h1, fun i u hu => ?_⟩
    have hi : i < n := by have := (List.getElem?_eq_some_iff.1 hu).1; rw [h1] at this; simpa using this
    obtain ⟨y, h3, h4⟩ := h2 i i (by simp [hi])
    rw [hu] at h4
    cases h4
    exact h3
  · cases h

theorem open_fields {g : Ty → TypeId → Bool} {rd : TypeId → List Value → Option (DataW H × List MemPlace)}
    (hg : ∀ b t, g b t = true → ∀ cs d, rd t cs = some d → ∃ x : b.den, Rd w (fun k => k < w.heap.size) b x cs ∧ Sm b x) :
    ∀ (fs : List Field) (off : Nat) (b : Ty), shF P g fs off b = true → ∀ (cs : List Value), cs.length = off + b.cells →
      (∀ f ∈ fs, ∃ d, rd f.type ((cs.drop f.offset).take (P.cellsOf f.type)) = some d) → ∃ x : b.den, Rd w (fun k => k < w.heap.size) b x (cs.drop off) ∧ Sm b x
  | [], _, _, h => by simp [shF] at h
  | [f], off, b, h => by
    intro cs hcs hr
    simp only [shF, Bool.and_eq_true] at h
    obtain ⟨⟨h1, h2⟩, h3⟩ := h
    have h1 := Nat.eq_of_beq_eq_true h1
    have h2 := Nat.eq_of_beq_eq_true h2
    obtain ⟨d, hd⟩ := hr f (List.mem_cons_self ..)
    rw [h1, h2, List.take_of_length_le (by simp; omega)] at hd
    exact hg b f.type h3 _ d hd
  | f :: f' :: fs, off, .pair b c, h => by
    intro cs hcs hr
    simp only [shF, Bool.and_eq_true] at h
    obtain ⟨⟨⟨h1, h2⟩, h3⟩, h4⟩ := h
    have h1 := Nat.eq_of_beq_eq_true h1
    have h2 := Nat.eq_of_beq_eq_true h2
    have hcs : cs.length = off + (b.cells + c.cells) := hcs
    obtain ⟨d, hd⟩ := hr f (List.mem_cons_self ..)
    rw [h1, h2] at hd
    obtain ⟨x, hx, hsx⟩ := hg b f.type h3 _ d hd
    obtain ⟨y, hy, hsy⟩ := open_fields hg (f' :: fs) (off + b.cells) c h4 cs (by omega) (fun f0 hf0 => hr f0 (List.mem_cons_of_mem _ hf0))
    refine ⟨(x, y), ⟨_, _, ?_, hx, hy⟩, hsx, hsy⟩
    rw [← List.drop_drop, List.take_append_drop]
  | f :: f' :: fs, off, .int _, h => by simp [shF] at h
  | f :: f' :: fs, off, .bool, h => by simp [shF] at h
  | f :: f' :: fs, off, .str, h => by simp [shF] at h
  | f :: f' :: fs, off, .unit, h => by simp [shF] at h
  | f :: f' :: fs, off, .list _ _, h => by simp [shF] at h

/-- A list out of its elements, one by one. -/
theorem choose_list {β : Type} (Q : Nat → β → Prop) : ∀ (n : Nat), (∀ i, i < n → ∃ x, Q i x) → ∃ xs : List β, xs.length = n ∧ ∀ i x, xs[i]? = some x → Q i x
  | 0, _ => ⟨[], rfl, fun i x h => by simp at h⟩
  | n + 1, h => by
    obtain ⟨xs, h1, h2⟩ := choose_list Q n (fun i hi => h i (by omega))
    obtain ⟨x, hx⟩ := h n (by omega)
    refine ⟨xs ++ [x], by simp [h1], fun i y hy => ?_⟩
    by_cases hi : i < n
    · rw [List.getElem?_append_left (by omega)] at hy
      exact h2 i y hy
    · have hi2 : i < (xs ++ [x]).length := (List.getElem?_eq_some_iff.1 hy).1
      have : i = n := by simp at hi2; omega
      subst this
      rw [List.getElem?_append_right (by omega), h1, Nat.sub_self] at hy
      simp at hy
      subst hy
      exact hx

theorem open_rd : ∀ (n : Nat) (a : Ty) (t : TypeId), shT P n a t = true → ∀ (fuel : Nat) (cs : List Value) (d : DataW H × List MemPlace), DataW.trod enc P w base spare held fuel t cs = some d →
    ∃ x : a.den, Rd w (fun k => k < w.heap.size) a x cs ∧ Sm a x
  | 0, _, _, h => by simp [shT] at h
  | n + 1, a, t, h => by
    intro fuel cs d hd
    cases fuel with
    | zero => simp [DataW.trod] at hd
    | succ fuel =>
      cases a with
      | int k =>
        simp only [shT] at h
        split at h
        · rename_i k' hu
          have hk := of_decide_eq_true h
          subst hk
          simp only [DataW.trod, hu] at hd
          split at hd <;> first | (rename_i heq; cases heq; done) | skip
          all_goals first
            | (rename_i k1 k2 m heq1
               cases heq1
               split at hd
               · rename_i hw
                 obtain ⟨rfl, hw⟩ := hw
                 exact ⟨m, rfl, hw⟩
               · cases hd)
            | cases hd
        · cases h
      | bool =>
        simp only [shT] at h
        split at h
        · rename_i hu
          simp only [DataW.trod, hu] at hd
          split at hd <;> first | (rename_i heq; cases heq; done) | skip
          all_goals first
            | (rename_i b heq1; exact ⟨b, rfl, trivial⟩)
            | cases hd
        · cases h
      | str =>
        simp only [shT] at h
        split at h
        · rename_i hu
          simp only [DataW.trod, hu] at hd
          split at hd <;> first | (rename_i heq; cases heq; done) | skip
          all_goals first
            | (rename_i b heq1
               split at hd
               · rename_i hb
                 exact ⟨b, rfl, hb⟩
               · cases hd)
            | cases hd
        · cases h
      | unit => simp [shT] at h
      | pair b c =>
        simp only [shT] at h
        split at h
        · rename_i fs hu
          simp only [Bool.and_eq_true] at h
          obtain ⟨h1, h2⟩ := h
          have h2 := Nat.eq_of_beq_eq_true h2
          simp only [DataW.trod, hu] at hd
          split at hd
          · rename_i hlen
            simp only [Option.map_eq_some_iff] at hd
            obtain ⟨ys, hys, _⟩ := hd
            obtain ⟨h3, h4⟩ := mapM_some _ _ hys
            have := open_fields (w := w) (rd := DataW.trod enc P w base spare held fuel) (fun b t hb cs d hd => open_rd n b t hb fuel cs d hd) fs.toList 0 (.pair b c) h1 cs (by rw [hlen, h2, Nat.zero_add]; rfl) (fun f hf => by
              obtain ⟨i, hi, e⟩ := List.getElem_of_mem hf
              obtain ⟨y, h5, _⟩ := h4 i f (by rw [List.getElem?_eq_getElem hi, e])
              exact ⟨y, h5⟩)
            simpa using this
          · cases hd
        · cases h
      | list E e =>
        simp only [shT] at h
        split at h
        · rename_i E' hu
          simp only [Bool.and_eq_true] at h
          obtain ⟨⟨⟨h1, h2⟩, h3⟩, h4⟩ := h
          have h1 := Nat.eq_of_beq_eq_true h1
          subst h1
          have h2 := Nat.eq_of_beq_eq_true h2
          have h3 : 0 < e.cells := by simpa [Nat.blt_eq] using h3
          simp only [DataW.trod, hu] at hd
          split at hd <;> first | (rename_i heq; cases heq; done) | skip
          all_goals first
            | cases hd; done
            | skip
          · exact ⟨[], Rd.nil w _ _ e, Nat.zero_le _, by simp⟩
          · rename_i E2 ad len cap heq1
            cases heq1
            split at hd
            · rename_i hc
              obtain ⟨hbase, hlc, hcm⟩ := hc
              obtain ⟨els, hels, _⟩ := Option.bind_eq_some_iff.1 hd
              obtain ⟨h5, h6⟩ := mapM_some _ _ hels
              have hel : ∀ i, i < len → ∃ x : e.den, ∃ c, w.cells? base (ad.add (i * e.cells)) e.cells = some c ∧ Rd w (fun k => k < w.heap.size) e x c ∧ Sm e x := by
                intro i hi
                obtain ⟨y, h7, _⟩ := h6 i i (by simp [hi])
                obtain ⟨c, h8, h9⟩ := Option.bind_eq_some_iff.1 h7
                rw [h2] at h8
                obtain ⟨x, hx, hsx⟩ := open_rd n e _ h4 fuel c y h9
                exact ⟨x, c, h8, hx, hsx⟩
              obtain ⟨xs, hxl, hxs⟩ := choose_list (fun i (x : e.den) => ∃ c, w.cells? base (ad.add (i * e.cells)) e.cells = some c ∧ Rd w (fun k => k < w.heap.size) e x c ∧ Sm e x) len hel
              refine ⟨xs, ⟨some ad, cap, by rw [hxl], by omega, fun hp => ?_⟩, by omega, fun x hx => ?_⟩
              · have hlt : 0 < xs.length := hp
                obtain ⟨c, hc1, hc2, _⟩ := hxs 0 xs[0] (List.getElem?_eq_getElem hlt)
                obtain ⟨_, hc3, hc4⟩ := cells_get hc1
                have h0 : 0 < c.length := by omega
                have hcell := hc4 0 c[0] (List.getElem?_eq_getElem h0)
                have e0 : (ad.add (0 * e.cells)).add 0 = ad := by simp [Addr.add]
                rw [e0] at hcell
                have hspot : ad.spot = none ∧ ad.block < w.heap.size := by
                  unfold World.cell? at hcell
                  split at hcell
                  · rename_i hh
                    split at hcell
                    · cases hcell
                    · rename_i hs
                      refine ⟨by simpa using hs, (Array.getElem?_eq_some_iff.1 hh).1⟩
                  · cases hcell
                obtain ⟨g, o, sp⟩ := ad
                obtain ⟨hs1, hs2⟩ := hspot
                simp only at hs1 hs2
                subst hs1
                refine ⟨g, o, rfl, hs2, fun j x hj => ?_⟩
                obtain ⟨c, hc1, hc2, _⟩ := hxs j x hj
                obtain ⟨_, _, hc4⟩ := cells_get hc1
                refine ⟨c, hc2, fun i u hi => ?_⟩
                have := hc4 i u hi
                rwa [add_plain, add_plain] at this
              · obtain ⟨j, hj, e1⟩ := List.getElem_of_mem hx
                obtain ⟨c, _, _, hs⟩ := hxs j x (by rw [List.getElem?_eq_getElem hj, e1])
                exact hs
            · cases hd
        · cases h

end
end Go.Proofs.YthgnfidnmnkeaaaGreatEv
