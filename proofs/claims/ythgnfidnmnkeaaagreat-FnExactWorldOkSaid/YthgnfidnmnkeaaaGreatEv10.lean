/- One operation: boxes made, boxes written. -/
import Derived.Test.YthgnfidnmnkeaaaGreatEv9
import Derived.Deep.MidRow
namespace Go.Proofs.YthgnfidnmnkeaaaGreatEv
open Go Go.RowKit

section
variable {P : Program} {V : Env} {Γ : List Ctr} {T : TypeId → TI} {st : St} {o : Oper} {R : Type} {κ : Upd → Option R} {r : R}

theorem look_swap {q q' : Nat} (h : q ≠ q') (c c' : Cont) (st : St) : look [(q, c)] (look [(q', c')] st) = look [(q', c')] (look [(q, c)] st) := by
  funext k
  rcases look_cases q k c (look [(q', c')] st) with ⟨rfl, e⟩ | ⟨h1, e⟩
  · rw [e, look_other h, look_same]
  · rw [e]
    rcases look_cases q' k c' st with ⟨rfl, e'⟩ | ⟨h2, e'⟩
    · rw [e', look_same]
    · rw [e', look_other h2, look_other h1]

/-- A new box, and its pointer's slot. -/
theorem RelAt.boxed (hV : EnvOk V) {W : Wit} {a : Act} {w : World} (h : RelAt P V W st a w) (d : Nat) (hd : d < V.nt) (hfix : ∀ x ∈ V.fixt, x.1 ≠ d) (hoff : (st (B0 + d)).sh = .off) (ls : List Leaf)
    (csd : List Value) (bsd : Nat → List Nat) (E : TypeId)
    (hl : ls.length = csd.length) (h1 : ∀ u ∈ csd, u.oneCell' = true)
    (hleaf : ∀ (j : Nat) (l : Leaf) (u : Value), ls[j]? = some l → csd[j]? = some u → LeafOk P V W st w (bsd j) l u)
    (hown : ∀ (j : Nat) (l : Leaf), ls[j]? = some l → isOwn l → ∀ k ∈ bsd j, ¬ W.nw k ∧ ¬ V.prot k ∧ k < w.heap.size ∧ (∀ b, live st b → W.β b ≠ k) ∧
      ∀ (r1 j1 : Nat) (l1 : Leaf), (st r1).ls[j1]? = some l1 → isOwn l1 → k ∉ W.bs r1 j1)
    (hsep : ∀ (j j' : Nat) (l l' : Leaf), ls[j]? = some l → isOwn l → ls[j']? = some l' → isOwn l' → ∀ k, k ∈ bsd j → k ∈ bsd j' → j = j') :
    Rel P V (look ((B0 + d, ⟨(st (B0 + d)).ver + 1, .agg, ls⟩) :: [(d, ⟨(st d).ver + 1, .one, [.bp (B0 + d) 0]⟩)]) st) (a.put (some d) (.pointer (some ⟨w.heap.size, 0, none⟩))) (w.alloc (.cells csd.toArray E)) := by
  have hdB : d < B0 := Nat.lt_of_lt_of_le hd hV.nt
  have hne : B0 + d ≠ d := by simp [B0]
  have hnl : ¬ live st (B0 + d) := by simp [live, hoff]
  have h2 := h.setBox hV (B0 + d) (Nat.le_add_right _ _) ((st (B0 + d)).ver + 1) ls csd bsd w.heap.size E (w' := w.alloc (.cells csd.toArray E)) (Nat.lt_succ_self _) (.inr ⟨hnl, Nat.le_refl _⟩)
    (heap_alloc_new w _) (fun k hk _ => Go.heap_alloc_old w _ hk) (by simp) rfl rfl rfl hl h1 hleaf (fun j l hj ho k hk => by
      obtain ⟨h3, h4, h5, h6, h7⟩ := hown j l hj ho k hk
      exact ⟨h3, h4, h5, h6, fun r1 j1 l1 _ => h7 r1 j1 l1⟩) hsep
  rw [look_cons, look_swap hne]
  refine h2.putLs hV d hd hfix _ .one [.bp (B0 + d) 0] _ [.pointer (some ⟨w.heap.size, 0, none⟩)] ?_ rfl ⟨⟨⟨Nat.le_add_right _ _, by rw [look_same], by simp⟩, id, rfl⟩, trivial⟩
  rw [look_other (Ne.symm hne)]
  exact Nat.lt_succ_self _

theorem ti_zero_run {t : TypeId} (hT : TOk P T) (hn : (T t).cells ≠ 0) (w : World) : ∃ z cs, (zeroValue t).run P w = .ok z w ∧ z.cells = cs.toArray ∧ ∀ (V : Env) (W : Wit) (st : St), LsOk P V W st w (T t).zero cs := by
  have h := hT t
  cases ht : T t with
  | none => rw [ht] at hn; exact absurd rfl hn
  | int k => rw [ht] at h; exact ⟨_, [.int k 0], zero_run h.2.2 w, rfl, fun V W st => ⟨⟨rfl, id, rfl⟩, trivial⟩⟩
  | bool => rw [ht] at h; exact ⟨_, [.bool false], zero_run h.2.2 w, rfl, fun V W st => ⟨⟨rfl, id, rfl⟩, trivial⟩⟩
  | str => rw [ht] at h; exact ⟨_, [.string ByteArray.empty], zero_run h.2.2 w, rfl, fun V W st => ⟨⟨rfl, id, rfl⟩, trivial⟩⟩
  | slice E e b => rw [ht] at h; exact ⟨_, [.slice none 0 0], zero_run h.2.2.1 w, rfl, fun V W st => ⟨⟨rfl, id, rfl⟩, trivial⟩⟩
  | struct a fl => rw [ht] at h; exact ⟨_, zeroCells a, zero_run h.2.2.1 w, rfl, fun V W st => zero_ok a⟩
  | ptr => rw [ht] at h; exact ⟨_, [.pointer none], zero_run h.2.2 w, rfl, fun V W st => ⟨⟨trivial, id, rfl⟩, trivial⟩⟩
  | fn => rw [ht] at h; exact ⟨_, [.nilFunc], zero_run h.2.2 w, rfl, fun V W st => ⟨⟨trivial, id, rfl⟩, trivial⟩⟩

theorem act_alloc (hV : EnvOk V) (hT : TOk P T) (hok : DstOk V o) {t : TypeId} (hop : o.op = .alloc t) (h : act Γ T o st κ = some r) : Sounds P V o st κ r := by
  simp only [act, wrU, hop] at h
  split at h
  · rename_i d hd
    cases hb : decide ((st (B0 + d)).sh = .off) && !decide ((T t).cells = 0) with
    | false => simp [hb] at h
    | true =>
      simp only [hb, cond_true] at h
      simp only [Bool.and_eq_true, decide_eq_true_eq, Bool.not_eq_true', decide_eq_false_iff_not] at hb
      refine ⟨_, h, fun W a w hr next Q hn => ?_⟩
      obtain ⟨z, cs, hz, hc, hl⟩ := ti_zero_run hT hb.2 w
      have hl := hl V W st
      refine wp_value (v := .pointer (some ⟨w.heap.size, 0, none⟩)) (w' := w.alloc (.cells cs.toArray t)) ?_ ?_
      · simp [execOp, hop, Instr.alloc, hz, newVar, newRow, hc]
      · rw [hd]
        refine hn _ _ ?_
        exact hr.boxed hV d (hok d hd).1 (hok d hd).2 hb.1 _ cs (fun _ => []) t hl.length hl.one' (fun j l u h1 h2 => (hl.at_ j l u h1 h2).1) (fun _ _ _ _ k hk => by simp at hk) (fun _ _ _ _ _ _ _ _ k hk => by simp at hk)
  · cases h

theorem act_box (hV : EnvOk V) (hok : DstOk V o) {t : TypeId} {x : Operand} (hop : o.op = .box t x) (h : act Γ T o st κ = some r) : Sounds P V o st κ r := by
  simp only [act, wrU, hop] at h
  split at h
  · rename_i d hd
    cases hb : decide ((st (B0 + d)).sh = .off) && decide ((opnd st x).2.length = (T t).cells) && decide ((opnd st x).1 = shOf (T t).agg) && distinct (owned st (opnd st x).2) with
    | false => simp [hb] at h
    | true =>
      simp only [hb, cond_true] at h
      simp only [Bool.and_eq_true, decide_eq_true_eq] at hb
      obtain ⟨⟨⟨hb1, hb2⟩, hb3⟩, hb4⟩ := hb
      refine ⟨_, h, fun W a w hr next Q hn => ?_⟩
      obtain ⟨cs, hs, hl⟩ := opnd_ok hr x
      obtain ⟨h1, h2, h3, h4, h5⟩ := moved_ok hV hr hl hb4
      obtain ⟨_, _, h6⟩ := killU_ok hV (owned st (opnd st x).2) hr
      rw [hb3] at hs
      have hc := cells_of_sh hs hl.one'
      refine wp_value (v := .pointer (some ⟨w.heap.size, 0, none⟩)) (w' := w.alloc (.cells cs.toArray t)) ?_ ?_
      · simp [execOp, hop, Instr.box, newVar, newRow, hc]
      · rw [hd]
        refine hn _ _ ?_
        have := h1.boxed hV d (hok d hd).1 (hok d hd).2 (by rw [(h6 _).1]; exact hb1) _ cs (movedBs W (opnd st x).2) t h2 hl.one' h3 h4 h5
        rw [← look_append] at this
        exact this
  · cases h

/-! ### Writing -/
theorem heap_setCells (b : Nat) (E : TypeId) : ∀ (vs : List Value) (k o : Nat) (w : World) (cur : Array Value), w.heap[b]? = some (.cells cur E (0, 0)) →
    (w.setCells b (o + k) vs).heap[b]? = some (.cells ((vs.zipIdx k).foldl (fun cs (x : Value × Nat) => cs.setIfInBounds (o + x.2) x.1) cur) E (0, 0))
  | [], _, _, _, _, h => h
  | v :: vs, k, o, w, cur, h => by
    have := heap_setCells b E vs (k + 1) o (w.setCell ⟨b, o + k, none⟩ v) _ (heap_setCell_same w b (o + k) cur E v h)
    simpa [World.setCells, Nat.add_assoc] using this

theorem heap_setCells_other (b : Nat) : ∀ (vs : List Value) (o : Nat) (w : World) (k : Nat), k ≠ b → (w.setCells b o vs).heap[k]? = w.heap[k]?
  | [], _, _, _, _ => rfl
  | v :: vs, o, w, k, h => by
    rw [World.setCells, heap_setCells_other b vs (o + 1) _ k h]
    exact heap_setCell_other w ⟨b, o, none⟩ k v h

theorem setCells_rest (b : Nat) : ∀ (vs : List Value) (o : Nat) (w : World), (w.setCells b o vs).os = w.os ∧ (w.setCells b o vs).tape = w.tape ∧ (w.setCells b o vs).output = w.output ∧ (w.setCells b o vs).heap.size = w.heap.size
  | [], _, _ => ⟨rfl, rfl, rfl, rfl⟩
  | v :: vs, o, w => by
    obtain ⟨h1, h2, h3, h4⟩ := setCells_rest b vs (o + 1) (w.setCell ⟨b, o, none⟩ v)
    exact ⟨h1, h2, h3, by rw [World.setCells, h4]; simp⟩

/-- The write of a value into cells that stand there. -/
theorem run_storeAt' {t : TypeId} {n : Nat} (hsz : SizedAt P t n) {w : World} {b off : Nat} {cur : List Value} {E : TypeId} (hb : w.heap[b]? = some (.cells cur.toArray E (0, 0))) {v : Value} {cs : List Value}
    (hv : v.cells = cs.toArray) (hl : cs.length = n) (h1 : ∀ u ∈ cs, u.oneCell' = true) (hin : off + cs.length ≤ cur.length) :
    (Instr.storeAt t (.pointer (some ⟨b, off, none⟩)) v).run P w = .ok () (w.setCells b off cs) := by
  have hthere : ∀ j, j < cs.length → (w.cell? ⟨b, off + j, none⟩).isSome = true := by
    intro j hj
    rw [cell_of_row w b _ _ E (0, 0) hb]
    simp; omega
  have h3 := run_storeCells_cells (P := P) b off cs 0 w (fun j hj => hthere j hj) (fun j hj => frozen_of_row w b _ _ E hb) h1
  have h4 := sized_run hsz w
  simp only [Nat.add_zero] at h3
  simp [Instr.storeAt, Instr.sureAddr, storeVar, h4, hv, hl, h3]

theorem act_store_bp (hV : EnvOk V) (hT : TOk P T) {t : TypeId} {x y : Operand} {b off : Nat} (hop : o.op = .store t x y) (hd : o.dst = none) (hx : one st x = .bp b off)
    (hlen : (opnd st y).2.length = (T t).cells) (hsh : (opnd st y).1 = shOf (T t).agg) (hn0 : (T t).cells ≠ 0) (hag : (st b).sh = .agg) (hoff : off + (opnd st y).2.length ≤ (st b).ls.length) (hdis : distinct (owned st (opnd st y).2) = true)
    {W : Wit} {a : Act} {w : World} (hr : RelAt P V W st a w) :
    Goes P V o st ((b, ⟨(look (killU st (owned st (opnd st y).2)) st b).ver + 1, .agg, splice (look (killU st (owned st (opnd st y).2)) st b).ls (taken st (opnd st y).2) off⟩) :: killU st (owned st (opnd st y).2)) a w := by
  intro next Q hn
  obtain ⟨cs, hs, hl⟩ := opnd_ok hr y
  rw [hsh] at hs
  have hc := cells_of_sh hs hl.one'
  obtain ⟨h1, h2, h3, h4, h5⟩ := moved_ok hV hr hl hdis
  obtain ⟨_, _, h6⟩ := killU_ok hV (owned st (opnd st y).2) hr
  obtain ⟨hp, _, _, _⟩ := one_ok hr x (by rw [hx]; simp)
  rw [hx] at hp
  obtain ⟨hB, _, hv⟩ := hp
  have hnn : T t ≠ .none := by intro e; rw [e] at hn0; exact hn0 rfl
  rcases hr.boxes b hB with ⟨h8, _⟩ | ⟨_, E, h8⟩
  · rw [hag] at h8; cases h8
  · have hlen2 := hl.length
    have hlb := hr.len b
    have hlb' := h1.len b
    have hin : off + cs.length ≤ (W.cs b).length := by omega
    have hrun := run_storeAt' (ti_sized (hT t) hnn) h8 hc (by omega) hl.one' hin
    refine wp_skipped (w' := w.setCells (W.β b) off cs) (by simp [execOp, hop, hv, hrun]) ?_
    rw [hd]
    refine hn _ _ ?_
    rw [look_cons]
    obtain ⟨e1, e2, e3, e4⟩ := setCells_rest (W.β b) cs off w
    have hnew := heap_setCells (W.β b) E cs 0 off w _ h8
    rw [fill_splice (W.cs b) cs off hin] at hnew
    simp only [Nat.add_zero] at hnew
    have hlv : live (look (killU st (owned st (opnd st y).2)) st) b := ⟨hB, by rw [(h6 b).1]; exact hag⟩
    have htl : (taken st (opnd st y).2).length = cs.length := h2
    -- where a leaf of the new box stands
    have hcase : ∀ (j : Nat) (l : Leaf), (splice (look (killU st (owned st (opnd st y).2)) st b).ls (taken st (opnd st y).2) off)[j]? = some l →
        (off ≤ j ∧ j < off + cs.length ∧ (taken st (opnd st y).2)[j - off]? = some l) ∨ ((j < off ∨ off + cs.length ≤ j) ∧ (look (killU st (owned st (opnd st y).2)) st b).ls[j]? = some l) := by
      intro j l hj
      unfold splice at hj
      rw [htl] at hj
      by_cases h9 : j < off
      · rw [List.append_assoc, List.getElem?_append_left (by simp; omega), List.getElem?_take, if_pos h9] at hj
        exact .inr ⟨.inl h9, hj⟩
      · by_cases h10 : j < off + cs.length
        · rw [List.append_assoc, List.getElem?_append_right (by simp; omega), List.getElem?_append_left (by simp; omega)] at hj
          refine .inl ⟨by omega, h10, ?_⟩
          rw [← hj]
          congr 1
          simp; omega
        · rw [List.getElem?_append_right (by simp; omega), List.getElem?_drop] at hj
          refine .inr ⟨.inr (by omega), ?_⟩
          rw [← hj]
          congr 1
          simp; omega
    have hcase2 : ∀ (j : Nat), ((W.cs b).take off ++ cs ++ (W.cs b).drop (off + cs.length))[j]? = if off ≤ j ∧ j < off + cs.length then cs[j - off]? else (W.cs b)[j]? := by
      intro j
      by_cases h9 : j < off
      · rw [List.append_assoc, List.getElem?_append_left (by simp; omega), List.getElem?_take, if_pos h9, if_neg (by omega)]
      · by_cases h10 : j < off + cs.length
        · rw [List.append_assoc, List.getElem?_append_right (by simp; omega), List.getElem?_append_left (by simp; omega), if_pos ⟨by omega, h10⟩]
          congr 1
          simp; omega
        · rw [List.getElem?_append_right (by simp; omega), List.getElem?_drop, if_neg (by omega)]
          congr 1
          simp; omega
    refine ⟨_, h1.setBox hV b hB _ _ ((W.cs b).take off ++ cs ++ (W.cs b).drop (off + cs.length)) (fun j => if off ≤ j ∧ j < off + cs.length then movedBs W (opnd st y).2 (j - off) else W.bs b j) (W.β b) E
      (Nat.lt_succ_self _) (.inl ⟨hlv, rfl⟩) hnew (fun k _ hk => heap_setCells_other (W.β b) cs off w k hk) (Nat.le_of_eq e4.symm) e1 e2 e3 ?_ ?_ ?_ ?_ ?_⟩
    · simp only [splice, List.length_append, List.length_take, List.length_drop]
      omega
    · intro u hu
      simp only [List.mem_append] at hu
      rcases hu with (hu | hu) | hu
      · exact hr.one b u (List.mem_of_mem_take hu)
      · exact hl.one' u hu
      · exact hr.one b u (List.mem_of_mem_drop hu)
    · intro j l u hj hu
      rw [hcase2] at hu
      rcases hcase j l hj with ⟨h9, h10, h11⟩ | ⟨h9, h11⟩
      · rw [if_pos ⟨h9, h10⟩] at hu
        simp only [if_pos (⟨h9, h10⟩ : off ≤ j ∧ j < off + cs.length)]
        exact h3 _ l u h11 hu
      · have hneg : ¬ (off ≤ j ∧ j < off + cs.length) := by omega
        rw [if_neg hneg] at hu
        simp only [if_neg hneg]
        exact h1.leaf b j l u h11 hu
    · intro j l hj ho k hk
      rcases hcase j l hj with ⟨h9, h10, h11⟩ | ⟨h9, h11⟩
      · simp only [if_pos (⟨h9, h10⟩ : off ≤ j ∧ j < off + cs.length)] at hk
        obtain ⟨q1, q2, q3, q4, q5⟩ := h4 _ l h11 ho k hk
        exact ⟨q1, q2, q3, q4, fun r1 j1 l1 _ => q5 r1 j1 l1⟩
      · have hneg : ¬ (off ≤ j ∧ j < off + cs.length) := by omega
        simp only [if_neg hneg] at hk
        obtain ⟨q1, q2, q3⟩ := h1.ownb b j l h11 ho k hk
        exact ⟨q1, q2, h1.own_lt h11 ho k hk, q3, fun r1 j1 l1 hne hj1 ho1 hk1 => hne (h1.sep b j l r1 j1 l1 h11 ho hj1 ho1 k hk hk1).1.symm⟩
    · intro j j' l l' hj ho hj' ho' k hk hk'
      rcases hcase j l hj with ⟨h9, h10, h11⟩ | ⟨h9, h11⟩ <;> rcases hcase j' l' hj' with ⟨h9', h10', h11'⟩ | ⟨h9', h11'⟩
      · simp only [if_pos (⟨h9, h10⟩ : off ≤ j ∧ j < off + cs.length)] at hk
        simp only [if_pos (⟨h9', h10'⟩ : off ≤ j' ∧ j' < off + cs.length)] at hk'
        have := h5 _ _ l l' h11 ho h11' ho' k hk hk'
        omega
      · have hneg : ¬ (off ≤ j' ∧ j' < off + cs.length) := by omega
        simp only [if_pos (⟨h9, h10⟩ : off ≤ j ∧ j < off + cs.length)] at hk
        simp only [if_neg hneg] at hk'
        exact absurd hk' ((h4 _ l h11 ho k hk).2.2.2.2 b j' l' h11' ho')
      · have hneg : ¬ (off ≤ j ∧ j < off + cs.length) := by omega
        simp only [if_neg hneg] at hk
        simp only [if_pos (⟨h9', h10'⟩ : off ≤ j' ∧ j' < off + cs.length)] at hk'
        exact absurd hk ((h4 _ l' h11' ho' k hk').2.2.2.2 b j l h11 ho)
      · have hneg : ¬ (off ≤ j ∧ j < off + cs.length) := by omega
        have hneg' : ¬ (off ≤ j' ∧ j' < off + cs.length) := by omega
        simp only [if_neg hneg] at hk
        simp only [if_neg hneg'] at hk'
        exact (h1.sep b j l b j' l' h11 ho h11' ho' k hk hk').2

end
end Go.Proofs.YthgnfidnmnkeaaaGreatEv
