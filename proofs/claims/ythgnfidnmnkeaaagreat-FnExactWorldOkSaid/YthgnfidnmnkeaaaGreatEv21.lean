/- Regions, in the order of the text and in any order. -/
import Derived.Test.YthgnfidnmnkeaaaGreatEv20
namespace Go.Proofs.YthgnfidnmnkeaaaGreatEv
open Go Go.RowKit

section
variable {P : Program} {V : Env} {Γ : List Ctr} {T : TypeId → TI} {st st' : St} {o : Oper} {R : Type} {all : Array Oper}

/-- What an operation comes to: it runs, or is passed over. -/
def OpRes (Γ : List Ctr) (T : TypeId → TI) (all : Array Oper) (o : Oper) (st : St) (U : Upd) : Prop :=
  match o.guard with
  | none => act Γ T o st some = some U
  | some (j, want) => ∃ t, (all[j]?).bind (·.dst) = some t ∧
      ((∃ b, (st t).sh = .one ∧ (st t).ls = [.bool b] ∧ ((b = want ∧ act Γ T o st some = some U) ∨ (b ≠ want ∧ U = skipU st o))) ∨ ((st t).sh = .und ∧ U = skipU st o))

/-- The same, with what it looked at and wrote. -/
def OpDone (Γ : List Ctr) (T : TypeId → TI) (all : Array Oper) (o : Oper) (st : St) (U : Upd) (t : Trace) : Prop :=
  t.wr = U.map (·.1) ∧ match o.guard with
  | none => act Γ T o st some = some U ∧ ∀ q ∈ looksOf st o, q ∈ t.rd
  | some (j, want) => ∃ s, (all[j]?).bind (·.dst) = some s ∧ s ∈ t.rd ∧
      ((∃ b, (st s).sh = .one ∧ (st s).ls = [.bool b] ∧ ((b = want ∧ act Γ T o st some = some U ∧ ∀ q ∈ looksOf st o, q ∈ t.rd) ∨ (b ≠ want ∧ U = skipU st o ∧ ∀ d, o.dst = some d → d ∈ t.wr))) ∨
        ((st s).sh = .und ∧ U = skipU st o ∧ ∀ d, o.dst = some d → d ∈ t.wr))

theorem lit_same {t : Nat} {b : Bool} (h1 : (st t).sh = .one) (h2 : (st t).ls = [.bool b]) : lit st t b = st := by
  funext q
  unfold lit
  rcases look_cases t q ⟨(st t).ver, .one, [.bool b]⟩ st with ⟨rfl, e⟩ | ⟨_, e⟩
  · rw [e, ← h1, ← h2]
  · exact e

theorem opK_res {κ : St → Trace → Option R} {r : R} (h : opK Γ T all o st κ = some r) : ∃ U t, OpDone Γ T all o st U t ∧ κ (look U st) t = some r := by
  have hgo : ∀ (more : List Nat), act Γ T o st (fun U => κ (look U st) ⟨more ++ looksOf st o, U.map (·.1)⟩) = some r → ∃ U, act Γ T o st some = some U ∧ κ (look U st) ⟨more ++ looksOf st o, U.map (·.1)⟩ = some r := by
    intro more h
    rw [act_bind] at h
    obtain ⟨U, h1, h2⟩ := Option.bind_eq_some_iff.1 h
    exact ⟨U, h1, h2⟩
  unfold opK at h
  unfold OpDone
  cases hg : o.guard with
  | none =>
    simp only [hg] at h
    obtain ⟨U, h1, h2⟩ := hgo [] h
    exact ⟨U, _, ⟨rfl, h1, fun q hq => by simpa using hq⟩, h2⟩
  | some jw =>
    obtain ⟨j, want⟩ := jw
    simp only [hg] at h
    split at h
    · rename_i t ht
      have hdst : ∀ d, o.dst = some d → d ∈ o.dst.toList := fun d hd => by simp [hd]
      have hskip : o.dst.toList = (skipU st o).map (·.1) := by
        unfold skipU
        cases o.dst <;> rfl
      split at h
      · rename_i b hsh hls
        have hl : ∀ b', b' = b → lit st t b' = st := fun b' e => lit_same hsh (by rw [hls, e])
        cases b with
        | true =>
          simp only [cond_true, hl true rfl] at h
          cases want with
          | true =>
            simp only [cond_true] at h
            obtain ⟨U, h1, h2⟩ := hgo [t] h
            exact ⟨U, _, ⟨rfl, t, ht, by simp, .inl ⟨true, hsh, hls, .inl ⟨rfl, h1, fun q hq => List.mem_append_right _ hq⟩⟩⟩, h2⟩
          | false =>
            simp only [cond_false] at h
            exact ⟨skipU st o, _, ⟨hskip, t, ht, by simp, .inl ⟨true, hsh, hls, .inr ⟨by simp, rfl, hdst⟩⟩⟩, h⟩
        | false =>
          simp only [cond_false, hl false rfl] at h
          cases want with
          | true =>
            simp only [cond_true] at h
            exact ⟨skipU st o, _, ⟨hskip, t, ht, by simp, .inl ⟨false, hsh, hls, .inr ⟨by simp, rfl, hdst⟩⟩⟩, h⟩
          | false =>
            simp only [cond_false] at h
            obtain ⟨U, h1, h2⟩ := hgo [t] h
            exact ⟨U, _, ⟨rfl, t, ht, by simp, .inl ⟨false, hsh, hls, .inl ⟨rfl, h1, fun q hq => List.mem_append_right _ hq⟩⟩⟩, h2⟩
      · rename_i hsh
        exact ⟨skipU st o, _, ⟨hskip, t, ht, by simp, .inr ⟨hsh, rfl, hdst⟩⟩, h⟩
      · cases h
    · cases h

theorem skip_fr {U : Upd} (e : U = skipU st o) (hd : ∀ d, o.dst = some d → st' d = st d) : U = skipU st' o := by
  rw [e]
  unfold skipU
  cases hdd : o.dst with
  | none => rfl
  | some d => simp only [hd d hdd]

/-- The same, where what counts is the same. -/
theorem OpDone.frame {U : Upd} {t : Trace} (h : OpDone Γ T all o st U t) (hs : ∀ q, q ∈ t.rd ∨ q ∈ t.wr → st' q = st q) : OpRes Γ T all o st' U := by
  obtain ⟨_, h⟩ := h
  have hact : act Γ T o st some = some U → (∀ q ∈ looksOf st o, q ∈ t.rd) → act Γ T o st' some = some U := by
    intro h1 h2
    rw [act_fr (fun q hq => hs q (.inl (h2 q hq)))]
    exact h1
  unfold OpRes
  cases hg : o.guard with
  | none =>
    rw [hg] at h
    exact hact h.1 h.2
  | some jw =>
    obtain ⟨j, want⟩ := jw
    rw [hg] at h
    obtain ⟨s, h1, h2, h3⟩ := h
    have hss := hs s (.inl h2)
    refine ⟨s, h1, ?_⟩
    rw [hss]
    rcases h3 with ⟨b, h4, h5, h6⟩ | ⟨h4, h5, h6⟩
    · refine .inl ⟨b, h4, h5, ?_⟩
      rcases h6 with ⟨h7, h8, h9⟩ | ⟨h7, h8, h9⟩
      · exact .inl ⟨h7, hact h8 h9⟩
      · exact .inr ⟨h7, skip_fr h8 (fun d hd => hs d (.inr (h9 d hd)))⟩
    · exact .inr ⟨h4, skip_fr h5 (fun d hd => hs d (.inr (h6 d hd)))⟩

/-- One operation of a region, on the machine. -/
theorem op_ok (hV : EnvOk V) (hT : TOk P T) (hΓ : ∀ c ∈ Γ, Sound P c) (hno : ∀ c ∈ Γ, c.ps.all PK.noOut = true) {ops : Array Oper} {i : Nat} (hi : ops[i]? = some o) (hok : DstOk V o) (hguard : ∀ j want, o.guard = some (j, want) → ∀ s, (ops[j]?).bind (·.dst) = some s → s < V.nt)
    {U : Upd} (h : OpRes Γ T ops o st U) {a : Act} {w : World} (hr : Rel P V st a w) {K : Act → World → Prop} {Q : Exit → Act → World → Prop} (hK : ∀ a' w', Rel P V (look U st) a' w' → K a' w') : wpOp P ops Q i K a w := by
  obtain ⟨W, hr⟩ := hr
  unfold wpOp
  simp only [hi]
  have hgo : act Γ T o st some = some U → o.wp P a w K Q := by
    intro h1
    obtain ⟨U', h2, h3⟩ := act_ok hV hT hΓ hno hok h1
    cases h2
    exact h3 W a w hr K Q hK
  have hskip : U = skipU st o → K (a.put o.dst undef) w := by
    intro e
    refine hK _ _ ?_
    subst e
    unfold skipU
    cases hd : o.dst with
    | none => exact ⟨W, hr⟩
    | some d => exact hr.putLs hV d (hok d hd).1 (hok d hd).2 _ .und [] undef [] (Nat.lt_succ_self _) ⟨rfl, rfl⟩ trivial
  unfold OpRes at h
  cases hg : o.guard with
  | none =>
    rw [hg] at h
    have hw : Region.wanted o (yielded ops a.tmps) = true := by simp [Region.wanted, hg]
    rw [if_pos hw]
    exact .inl (hgo h)
  | some jw =>
    obtain ⟨j, want⟩ := jw
    rw [hg] at h
    obtain ⟨s, h1, h2⟩ := h
    have hsn := hguard j want hg s h1
    have hsB : s < B0 := Nat.lt_of_lt_of_le hsn hV.nt
    have hslot := hr.slots s hsB
    have hsz : s < a.tmps.size := by rw [hr.nt]; exact hsn
    have hget : a.tmps[s]? = some (a.tmps.getD s undef) := by
      rw [Array.getD_eq_getD_getElem?, Array.getElem?_eq_getElem hsz]
      rfl
    rcases h2 with ⟨b, h3, h4, h5⟩ | ⟨h3, h5⟩
    · have hlen := hr.len s
      rw [h4] at hlen
      rw [h3] at hslot
      have hslot : W.cs s = [a.tmps.getD s undef] := hslot
      have hv := hr.leaf s 0 (.bool b) (a.tmps.getD s undef) (by rw [h4]; rfl) (by rw [hslot]; rfl)
      have hv : a.tmps.getD s undef = .bool b := hv
      have hy : yielded ops a.tmps j = some b := by simp [yielded, h1, hget, hv]
      rcases h5 with ⟨rfl, h6⟩ | ⟨h6, h7⟩
      · have hw : Region.wanted o (yielded ops a.tmps) = true := by simp [Region.wanted, hg, hy]
        rw [if_pos hw]
        exact .inl (hgo h6)
      · have hw : Region.wanted o (yielded ops a.tmps) = false := by
          simp only [Region.wanted, hg, hy]
          cases b <;> cases want <;> simp at h6 <;> rfl
        rw [hw]
        exact hskip h7
    · rw [h3] at hslot
      obtain ⟨hv, _⟩ := hslot
      have hy : yielded ops a.tmps j = none := by
        unfold yielded
        rw [h1, Option.bind_some, hget, hv]
        rfl
      have hw : Region.wanted o (yielded ops a.tmps) = false := by simp [Region.wanted, hg, hy]
      rw [hw]
      exact hskip h5

/-! ### The order of the text -/
def Run (Γ : List Ctr) (T : TypeId → TI) (all : Array Oper) : St → List Oper → List Upd → List Trace → St → Prop
  | st, [], [], [], st' => st' = st
  | st, o :: os, U :: us, t :: ts, st' => OpDone Γ T all o st U t ∧ Run Γ T all (look U st) os us ts st'
  | _, _, _, _, _ => False

theorem opsK_run : ∀ (os : List Oper) (st : St) (ts : List Trace) (κ : St → List Trace → Option R) (r : R), opsK Γ T all os st ts κ = some r →
    ∃ us ts' st', Run Γ T all st os us ts' st' ∧ κ st' (ts ++ ts') = some r
  | [], st, ts, κ, r, h => ⟨[], [], st, rfl, by simpa [opsK] using h⟩
  | o :: os, st, ts, κ, r, h => by
    simp only [opsK] at h
    obtain ⟨U, t, h1, h2⟩ := opK_res h
    obtain ⟨us, ts', st', h3, h4⟩ := opsK_run os (look U st) (ts ++ [t]) κ r h2
    exact ⟨U :: us, t :: ts', st', ⟨h1, h3⟩, by rw [List.append_assoc] at h4; exact h4⟩

theorem OpDone.res {U : Upd} {t : Trace} (h : OpDone Γ T all o st U t) : OpRes Γ T all o st U := h.frame (fun _ _ => rfl)

theorem text_ok (hV : EnvOk V) (hT : TOk P T) (hΓ : ∀ c ∈ Γ, Sound P c) (hno : ∀ c ∈ Γ, c.ps.all PK.noOut = true) {ops : Array Oper} (hok : ∀ (i : Nat) (o : Oper), ops[i]? = some o → DstOk V o)
    (hguard : ∀ (i : Nat) (o : Oper), ops[i]? = some o → ∀ j want, o.guard = some (j, want) → ∀ s, (ops[j]?).bind (·.dst) = some s → s < V.nt) {Q : Exit → Act → World → Prop} :
    ∀ (os : List Oper) (k : Nat) (st : St) (us : List Upd) (ts : List Trace) (st' : St), ops.toList.drop k = os → Run Γ T ops st os us ts st' → (∀ a w, Rel P V st' a w → Q .normal a w) →
      ∀ a w, Rel P V st a w → wpOps P ops Q (List.range' k os.length) a w
  | [], k, st, [], [], st', _, h, hQ, a, w, hr => by
    have h : st' = st := h
    subst h
    exact hQ a w hr
  | o :: os, k, st, U :: us, t :: ts, st', hk, h, hQ, a, w, hr => by
    obtain ⟨h1, h2⟩ := h
    have hi : ops[k]? = some o := by
      have : (ops.toList.drop k)[0]? = some o := by rw [hk]; rfl
      rw [List.getElem?_drop] at this
      simpa using this
    rw [List.length_cons, List.range'_succ, wpOps_cons]
    refine op_ok hV hT hΓ hno hi (hok k o hi) (hguard k o hi) h1.res hr (fun a' w' hr' => ?_)
    exact text_ok hV hT hΓ hno hok hguard os (k + 1) (look U st) us ts st' (by rw [← List.drop_drop, hk]; rfl) h2 hQ a' w' hr'

end
end Go.Proofs.YthgnfidnmnkeaaaGreatEv
