/- Code. -/
import Derived.Test.YthgnfidnmnkeaaaGreatEv23
namespace Go.Proofs.YthgnfidnmnkeaaaGreatEv
open Go Go.RowKit

section
variable {P : Program} {V : Env} {Γ : List Ctr} {T : TypeId → TI} {R : Type}

open Classical in
theorem wp_loop_fuel {Q : Exit → Act → World → Prop} {a : Act} {w : World} {c : Code} (J : Nat → Act → World → Prop) (h0 : ∃ n, J n a w) (hz : ∀ a w, ¬ J 0 a w)
    (round : ∀ n a w, J (n + 1) a w → c.wp P (Exit.then (J n) Q) a w) : (Code.loop c).wp P Q a w := by
  have least : ∀ (a : Act) (w : World) (n : Nat), J n a w → ∃ m, J m a w ∧ m ≤ n ∧ ∀ k, J k a w → m ≤ k := by
    intro a w n
    induction n using Nat.strongRecOn with
    | ind n ih =>
      intro hn
      by_cases h : ∃ k, k < n ∧ J k a w
      · obtain ⟨k, hk, hJ⟩ := h
        obtain ⟨m, h1, h2, h3⟩ := ih k hk hJ
        exact ⟨m, h1, by omega, h3⟩
      · refine ⟨n, hn, Nat.le_refl _, fun k hk => ?_⟩
        apply Classical.byContradiction
        intro hlt
        exact h ⟨k, by omega, hk⟩
  let μ : Act → World → Nat := fun a w => if h : ∃ m, J m a w ∧ ∀ k, J k a w → m ≤ k then h.choose else 0
  have hμ : ∀ a w n, J n a w → J (μ a w) a w ∧ μ a w ≤ n := by
    intro a w n hn
    obtain ⟨m, h1, _, h3⟩ := least a w n hn
    have h : ∃ m, J m a w ∧ ∀ k, J k a w → m ≤ k := ⟨m, h1, h3⟩
    have e : μ a w = h.choose := by simp only [μ]; rw [dif_pos h]
    rw [e]
    exact ⟨h.choose_spec.1, h.choose_spec.2 n hn⟩
  refine wp_loop (fun a w => ∃ n, J n a w) μ h0 fun a w ⟨n, hn⟩ => ?_
  obtain ⟨h1, _⟩ := hμ a w n hn
  cases hm : μ a w with
  | zero => rw [hm] at h1; exact absurd h1 (hz a w)
  | succ m =>
    rw [hm] at h1
    refine wp_mono (round m a w h1) fun e a' w' he => ?_
    cases e with
    | normal =>
      have h2 : J m a' w' := he
      exact ⟨⟨m, h2⟩, Nat.lt_succ_of_le (hμ a' w' m h2).2⟩
    | _ => exact he

theorem cond_val {st : St} {a : Act} {w : World} (hr : Rel P V st a w) {t : Nat} {b : Bool} (h1 : (st t).sh = .one) (h2 : (st t).ls = [.bool b]) : a.eval (.tmp t) = .bool b := by
  obtain ⟨W, hr⟩ := hr
  have htB : t < B0 := by
    apply Classical.byContradiction
    intro hn
    rcases hr.boxes t (by omega) with ⟨h3, _⟩ | ⟨h3, _⟩ <;> rw [h1] at h3 <;> cases h3
  have hslot := hr.slots t htB
  rw [h1] at hslot
  have hslot : W.cs t = [a.tmps.getD t undef] := hslot
  have hv := hr.leaf t 0 (.bool b) (a.tmps.getD t undef) (by rw [h2]; rfl) (by rw [hslot]; rfl)
  exact hv

theorem ev_ok (hV : EnvOk V) (hT : TOk P T) (hΓ : ∀ c ∈ Γ, Sound P c) (hno : ∀ c ∈ Γ, c.ps.all PK.noOut = true) (hmix : P.follows .mixedOrders = true) (hfb : V.fixb = []) {nt : Nat} {fix : List Nat} (hnt : V.nt = nt) (hfix : ∀ x ∈ V.fixt, x.1 ∈ fix)
    {L : List (Nat × List (Nat × List Coe))} {fuel : Nat} : ∀ (c : Code), codeOk nt fix c = true → ∀ (st : St) (κ : Ex → St → Option R) (r : R) (Q : Exit → Act → World → Prop), evK Γ T L fuel c st κ = some r →
      (∀ ex s1, κ ex s1 = some r → ∀ a w, Rel P V s1 a w → Q (exOf ex) a w) → ∀ a w, Rel P V st a w → c.wp P Q a w := by
  intro c
  induction c with
  | skip => exact fun _ st κ r Q h hQ a w hr => wp_skip (hQ .normal st h a w hr)
  | region id ops draw =>
    intro hc st κ r Q h hQ a w hr
    simp only [codeOk, List.all_eq_true] at hc
    have hmem : ∀ (i : Nat) (o : Oper), ops[i]? = some o → operOk nt fix ops o = true := fun i o hi => hc o (by simpa using Array.mem_of_getElem? hi)
    refine reg_ok hV hT hΓ hno hmix (fun i o hi => operOk_dst hnt hfix (hmem i o hi)) (fun i o hi j want hg s hs => ?_) h (fun s1 h1 a w hr => hQ .normal s1 h1 a w hr) hr
    have := hmem i o hi
    simp only [operOk, hg, hs, Bool.and_eq_true] at this
    rw [hnt]
    simpa [Nat.blt_eq] using this.2
  | seq x y ihx ihy =>
    intro hc st κ r Q h hQ a w hr
    simp only [codeOk, Bool.and_eq_true] at hc
    simp only [evK] at h
    refine wp_seq (ihx hc.1 st _ r _ h (fun ex s1 h1 a w hr => ?_) a w hr)
    cases ex with
    | normal => exact ihy hc.2 s1 κ r Q h1 hQ a w hr
    | exit id => exact hQ (.exit id) s1 h1 a w hr
    | ret => exact hQ .ret s1 h1 a w hr
  | cond t x y ihx ihy =>
    intro hc st κ r Q h hQ a w hr
    simp only [codeOk, Bool.and_eq_true] at hc
    simp only [evK] at h
    unfold condK at h
    split at h
    · rename_i t
      split at h
      · rename_i b h1 h2
        have hv := cond_val hr h1 h2
        cases b with
        | true =>
          simp only [cond_true] at h
          rw [lit_same h1 h2] at h
          exact wp_cond_true hv (ihx hc.1 st κ r Q h hQ a w hr)
        | false =>
          simp only [cond_false] at h
          rw [lit_same h1 h2] at h
          exact wp_cond_false hv (ihy hc.2 st κ r Q h hQ a w hr)
      · cases h
    · rename_i b
      cases b with
      | true => exact wp_cond_true rfl (ihx hc.1 st κ r Q h hQ a w hr)
      | false => exact wp_cond_false rfl (ihy hc.2 st κ r Q h hQ a w hr)
    · cases h
  | block id c ih =>
    intro hc st κ r Q h hQ a w hr
    simp only [codeOk] at hc
    simp only [evK] at h
    refine wp_block (ih hc st _ r _ h (fun ex s1 h1 a w hr => ?_) a w hr)
    cases ex with
    | normal => exact hQ .normal s1 h1 a w hr
    | exit id' =>
      simp only [kBlock] at h1
      show if id' = id then Q .normal a w else Q (.exit id') a w
      by_cases e : id' = id
      · rw [if_pos e]
        subst e
        simp only [Nat.beq_refl, cond_true] at h1
        exact hQ .normal s1 h1 a w hr
      · rw [if_neg e]
        have hb : Nat.beq id' id = false := by
          cases hb : Nat.beq id' id with
          | false => rfl
          | true => exact absurd (Nat.eq_of_beq_eq_true hb) e
        rw [hb] at h1
        exact hQ (.exit id') s1 h1 a w hr
    | ret => exact hQ .ret s1 h1 a w hr
  | loop c ih =>
    intro hc st κ r Q h hQ a w hr
    simp only [codeOk] at hc
    simp only [evK] at h
    refine wp_loop_fuel (fun n a w => ∃ st, evLoop (liveOf L (loopKey c)) (evK Γ T L fuel c) n st κ = some r ∧ Rel P V st a w) ⟨fuel, _, h, norm_ok hV hfb hr _⟩ ?_ ?_
    · rintro a w ⟨st, h1, _⟩
      cases h1
    · rintro n a w ⟨st, h1, hr⟩
      simp only [evLoop] at h1
      refine ih hc st _ r _ h1 (fun ex s1 h2 a w hr => ?_) a w hr
      cases ex with
      | normal => exact ⟨_, h2, norm_ok hV hfb hr _⟩
      | exit id => exact hQ (.exit id) s1 h2 a w hr
      | ret => exact hQ .ret s1 h2 a w hr
  | exit id => exact fun _ st κ r Q h hQ a w hr => wp_exit (hQ (.exit id) st h a w hr)
  | ret => exact fun _ st κ r Q h hQ a w hr => wp_ret (hQ .ret st h a w hr)
  | _ => intro _ st κ r Q h; simp [evK] at h

end
end Go.Proofs.YthgnfidnmnkeaaaGreatEv
