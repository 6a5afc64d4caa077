/- Every operation. -/
import Derived.Test.YthgnfidnmnkeaaaGreatEv16
namespace Go.Proofs.YthgnfidnmnkeaaaGreatEv
open Go Go.RowKit

section
variable {P : Program} {V : Env} {Γ : List Ctr} {T : TypeId → TI} {st : St} {o : Oper} {R : Type} {κ : Upd → Option R} {r : R}

theorem xs_args {W : Wit} {a : Act} {w : World} (h : RelAt P V W st a w) : ∀ (l : List Operand), XsOk P V W st w (l.map (opnd st)) (l.map a.eval)
  | [] => rfl
  | x :: l => by
    obtain ⟨cs, h1, h2⟩ := opnd_ok h x
    exact ⟨a.eval x, l.map a.eval, cs, rfl, h1, h2, xs_args h l⟩

theorem xs_append {W : Wit} {w : World} : ∀ {xs ys : List (Shape × List Leaf)} {vs us : List Value}, XsOk P V W st w xs vs → XsOk P V W st w ys us → XsOk P V W st w (xs ++ ys) (vs ++ us)
  | [], _, _, _, h1, h2 => by rw [show _ = _ from h1]; exact h2
  | x :: xs, _, _, _, ⟨v, vs', cs, e, h3, h4, h5⟩, h2 => by
    subst e
    exact ⟨v, _, cs, rfl, h3, h4, xs_append h5 h2⟩

/-- The call of a function value. -/
theorem wp_call {a : Act} {w : World} {c : Call} {x : Operand} {f : FuncId} {caps : Array Value} (hop : o.op = .call c) (hc : c.callee = .value x) (hv : a.eval x = .func (.func f) #[] caps) (he : EnterOk P f) {next : Act → World → Prop} {Q : Exit → Act → World → Prop}
    (hcalls : Calls P f (c.args.map a.eval ++ caps) w (fun e w' => ∃ v, e = .returned v ∧ next (a.put o.dst v) w')) : o.wp P a w next Q := by
  unfold Oper.wp
  have hrun : (execOp a.eval o).run P w = .ok (.enter f (c.args.map a.eval ++ caps)) w := by
    have := he (c.args.map a.eval ++ caps) w
    simp [execOp, hop, resolve, hc, hv, Deferred.ofValue, invoke, this]
  rw [hrun, Oper.upon_enter]
  refine hcalls.mono fun e w' => ?_
  rintro ⟨v, rfl, hn⟩
  exact hn

theorem getTup_ok (hV : EnvOk V) {W : Wit} {a : Act} {w : World} (h : RelAt P V W st a w) : ∀ (As : List Ty) (xs : List (Shape × List Leaf)) (vs : List Value) (x : Tup As), XsOk P V W st w xs vs → getTup st As xs = some x →
    TupOk w (fun k => k < w.heap.size) As x vs
  | [], [], vs, _, hx, _ => hx
  | [], _ :: _, _, _, _, hg => by simp [getTup] at hg
  | _ :: _, [], _, _, _, hg => by simp [getTup] at hg
  | b :: As, x :: xs, vs, z, ⟨v, vs', cs, e, hs, hl, hrest⟩, hg => by
    subst e
    simp only [getTup] at hg
    cases hb : decide (x.1 = shOf b.isAgg) with
    | false => simp [hb] at hg
    | true =>
      simp only [hb, cond_true] at hg
      have hb := of_decide_eq_true hb
      rw [hb] at hs
      split at hg
      · rename_i p y hy
        simp only [Option.map_eq_some_iff] at hg
        obtain ⟨t, ht, rfl⟩ := hg
        have hrd := gatherAll_ok h hl hy
        refine ⟨v, cs, vs', rfl, valOk_of hs, hrd.mono (fun k hk => ?_), getTup_ok hV h As xs vs' t hrest ht⟩
        rcases hk with (hk | ⟨_, hk⟩) | ⟨z, hz, hk⟩
        · exact (h.nwlt k hk).1
        · exact Nat.lt_of_lt_of_le (hV.ro k hk).1 h.size
        · obtain ⟨l, h1, h2⟩ := owned_place h hz
          exact h.own_lt h1 h2 k hk
      · cases hg

theorem act_value (hV : EnvOk V) (hΓ : ∀ c ∈ Γ, Sound P c) (hno : ∀ c ∈ Γ, c.ps.all PK.noOut = true) (hok : DstOk V o) {c : Call} {f : Operand} (hop : o.op = .call c) (hc : c.callee = .value f)
    (h : act Γ T o st κ = some r) : Sounds P V o st κ r := by
  simp only [act, wrU, hop, hc] at h
  split at h
  · cases h
  · rename_i d hd
    split at h
    · rename_i g caps hf
      obtain ⟨he, U, hU, hcalls⟩ := call_ok hV hΓ hno (hok d hd).1 (hok d hd).2 h
      refine ⟨U, hU, fun W a w hr next Q hn => ?_⟩
      obtain ⟨hv, _, _, _, _⟩ := one_ok hr f (by rw [hf]; simp)
      rw [hf] at hv
      have hxs := xs_append (xs_args hr c.args.toList) (xs_caps (P := P) (V := V) (w := w) caps hv.2)
      have := hcalls W a w hr _ hxs
      have e : (c.args.toList.map a.eval ++ caps.map fun b => Value.pointer (some ⟨W.β b, 0, none⟩)).toArray = c.args.map a.eval ++ (caps.map fun b => Value.pointer (some ⟨W.β b, 0, none⟩)).toArray := by
        apply Array.ext'
        simp
      rw [e] at this
      refine wp_call hop hc hv.1 he (this.mono fun e w' => ?_)
      rintro ⟨v, rfl, hrel⟩
      refine ⟨v, rfl, hn _ _ ?_⟩
      rw [hd]
      exact hrel
    · rename_i As B φ hf
      cases hb : B.flat with
      | false => simp [hb] at h
      | true =>
        simp only [hb, cond_true] at h
        split at h
        · rename_i x hx
          obtain ⟨y, hy, h⟩ := Option.bind_eq_some_iff.1 h
          simp only [hd] at h
          refine ⟨_, h, fun W a w hr next Q hn => ?_⟩
          obtain ⟨hv, _, _, _, _⟩ := one_ok hr f (by rw [hf]; simp)
          rw [hf] at hv
          obtain ⟨f', caps, hv, he, hcalls⟩ := hv
          have htup := getTup_ok hV hr As _ _ x (xs_args hr c.args.toList) hx
          have := hcalls w hr.size hr.keep x _ y htup hy
          have e : (c.args.toList.map a.eval).toArray = c.args.map a.eval := by apply Array.ext'; simp
          rw [e] at this
          refine wp_call hop hc hv he (this.mono fun e w' => ?_)
          rintro ⟨u, cs, rfl, hvo, hrd, hbelow⟩
          refine ⟨u, rfl, hn _ _ ?_⟩
          rw [hd]
          have hr2 := hr.below hV hbelow
          exact hr2.putLs hV d (hok d hd).1 (hok d hd).2 _ _ _ u cs (Nat.lt_succ_self _) (shOf_ok hvo) (leaves_ok (fun _ h => h.elim) hrd)
        · cases h
    · cases h

/-- Every operation is as the evaluator says. -/
theorem act_ok (hV : EnvOk V) (hT : TOk P T) (hΓ : ∀ c ∈ Γ, Sound P c) (hno : ∀ c ∈ Γ, c.ps.all PK.noOut = true) (hok : DstOk V o) (h : act Γ T o st κ = some r) : Sounds P V o st κ r := by
  cases hop : o.op with
  | move x => exact act_move hV hok hop h
  | assign x => exact act_assign hV hok hop h
  | pick c x y => exact act_pick hV hok hop h
  | alloc t => exact act_alloc hV hT hok hop h
  | box t x => exact act_box hV hok hop h
  | build t parts => exact act_build hV hT hok hop h
  | buildSlice t n parts => exact act_buildSlice hV hT hok hop h
  | load t x => exact act_load hV hT hok hop h
  | store t x y => exact act_store hV hT hop h
  | nilCheck x => exact act_nilCheck hV hok hop h
  | binOp op t x y t' => exact act_binOp hV hT hok hop h
  | unOp op t x => exact act_unOp hV hok hop h
  | convert s t x => exact act_convert hV hT hok hop h
  | makeSlice t n c => exact act_makeSlice hV hT hok hop h
  | slice t x lo hi mx => exact act_slice hV hT hok hop h
  | fieldAddr t x f => exact act_fieldAddr hV hT hok hop h
  | field t x f => exact act_field hV hT hok hop h
  | indexAddr t x i => exact act_indexAddr hV hT hok hop h
  | index t x i => exact act_index hV hT hok hop h
  | extract x i => exact act_extract hV hok hop h
  | makeFunc fn first caps => exact act_makeFunc hV hok hop h
  | call c =>
    cases hc : c.callee with
    | value f => exact act_value hV hΓ hno hok hop hc h
    | builtin b =>
      cases b with
      | len => exact act_len hV hT hok hop hc h
      | append => exact act_append hV hT hok hop hc h
      | min => exact act_min hV hok hop hc h
      | max => exact act_max hV hok hop hc h
      | _ =>
        simp only [act, wrU, hop, hc] at h
        split at h <;> cases h
    | _ =>
      simp only [act, wrU, hop, hc] at h
      split at h <;> cases h
  | _ => simp [act, wrU, hop] at h

end
end Go.Proofs.YthgnfidnmnkeaaaGreatEv
