/- A function. -/
import Derived.Test.YthgnfidnmnkeaaaGreatEv26
namespace Go.Proofs.YthgnfidnmnkeaaaGreatEv
open Go Go.RowKit

section
variable {P : Program} {Γ : List Ctr} {T : TypeId → TI} {w : World} {ro : Nat → Prop}

theorem outs_none {w : World} {G : Nat → Prop} : ∀ (ps : List PK) (o : Outs ps) (vs : List Value), ps.all PK.noOut = true → OutsOk w G ps o vs
  | [], _, _, _ => by simp [OutsOk]
  | p :: ps, o, [], h => by cases p <;> simp [OutsOk]
  | p :: ps, o, v :: vs, h => by
    simp only [List.all_cons, Bool.and_eq_true] at h
    cases p with
    | io E e => simp [PK.noOut] at h
    | iop a => simp [PK.noOut] at h
    | _ => exact outs_none ps o vs h.2

theorem blocks_givens : ∀ (ps : List PK) (vs : List Value), ps.all PK.noOut = true → blocks ps vs = givens ps vs
  | [], _, _ => by simp [blocks, givens]
  | p :: ps, [], h => by simp [blocks, givens]
  | p :: ps, v :: vs, h => by
    simp only [List.all_cons, Bool.and_eq_true] at h
    have : p.lent v = [] := by cases p <;> first | rfl | (simp [PK.noOut] at h)
    simp [blocks, givens, this, blocks_givens ps vs h.2]

theorem tupSh_len : ∀ {ps : List (Bool × Nat)} {vs cs : List Value}, TupSh ps vs cs → vs.length = ps.length
  | [], _, _, h => by rw [h.1]; rfl
  | (_, _) :: ps, _, _, ⟨_, _, _, _, e, _, _, _, h⟩ => by rw [e, List.length_cons, List.length_cons, tupSh_len h]

theorem resCont_ls (l : List (Bool × List Leaf)) : (resCont 0 l).ls = l.flatMap (·.2) := by
  unfold resCont
  split
  · simp
  · rw [List.flatMap_def]

theorem resCont_sh {l : List (Bool × List Leaf)} {vals cs : List Value} (h : TupSh (l.map fun x => (x.1, x.2.length)) vals cs) : ShOk (resCont 0 l).sh (if h : vals.toArray.size = 1 then vals.toArray[0] else .tuple vals.toArray) cs := by
  have hlen := tupSh_len h
  unfold resCont
  split
  · rename_i agg ls
    obtain ⟨v, vs', c, cs', rfl, rfl, _, h3, h4⟩ := h
    obtain ⟨rfl, rfl⟩ := h4
    simp only [List.append_nil]
    exact shOf_ok h3
  · rename_i hne
    have : ¬ vals.toArray.size = 1 := by
      simp only [List.size_toArray, hlen, List.length_map]
      intro e
      match l, e with
      | [(agg, ls)], _ => exact hne agg ls rfl
    rw [dif_neg this]
    exact ⟨vals, rfl, h⟩

theorem run_results {fn : Func} {a : Act} {w : World} {vals : List Value} (h : RunsOk P a w fn.results.toList vals) : (results fn a.tmps).run P w = .ok (if h : vals.toArray.size = 1 then vals.toArray[0] else .tuple vals.toArray) w := by
  have h1 := runs_mapM _ _ h
  have e : results fn a.tmps = (fn.results.mapM (varSem a) >>= fun vs => pure (if h : vs.size = 1 then vs[0] else .tuple vs)) := by
    unfold results
    congr 1
  have h2 : (fn.results.mapM (varSem a)).run P w = .ok vals.toArray w := by
    rw [Array.mapM_eq_mapM_toList]
    simp [h1]
  rw [e]
  simp only [Sem.run_bind, h2, Result.andThen_ok, Sem.run_pure]

theorem gather_new {V : Env} {W : Wit} {st : St} : ∀ (b : Ty) (ls : List Leaf) (q : Bool) (x : b.den) (rest : List Leaf), (∀ l ∈ ls, (∀ q E e xs, deref st l = .ro q E e xs → q = false) ∧ ∀ q E e xs, deref st l = .own q E e xs → q = false) →
    gather st b ls = some (q, x, rest) → q = false ∧ ∃ l1, ls = l1 ++ rest
  | .int k, ls, q, x, rest, hn, hg => by
    have hs := gather_suffix _ _ _ _ _ hg
    simp only [gather] at hg
    split at hg
    · split at hg
      · simp at hg; exact ⟨hg.1.symm ▸ rfl, hs⟩
      · cases hg
    · cases hg
  | .bool, ls, q, x, rest, hn, hg => by
    have hs := gather_suffix _ _ _ _ _ hg
    simp only [gather] at hg
    split at hg
    · simp at hg; exact ⟨hg.1.symm ▸ rfl, hs⟩
    · cases hg
  | .str, ls, q, x, rest, hn, hg => by
    have hs := gather_suffix _ _ _ _ _ hg
    simp only [gather] at hg
    split at hg
    · simp at hg; exact ⟨hg.1.symm ▸ rfl, hs⟩
    · cases hg
  | .unit, ls, q, x, rest, hn, hg => by
    have hs := gather_suffix _ _ _ _ _ hg
    simp only [gather, Option.some.injEq, Prod.mk.injEq] at hg
    exact ⟨hg.1.symm, hs⟩
  | .pair b c, ls, q, x, rest, hn, hg => by
    have hs := gather_suffix _ _ _ _ _ hg
    simp only [gather] at hg
    split at hg
    · rename_i q1 y ls1 hb
      split at hg
      · rename_i q2 z ls2 hc
        simp at hg
        obtain ⟨h1, l1, e1⟩ := gather_new (V := V) (W := W) b ls q1 y ls1 hn hb
        obtain ⟨h2, _⟩ := gather_new (V := V) (W := W) c ls1 q2 z ls2 (fun l hl => hn l (by rw [e1]; exact List.mem_append_right _ hl)) hc
        refine ⟨?_, hs⟩
        rw [← hg.1, h1, h2]
        rfl
      · cases hg
    · cases hg
  | .list E e, ls, q, x, rest, hn, hg => by
    have hs := gather_suffix _ _ _ _ _ hg
    refine ⟨?_, hs⟩
    simp only [gather] at hg
    split at hg
    · rename_i l ls1
      split at hg
      · rename_i q1 ys ha
        simp at hg
        obtain ⟨h1, h2⟩ := hn l (List.mem_cons_self ..)
        rw [← hg.1]
        generalize deref st l = d at h1 h2 ha
        cases d with
        | ro q' E' e' xs => simp only [asList, Option.map_eq_some_iff, Prod.mk.injEq] at ha; obtain ⟨_, _, e1, _⟩ := ha; rw [← e1]; exact h1 _ _ _ _ rfl
        | own q' E' e' xs => simp only [asList, Option.map_eq_some_iff, Prod.mk.injEq] at ha; obtain ⟨_, _, e1, _⟩ := ha; rw [← e1]; exact h2 _ _ _ _ rfl
        | nil => simp [asList] at ha; exact ha.1.symm ▸ rfl
        | _ => simp [asList] at ha
      · cases hg
    · cases hg

/-- The end of a function. -/
theorem fin_ok (hT : TOk P T) {c : Ctr} (hno : c.ps.all PK.noOut = true) (hrs : rsOk c.rs = true) {vs : List Value} {fn : Func} {nt : Nat} (hV : EnvOk (envOf w ro c.ps vs nt)) {ex : Ex} {s1 : St} {y : Ress c.rs × Outs c.ps}
    (hfin : finK T c.ps c.rs c.fresh fn.results.toList ex s1 = some y) {a : Act} {w' : World} (hr : Rel P (envOf w ro c.ps vs nt) s1 a w') :
    (ex = .normal ∨ ex = .ret) ∧ ∃ v, (results fn a.tmps).run P w' = .ok v w' ∧ Post c w ro vs y (.returned v) w' := by
  obtain ⟨W, hr⟩ := hr
  have hmain : ex ≠ .exit 0 ∨ True := .inr trivial
  have hex : ex = .normal ∨ ex = .ret := by
    cases ex with
    | normal => exact .inl rfl
    | ret => exact .inr rfl
    | exit id => cases hfin
  refine ⟨hex, ?_⟩
  have hfin : finR T c.ps c.rs c.fresh fn.results.toList s1 = some y := by
    rcases hex with rfl | rfl <;> exact hfin
  unfold finR at hfin
  cases hdis : distinct (owned s1 (fn.results.toList.flatMap (resLs s1 T))) with
  | false => rw [hdis] at hfin; cases hfin
  | true =>
    rw [hdis] at hfin
    simp only [cond_true] at hfin
    split at hfin
    · rename_i yr yo hyr _
      simp only [Option.some.injEq] at hfin
      subst hfin
      have hfr : ∀ k, k < w'.heap.size → ¬ (envOf w ro c.ps vs nt).prot k → Fresh w w' (givens c.ps vs) k := by
        intro k hk hp
        refine ⟨hk, ?_⟩
        by_cases hlt : k < w.heap.size
        · right
          rw [← blocks_givens c.ps vs hno]
          apply Classical.byContradiction
          intro hn
          exact hp ⟨hlt, hn⟩
        · exact .inl (by omega)
      have hframe : ∀ k, k < w.heap.size → k ∉ blocks c.ps vs → w'.heap[k]? = w.heap[k]? := fun k h1 h2 => hr.keep k ⟨h1, h2⟩
      have hsz : w.heap.size ≤ w'.heap.size := hr.size
      have hos : w'.os = w.os := hr.os
      have htp : w'.tape = w.tape := hr.tape
      have hou : w'.output = w.output := hr.output
      cases hv : c.rs.all RK.isV with
      | true =>
        let FL : List Leaf := (rsLs false c.rs yr).flatMap (·.2)
        let LS : List Leaf := fn.results.toList.flatMap (resLs s1 T)
        let N : Nat → Prop := fun k => W.nw k ∨ ∃ (j r i v : Nat), LS[j]? = some (Leaf.al r i v) ∧ isOwn (deref s1 (.al r i v)) ∧ (∀ l : Leaf, FL[j]? = some l → ¬ isOwn l) ∧ k ∈ W.bs r i
        obtain ⟨vals, cs, h1, h2, h3, h4, h5, h6⟩ := ress_ok hV hT hr (fresh := c.fresh) (G := fun k => N k ∨ (c.fresh = false ∧ ro k)) (fun k hk => .inl (.inl hk)) (fun hf k hk => .inr ⟨hf, hk⟩) c.rs fn.results.toList yr hv hyr
          (fun j r i v hj ho hn k hk => .inl (.inr ⟨j, r, i, v, hj, ho, hn, hk⟩))
        have hplace : ∀ {j r i v : Nat}, LS[j]? = some (.al r i v) → isOwn (deref s1 (.al r i v)) → ∃ l, (s1 r).ls[i]? = some l ∧ isOwn l := fun {j r i v} hj ho => owned_place hr (x := (r, i)) (owned_mem hj ho)
        have hNF : ∀ k, N k → Fresh w w' (givens c.ps vs) k := by
          rintro k (hk | ⟨j, r, i, v, hj, ho, _, hk⟩)
          · exact hfr k (hr.nwlt k hk).1 (hr.nwlt k hk).2
          · obtain ⟨l, h7, h8⟩ := hplace hj ho
            exact hfr k (hr.own_lt h7 h8 k hk) (hr.ownb r i l h7 h8 k hk).2.1
        refine ⟨_, run_results h1, _, N, rfl, hsz, hos, htp, hou, hframe, hNF, outs_none c.ps _ vs hno, ⟨fun _ => ⟨cs, bsOf W s1 LS, resCont_sh h3, h2.one', ?_, ?_, ?_, ?_⟩, ?_⟩⟩
        · intro p; rw [resCont_ls]; exact h4 p
        · intro p j l u hj hu; rw [resCont_ls] at hj; exact h6 p j l u hj hu
        · intro p j l hj ho k hk
          rw [resCont_ls] at hj
          obtain ⟨r, i, v, hj2, ho2, hk2⟩ := bsOf_mem hk
          obtain ⟨l0, h7, h8⟩ := hplace hj2 ho2
          refine ⟨hfr k (hr.own_lt h7 h8 k hk2) (hr.ownb r i l0 h7 h8 k hk2).2.1, ?_⟩
          rintro (hn | ⟨j', r', i', v', hj3, ho3, hno3, hk3⟩)
          · exact (hr.ownb r i l0 h7 h8 k hk2).1 hn
          · obtain ⟨l1, h9, h10⟩ := hplace hj3 ho3
            obtain ⟨rfl, rfl⟩ := hr.sep r i l0 r' i' l1 h7 h8 h9 h10 k hk2 hk3
            have := distinct_at hdis hj2 ho2 hj3 ho3
            subst this
            obtain ⟨l2, h11, h12⟩ := (h5 p j).1 ⟨l, hj, ho⟩
            exact hno3 l2 h11 h12
        · intro p j j' l l' hj ho hj' ho' k hk hk'
          obtain ⟨r, i, v, hj2, ho2, hk2⟩ := bsOf_mem hk
          obtain ⟨r', i', v', hj2', ho2', hk2'⟩ := bsOf_mem hk'
          obtain ⟨l0, h7, h8⟩ := hplace hj2 ho2
          obtain ⟨l1, h9, h10⟩ := hplace hj2' ho2'
          obtain ⟨rfl, rfl⟩ := hr.sep r i l0 r' i' l1 h7 h8 h9 h10 k hk2 hk2'
          exact distinct_at hdis hj2 ho2 hj2' ho2'
        · intro b hb
          rw [hb] at hv
          cases hv
      | false =>
        obtain ⟨f', ps, rs, fresh, den⟩ := c
        simp only at hrs hv hyr hno hfr hframe ⊢
        have hb : ∃ b, rs = [.box b] := by
          unfold rsOk at hrs
          split at hrs
          · exact ⟨_, rfl⟩
          · rw [hv] at hrs; cases hrs
        obtain ⟨b, rfl⟩ := hb
        have hvars : ∃ x, fn.results.toList = [x] := by
          match hl : fn.results.toList, hyr with
          | [], hyr => simp [ressOf] at hyr
          | [x], _ => exact ⟨x, rfl⟩
          | x :: x' :: xs, hyr =>
            simp only [ressOf] at hyr
            cases hsh : decide (resSh s1 T x = RK.sh (.box b)) with
            | false => simp [hsh] at hyr
            | true =>
              simp only [hsh, cond_true] at hyr
              split at hyr
              · simp at hyr
              · cases hyr
        obtain ⟨x, hx⟩ := hvars
        rw [hx] at hyr
        simp only [ressOf] at hyr
        cases hsh : decide (resSh s1 T x = RK.sh (.box b)) with
        | false => simp [hsh] at hyr
        | true =>
          simp only [hsh, cond_true] at hyr
          have hsh := of_decide_eq_true hsh
          split at hyr
          · rename_i y1 hy1
            simp only [Option.map_some, Option.some.injEq] at hyr
            subst hyr
            obtain ⟨v, cs1, hrun, hs1, hl1⟩ := var_ok hT hr x (by rw [hsh]; simp [RK.sh])
            rw [hsh] at hs1
            have hs1 : cs1 = [v] := hs1
            subst hs1
            simp only [resOf] at hy1
            split at hy1
            · rename_i b0 hls
              cases hchk : (!fresh || allNew s1 (viewFrom b0 (s1 b0).ver 0 (s1 b0).ls)) with
              | false => simp [hchk] at hy1
              | true =>
                simp only [hchk, cond_true, Option.map_eq_some_iff] at hy1
                obtain ⟨⟨q, y2⟩, hga, rfl⟩ := hy1
                rw [hls] at hl1
                obtain ⟨hB, hag, hval⟩ := hl1.1.1
                have hrun2 : RunsOk P a w' fn.results.toList [v] := by
                  rw [hx]
                  exact ⟨v, [], rfl, by cases x <;> exact hrun, rfl⟩
                have hlv : live s1 b0 := ⟨hB, hag⟩
                have hrd := gatherAll_ok hr (view_ok hr b0) hga
                rcases hr.boxes b0 hB with ⟨h8, _⟩ | ⟨_, E, h8⟩
                · rw [hag] at h8; cases h8
                · let N : Nat → Prop := fun k => W.nw k ∨ ∃ z ∈ owned s1 (viewFrom b0 (s1 b0).ver 0 (s1 b0).ls), k ∈ W.bs z.1 z.2
                  have hNF : ∀ k, N k → Fresh w w' (givens ps vs) k := by
                    rintro k (hk | ⟨z, hz, hk⟩)
                    · exact hfr k (hr.nwlt k hk).1 (hr.nwlt k hk).2
                    · obtain ⟨l, h9, h10⟩ := owned_place hr hz
                      exact hfr k (hr.own_lt h9 h10 k hk) (hr.ownb z.1 z.2 l h9 h10 k hk).2.1
                  refine ⟨_, run_results hrun2, _, N, rfl, hsz, hos, htp, hou, hframe, hNF, outs_none ps _ vs hno, ⟨fun h => (by cases h), fun b' hb' => ?_⟩⟩
                  cases hb'
                  refine ⟨W.β b0, W.cs b0, E, hval, h8, Rd.mono (fun k hk => ?_) hrd, hfr _ (hr.box_lt hlv) (hr.box b0 hlv).2, ?_⟩
                  · rcases hk with (hk | ⟨hq, hk⟩) | hk
                    · exact .inl (.inl hk)
                    · refine .inr ⟨?_, hk⟩
                      cases hf : fresh with
                      | false => rfl
                      | true =>
                        rw [hf] at hchk
                        have := (gather_new (V := envOf w ro ps vs nt) (W := W) b _ q y2 [] (allNew_res (by simpa using hchk)) (gatherAll_some hga)).1
                        rw [hq] at this
                        cases this
                    · exact .inl (.inr hk)
                  · rintro (hn | ⟨z, hz, hk⟩)
                    · exact (hr.box b0 hlv).1 hn
                    · obtain ⟨l, h9, h10⟩ := owned_place hr hz
                      exact (hr.ownb z.1 z.2 l h9 h10 _ hk).2.2 b0 hlv rfl
            · cases hy1
          · cases hyr
    · cases hfin

theorem enter_ok {f : FuncId} {fn : Func} {c : Code} (hf : P.funcs[f]? = some fn) (hn : (fn.name == "runtime.NumGoroutine") = false) (hb : fn.body = some c) : EnterOk P f := by
  intro args w
  have hn' : fn.name ≠ "runtime.NumGoroutine" := by simpa using hn
  simp [callFunc, hf, hn', hb]

/-- A FUNCTION IS WHAT THE EVALUATOR SAYS. -/
theorem fn_sound (hT : TOk P T) (hΓ : ∀ c ∈ Γ, Sound P c) (hnoΓ : ∀ c ∈ Γ, c.ps.all PK.noOut = true) (hmix : P.follows .mixedOrders = true) {c : Ctr} {fn : Func} (hf : P.funcs[c.f]? = some fn) (hn : (fn.name == "runtime.NumGoroutine") = false)
    (hno : c.ps.all PK.noOut = true) {L : List (Nat × List (Nat × List Coe))} {fuel : Nat} (hb : fn.body.isSome = true) (hden : ∀ x, evF Γ T L fuel fn c.ps c.rs c.fresh x = c.den x) : Sound P c := by
  obtain ⟨code, hb⟩ := Option.isSome_iff_exists.1 hb
  refine ⟨enter_ok hf hn hb, fun w ro x vs y hargs hro hnd hy => ?_⟩
  rw [← hden] at hy
  unfold evF at hy
  simp only [hb] at hy
  cases hchk : codeOk fn.ntmps (fixSlots 0 c.ps) code && Nat.ble c.ps.length fn.ntmps && Nat.ble fn.ntmps B0 && rsOk c.rs with
  | false => simp [hchk] at hy
  | true =>
    simp only [hchk, cond_true] at hy
    simp only [Bool.and_eq_true] at hchk
    obtain ⟨⟨⟨h1, h2⟩, h3⟩, h4⟩ := hchk
    have h2 := Nat.le_of_ble_eq_true h2
    have h3 := Nat.le_of_ble_eq_true h3
    have hV : EnvOk (envOf w ro c.ps vs fn.ntmps) := ⟨fun k hk => hro k hk, h3⟩
    have hrel := init_ok (P := P) (ro := ro) hno hargs hnd h2 h3
    refine calls_of_wp hf hb ?_
    rw [List.size_toArray]
    refine ev_ok hV hT hΓ hnoΓ hmix rfl (nt := fn.ntmps) (fix := fixSlots 0 c.ps) rfl (fun x hx => by cases hx) code h1 _ _ y _ hy (fun ex s1 hfin a' w' hr => ?_) _ _ hrel
    obtain ⟨hex, v, hrun, hpost⟩ := fin_ok hT hno h4 hV hfin hr
    have hdf : a'.defers = [] := by obtain ⟨W, hr⟩ := hr; exact hr.df
    rcases hex with rfl | rfl <;> exact ⟨hdf, v, hrun, hpost⟩

end
end Go.Proofs.YthgnfidnmnkeaaaGreatEv
