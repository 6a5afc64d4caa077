/- The call of a function with a contract. -/
import Derived.Test.YthgnfidnmnkeaaaGreatEv15
namespace Go.Proofs.YthgnfidnmnkeaaaGreatEv
open Go Go.RowKit

section
variable {P : Program} {V : Env} {Γ : List Ctr} {T : TypeId → TI} {st : St} {o : Oper} {R : Type} {κ : Upd → Option R} {r : R}

theorem killed_frees (hV : EnvOk V) {W : Wit} {a : Act} {w : World} (h : RelAt P V W st a w) (ks : List (Nat × Nat)) (hks : ∀ x ∈ ks, OwnPlace st x) : ∀ x ∈ ks, ∀ k ∈ W.bs x.1 x.2, ¬ used V W (look (killU st ks) st) k := by
  obtain ⟨_, h2, h3⟩ := killU_ok hV ks h
  intro x hx k hk hu
  obtain ⟨l, hl, ho⟩ := hks x hx
  have hown := h.ownb x.1 x.2 l hl ho
  rcases hu with hu | hu | ⟨b, hb, hu⟩ | ⟨r1, i1, l1, h4, h5, h6⟩
  · exact (hown k hk).1 hu
  · exact (hown k hk).2.1 hu
  · exact (hown k hk).2.2 b ((live_same (fun q => (h3 q).1) b).1 hb) hu
  · obtain ⟨h7, h8⟩ := h2 r1 i1 l1 h4 h5
    obtain ⟨e1, e2⟩ := h.sep r1 i1 l1 x.1 x.2 l h7 h5 hl ho k h6 hk
    exact h8 (by rw [e1, e2]; exact hx)

theorem bs_nodup {W : Wit} {a : Act} {w : World} (h : RelAt P V W st a w) : ∀ (ks : List (Nat × Nat)), (∀ x ∈ ks, OwnPlace st x) → distinct ks = true → (ks.flatMap fun x => W.bs x.1 x.2).Nodup
  | [], _, _ => by simp
  | x :: ks, hks, hd => by
    simp only [distinct, Bool.and_eq_true, Bool.not_eq_true', List.any_eq_false] at hd
    rw [List.flatMap_cons, List.nodup_append]
    obtain ⟨l, hl, ho⟩ := hks x (List.mem_cons_self ..)
    refine ⟨?_, bs_nodup h ks (fun y hy => hks y (List.mem_cons_of_mem _ hy)) hd.2, ?_⟩
    · have hj : x.2 < (W.cs x.1).length := by rw [← h.len]; exact (List.getElem?_eq_some_iff.1 hl).1
      have := h.leaf x.1 x.2 l _ hl (List.getElem?_eq_getElem hj)
      cases l <;> simp only [isOwn] at ho
      exact Ow.nodup this
    · intro k hk k' hk' e
      subst e
      obtain ⟨y, hy, hk2⟩ := List.mem_flatMap.1 hk'
      obtain ⟨l', hl', ho'⟩ := hks y (List.mem_cons_of_mem _ hy)
      obtain ⟨e1, e2⟩ := h.sep x.1 x.2 l y.1 y.2 l' hl ho hl' ho' k hk hk2
      exact hd.1 y hy (by simp [e1, e2])

theorem RelAt.nwGrow (hV : EnvOk V) {W : Wit} {a : Act} {w : World} (h : RelAt P V W st a w) (N : Nat → Prop) (hN : ∀ k, N k → k < w.heap.size ∧ ¬ used V W st k) : RelAt P V { W with nw := fun k => W.nw k ∨ N k } st a w := by
  have e : look [(0, st 0)] st = st := by
    funext q
    rcases look_cases 0 q (st 0) st with ⟨rfl, e⟩ | ⟨_, e⟩ <;> exact e
  have hstep : Step V W { W with nw := fun k => W.nw k ∨ N k } st st w w := ⟨fun r => ⟨Nat.le_refl _, fun _ => rfl⟩, fun b hb => ⟨hb, rfl⟩, fun _ h => .inl h, fun _ _ => rfl⟩
  have := h.relabel hV 0 (st 0) (fun k => W.nw k ∨ N k) (Nat.le_refl _) rfl rfl (fun _ h => .inl h)
    (fun k hk => hk.elim (h.nwlt k) (fun hk => ⟨(hN k hk).1, fun hp => (hN k hk).2 (.inr (.inl hp))⟩))
    (fun j l v h1 h2 => by rw [e]; exact (h.leaf 0 j l v h1 h2).carry hV.ro hstep (fun _ => ⟨rfl, fun _ _ => rfl⟩)) (fun j l h1 _ => h1)
    (fun q j l h1 h2 k hk hn => by
      rw [e] at h1
      rcases hn with hn | hn
      · exact (h.ownb q j l h1 h2 k hk).1 hn
      · exact (hN k hn).2 (.inr (.inr (.inr ⟨q, j, l, h1, h2, hk⟩))))
    (fun b hb hn => by
      rcases hn with hn | hn
      · exact (h.box b hb).1 hn
      · exact (hN _ hn).2 (.inr (.inr (.inl ⟨b, hb, rfl⟩))))
  rwa [e] at this

theorem pre_frz (hV : EnvOk V) {W : Wit} {a : Act} {w : World} (h : RelAt P V W st a w) (fresh : Bool) (frz : List (Nat × Nat)) (p : Bool) (hown : ∀ z ∈ frz, OwnPlace st z) :
    ∃ W1, RelAt P V W1 (look (bif fresh then [] else frzU st frz) st) a w ∧ W1.bs = W.bs ∧ (∀ k, fresh = false → reach V W p frz k → gd V W1 p k) ∧
      (∀ (r j : Nat) (l : Leaf), (r, j) ∉ frz → (st r).ls[j]? = some l → (look (bif fresh then [] else frzU st frz) st r).ls[j]? = some l) ∧
      (∀ q, (look (bif fresh then [] else frzU st frz) st q).sh = (st q).sh) := by
  cases fresh with
  | true => exact ⟨W, h, rfl, fun k hk => (by simp at hk), fun r j l _ h => h, fun q => rfl⟩
  | false =>
    obtain ⟨h1, h2, h3⟩ := frzU_ok hV frz h
    exact ⟨_, h1, rfl, fun k _ hk => reach_gd hown k hk, fun r j l hn hl => frzU_ok.frzU_keep frz hn hl, fun q => (h3 q).1⟩

theorem lv_leaf {W : Wit} {w : World} {G : Nat → Prop} {p : Bool} {bs : List Nat} {l : Leaf} {v : Value} (hG : ∀ k, G k → gd V W p k) (hw : ∀ k, G k → True) (h : LvOk w G p bs l v) : LeafOk P V W st w bs l v := by
  cases l <;> first
    | exact h
    | (obtain ⟨rfl, h⟩ := h; exact Rd.mono hG h)
    | (obtain ⟨rfl, h⟩ := h; exact Ow.carry h hG (fun _ _ => rfl) (fun _ _ => rfl))
    | exact h.elim

theorem putOuts_none : ∀ (ps : List PK) (xs : List (Shape × List Leaf)) (y : Outs ps), ps.all PK.noOut = true → putOuts st ps xs y = []
  | [], _, _, _ => by simp [putOuts]
  | p :: ps, [], y, h => by cases p <;> simp [putOuts]
  | p :: ps, x :: xs, y, h => by
    simp only [List.all_cons, Bool.and_eq_true] at h
    cases p with
    | io E e => simp [PK.noOut] at h
    | iop a => simp [PK.noOut] at h
    | _ => exact putOuts_none ps xs y h.2

theorem putRess_v (d n : Nat) (p : Bool) : ∀ (rs : List RK) (y : Ress rs), rs.all RK.isV = true → putRess d n p rs y = (rsLs p rs y, [])
  | [], _, _ => rfl
  | .v ow a :: rs, y, h => by
    simp only [List.all_cons, Bool.and_eq_true] at h
    simp [putRess, putRes, rsLs, putRess_v d n p rs y.2 h.2]
  | .box a :: rs, y, h => by simp [RK.isV] at h

theorem resCont_eq (n : Nat) (l : List (Bool × List Leaf)) : resCont n l = ⟨n, (resCont 0 l).sh, (resCont 0 l).ls⟩ := by
  unfold resCont
  split <;> rfl

theorem call_ok (hV : EnvOk V) (hΓ : ∀ c ∈ Γ, Sound P c) (hno : ∀ c ∈ Γ, c.ps.all PK.noOut = true) {d : Nat} {f : FuncId} {xs : List (Shape × List Leaf)} (hd : d < V.nt) (hfix : ∀ x ∈ V.fixt, x.1 ≠ d)
    (h : callK Γ st d f xs κ = some r) : EnterOk P f ∧ ∃ U, κ U = some r ∧ ∀ (W : Wit) (a : Act) (w : World), RelAt P V W st a w → ∀ vs, XsOk P V W st w xs vs →
      Calls P f vs.toArray w (fun e w' => ∃ v, e = .returned v ∧ Rel P V (look U st) (a.put (some d) v) w') := by
  unfold callK at h
  split at h
  · rename_i c hc
    obtain ⟨hmem, rfl⟩ := findC_mem hc
    obtain ⟨hent, hsound⟩ := hΓ c hmem
    have hno := hno c hmem
    split at h
    · rename_i g hg
      cases hchk : distinct g.kill && !(g.frz.any fun k => g.kill.any (samePlace k)) && boxOk st d c.rs with
      | false => simp [hchk] at h
      | true =>
        simp only [hchk, cond_true] at h
        simp only [Bool.and_eq_true, Bool.not_eq_true', List.any_eq_false] at hchk
        obtain ⟨⟨hdis, hfk⟩, hbox⟩ := hchk
        obtain ⟨y, hy, h⟩ := Option.bind_eq_some_iff.1 h
        refine ⟨hent, _, h, fun W a w hr vs hxs => ?_⟩
        obtain ⟨h1, h2, h3, h4, h5⟩ := getArgsBy_ok (getArgF_got hV hΓ hr) c.ps xs vs g hxs hno hg
        have hnk : ∀ z ∈ g.kill, z ∉ g.frz := by
          intro z hz hzf
          exact hfk z hzf (List.any_eq_true.2 ⟨z, hz, by simp [samePlace]⟩)
        -- what the callee may look at is not handed over
        have hseen : ∀ k, seen V W st g.frz k → k < w.heap.size ∧ k ∉ blocks c.ps vs := by
          intro k hk
          refine ⟨hr.used_lt k (seen_used h4 k hk), fun hm => ?_⟩
          rw [h2] at hm
          obtain ⟨z, hz, hkz⟩ := List.mem_flatMap.1 hm
          obtain ⟨l, hl, ho⟩ := h5 z hz
          have hown := hr.ownb z.1 z.2 l hl ho k hkz
          rcases hk with hk | hk | ⟨b, hb, rfl⟩ | ⟨z', hz', hk⟩
          · exact hown.1 hk
          · exact hown.2.1 hk
          · exact hown.2.2 b hb rfl
          · obtain ⟨l', hl', ho'⟩ := h4 z' hz'
            obtain ⟨e1, e2⟩ := hr.sep z.1 z.2 l z'.1 z'.2 l' hl ho hl' ho' k hkz hk
            have : z = z' := Prod.ext e1 e2
            exact hnk z hz (this ▸ hz')
        have hcalls := hsound w (reach V W g.p g.frz) g.val vs y (h1.mono (fun _ h => h) hseen) (fun k hk => hseen k (reach_seen hV k hk)) (by rw [h2]; exact bs_nodup hr g.kill h5 hdis) hy
        refine hcalls.mono fun e w' hpost => ?_
        obtain ⟨v, N, rfl, hsz, hos, htp, hou, hfr, hN, _, hres⟩ := hpost
        refine ⟨v, rfl, ?_⟩
        obtain ⟨W1, hr1, hbs1, hrg, hkeep, hsh1⟩ := pre_frz hV hr c.fresh g.frz g.p h4
        generalize hU : (bif c.fresh then [] else frzU st g.frz) = U at hr1 hkeep hsh1 h ⊢
        have hk1 : ∀ z ∈ g.kill, OwnPlace (look U st) z := by
          intro z hz
          obtain ⟨l, hl, ho⟩ := h5 z hz
          exact ⟨l, hkeep z.1 z.2 l (hnk z hz) hl, ho⟩
        obtain ⟨hr2, _, hsh2⟩ := killU_ok hV g.kill hr1
        have hfree := killed_frees hV hr1 g.kill hk1
        -- the state behind the call
        have hnb : ∀ k, used V W1 (look (killU (look U st) g.kill) (look U st)) k → k ∉ blocks c.ps vs := by
          intro k hu hm
          rw [h2] at hm
          obtain ⟨z, hz, hkz⟩ := List.mem_flatMap.1 hm
          exact hfree z hz k (by rw [hbs1]; exact hkz) hu
        have hFr : ∀ k, Fresh w w' (givens c.ps vs) k → k < w'.heap.size ∧ ¬ used V W1 (look (killU (look U st) g.kill) (look U st)) k := by
          rintro k ⟨hk, hk2⟩
          refine ⟨hk, fun hu => ?_⟩
          rcases hk2 with hk2 | hk2
          · have := hr2.used_lt k hu
            omega
          · rw [h3] at hk2
            exact hnb k hu (by rw [h2]; exact hk2)
        have hr3 := hr2.world hV hsz hos htp hou (fun k hk => hfr k (hr2.used_lt k hk) (hnb k hk))
        have hr4 := hr3.nwGrow hV N (fun k hk => hFr k (hN k hk))
        have hG : ∀ k, (N k ∨ (c.fresh = false ∧ reach V W g.p g.frz k)) → gd V { W1 with nw := fun k => W1.nw k ∨ N k } (g.p && !c.fresh) k := by
          rintro k (hk | ⟨hf, hk⟩)
          · exact .inl (.inr hk)
          · have := hrg k hf hk
            rw [hf]
            exact gd_mono (W' := { W1 with nw := fun k => W1.nw k ∨ N k }) (by intro h; simp [h]) (fun _ h => Or.inl h) k this
        have hput : ∀ (st' : St), putOuts st' c.ps xs y.2 = [] := fun st' => putOuts_none c.ps xs y.2 hno
        simp only [hput, List.nil_append]
        obtain ⟨f', ps, rs, fresh, den⟩ := c
        simp only at hbox hres hG hFr hnb hN h1 h2 h3 ⊢
        cases hv : rs.all RK.isV with
        | true =>
          obtain ⟨cs, bsd, hs1, hs2, hs3, hs4, hs5, hs6⟩ := hres.vals hv
          rw [putRess_v d _ _ rs y.1 hv, resCont_eq]
          simp only [List.nil_append]
          rw [look_cons, look_append]
          refine ⟨_, hr4.put hV d hd hfix _ _ _ v cs bsd (Nat.lt_succ_self _) ?_ (hs3 _) hs2 (fun j l u hj hu => lv_leaf hG (fun _ _ => trivial) (hs4 _ j l u hj hu)) ?_ (hs6 _)⟩
          · have : ∀ (rs : List RK) (y : Ress rs) (p : Bool), (resCont 0 (rsLs p rs y)).sh = (resCont 0 (rsLs false rs y)).sh := rsSh
            rw [this]; exact hs1
          · intro j l hj ho k hk
            obtain ⟨hf, hn⟩ := hs5 _ j l hj ho k hk
            have hu := (hFr k hf).2
            simp only [used, not_or, not_exists, not_and] at hu
            exact ⟨fun h => h.elim hu.1 hn, hu.2.1, hu.2.2.1, fun r1 j1 l1 _ h6 h7 => hu.2.2.2 r1 j1 l1 h6 h7⟩
        | false =>
          have hb : ∃ b, rs = [.box b] := by
            unfold boxOk at hbox
            split at hbox
            · exact ⟨_, rfl⟩
            · rw [hv] at hbox; cases hbox
          obtain ⟨b, rfl⟩ := hb
          obtain ⟨g', cs, E, hv', hg', hrd, hf, hn⟩ := hres.box b rfl
          have hoff : (look (killU (look U st) g.kill) (look U st) (B0 + d)).sh = .off := by
            rw [(hsh2 _).1, hsh1]
            simpa [boxOk] using hbox
          subst hv'
          have hu := hFr g' hf
          have hrd2 := leaves_ok (P := P) (V := V) (W := { W1 with nw := fun k => W1.nw k ∨ N k }) (st := look (killU (look U st) g.kill) (look U st)) hG hrd
          have hne : d ≠ B0 + d := by simp [B0]
          have hdB : d < B0 := Nat.lt_of_lt_of_le hd hV.nt
          have hr5 := hr4.setBoxG hV (B0 + d) (Nat.le_add_right _ _) _ (leaves false (g.p && !fresh) b y.1.1) cs (fun _ => []) g' E (w' := w') (Nat.lt_succ_self _)
            (.inr ⟨by simp [live, hoff], fun h => by
              rcases h with (h | h) | h
              · exact hu.2 (.inl h)
              · exact hn h
              · exact hu.2 (.inr h), fun _ _ _ _ k hk => by simp at hk⟩) hg' (fun _ _ _ => rfl) (fun _ _ _ _ _ _ _ => rfl) (Nat.le_refl _) rfl rfl rfl hrd2.length hrd2.one'
            (fun j l u hj hu => (hrd2.at_ j l u hj hu).1) (fun _ _ _ _ k hk => by simp at hk) (fun _ _ _ _ _ _ _ _ k hk => by simp at hk)
          have hr6 := hr5.putLs hV d hd hfix ((look ((putRess d (look (killU (look U st) g.kill ++ U) st (B0 + d)).ver (g.p && !fresh) [.box b] y.1).2 ++ (killU (look U st) g.kill ++ U)) st d).ver + 1) .one [.bp (B0 + d) 0] (.pointer (some ⟨g', 0, none⟩)) [.pointer (some ⟨g', 0, none⟩)] ?_ rfl
            ⟨⟨⟨Nat.le_add_right _ _, by rw [look_same], by simp⟩, id, rfl⟩, trivial⟩
          · have e1 : look ((putRess d (look (killU (look U st) g.kill ++ U) st (B0 + d)).ver (g.p && !fresh) [.box b] y.1).2 ++ (killU (look U st) g.kill ++ U)) st =
                look [(B0 + d, ⟨(look (killU (look U st) g.kill) (look U st) (B0 + d)).ver + 1, .agg, leaves false (g.p && !fresh) b y.1.1⟩)] (look (killU (look U st) g.kill) (look U st)) := by
              rw [look_append, look_append]
              rfl
            rw [look_cons, e1]
            rw [e1] at hr6
            exact hr6
          · rw [look_append, look_append]
            exact Nat.lt_succ_self _
    · cases h
  · cases h
where
  rsSh : ∀ (rs : List RK) (y : Ress rs) (p : Bool), (resCont 0 (rsLs p rs y)).sh = (resCont 0 (rsLs false rs y)).sh := by
    intro rs y p
    have key : ∀ (rs : List RK) (y : Ress rs), (rsLs p rs y).map (fun x => (x.1, x.2.length)) = (rsLs false rs y).map (fun x => (x.1, x.2.length)) := by
      intro rs
      induction rs with
      | nil => intro y; rfl
      | cons k rs ih =>
        intro y
        cases k with
        | v ow a => simp [rsLs, leaves_length, ih]
        | box a => simp [rsLs, ih]
    have h := key rs y
    generalize rsLs p rs y = l1 at h
    generalize rsLs false rs y = l2 at h
    match l1, l2, h with
    | [], [], _ => rfl
    | [x], [y], h => simp at h; simp [resCont, h.1]
    | x :: x' :: xs, y :: y' :: ys, h => simp [resCont] at h ⊢; exact h
    | [], _ :: _, h => simp at h
    | _ :: _, [], h => simp at h
    | [_], _ :: _ :: _, h => simp at h
    | _ :: _ :: _, [_], h => simp at h

end
end Go.Proofs.YthgnfidnmnkeaaaGreatEv
