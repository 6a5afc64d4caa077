/- Code and loops. -/
import Derived.Test.YthgnfidnmnkeaaaGreatE6
import Derived.Laws.StructEq
import Derived.Lib.SliceRun
namespace Go.Proofs.YthgnfidnmnkeaaaGreatEv
open Go Go.RowKit
section
variable {P:Program} {V:Env} {Γ:List Ctr} {T:TypeId→TI} {st st':St} {o:Oper} {R:Type} {all:Array Oper}
theorem clean_len (live:List Nat):∀ (cs:List Coe) (ls:List Leaf),(cleanLs st live cs ls).length=ls.length
  | [],[]=>rfl
  | _ :: _,[]=>rfl
  | [],_ :: ls=>by simp [cleanLs,clean_len live [] ls]
  | _ :: cs,_ :: ls=>by simp [cleanLs,clean_len live cs ls]
theorem clean_at (live:List Nat):∀ (cs:List Coe) (ls:List Leaf) (j:Nat) (l:Leaf),(cleanLs st live cs ls)[j]?=some l→∃ l0,ls[j]?=some l0∧(l=.dead∨∃ c,l=cleanLeaf st live c l0)
  | [],[],j,l,h=>by simp [cleanLs] at h
  | _ :: _,[],j,l,h=>by simp [cleanLs] at h
  | [],l0 :: ls,0,l,h=>by simp [cleanLs] at h; exact ⟨l0,rfl,.inl h.symm⟩
  | c :: cs,l0 :: ls,0,l,h=>by simp [cleanLs] at h; exact ⟨l0,rfl,.inr ⟨c,h.symm⟩⟩
  | [],l0 :: ls,j+1,l,h=>by
    simp only [cleanLs,List.getElem?_cons_succ] at h
    obtain ⟨l1,h1,h2⟩:=clean_at live [] ls j l h
    exact ⟨l1,by simpa using h1,h2⟩
  | c :: cs,l0 :: ls,j+1,l,h=>by
    simp only [cleanLs,List.getElem?_cons_succ] at h
    obtain ⟨l1,h1,h2⟩:=clean_at live cs ls j l h
    exact ⟨l1,by simpa using h1,h2⟩
theorem norm_at (live:List (Nat×List Coe)) (q:Nat):norm live st q=Cont.none∧q ∉ live.map (·.1)∨∃ cs,norm live st q=⟨0,(st q).sh,cleanLs st (live.map (·.1)) cs (st q).ls⟩∧q∈live.map (·.1):=by
  have key:∀ (keys:List Nat) (l:List (Nat×List Coe)),(mkSt (l.map fun r=>(r.1,⟨0,(st r.1).sh,cleanLs st keys r.2 (st r.1).ls⟩)) q=Cont.none∧q ∉ l.map (·.1)) ∨
      ∃ cs,mkSt (l.map fun r=>(r.1,⟨0,(st r.1).sh,cleanLs st keys r.2 (st r.1).ls⟩)) q=⟨0,(st q).sh,cleanLs st keys cs (st q).ls⟩∧q∈l.map (·.1):=by
    intro keys l
    induction l with
    | nil=>exact .inl ⟨rfl,by simp⟩
    | cons x l ih =>
      obtain ⟨r,cs⟩:=x
      by_cases h:q=r
      · subst h
        exact .inr ⟨cs,by simp [mkSt,look],by simp⟩
      · have hb:Nat.beq q r=false:=by
          cases hb:Nat.beq q r with
          | false=>rfl
          | true=>exact absurd (Nat.eq_of_beq_eq_true hb) h
        rcases ih with ⟨h1,h2⟩ | ⟨cs',h1,h2⟩
        · refine .inl ⟨?_,by simpa [h] using h2⟩
          rw [← h1]
          simp [mkSt,look,hb]
        · refine .inr ⟨cs',?_,by simp only [List.map_cons,List.mem_cons]; exact .inr h2⟩
          rw [← h1]
          simp [mkSt,look,hb]
  exact key (live.map (·.1)) live
theorem clean_own {keys:List Nat} {c:Coe} {l0:Leaf} (h:isOwn (cleanLeaf st keys c l0)):isOwn l0∨l0=.nil:=by
  cases l0 with
  | own p hh E e xs=>exact .inl trivial
  | nil=>exact .inr rfl
  | _ =>
    exfalso
    revert h
    cases c <;> simp only [cleanLeaf] <;> first
      | exact id
      | (cases (!_||_:Bool) <;> first | exact id | (split <;> exact id))
      | (cases (_&&_:Bool) <;> exact id)
      | (cases (List.any _ _:Bool) <;> exact id)
      | (cases (List.all _ _:Bool) <;> exact id)
theorem CapOk.nw {W W':Wit} {w:World} {c:Bool×Bool×(a:Ty)×a.den} {u:Value} (hnw:∀ k,W.nw k→W'.nw k) (h:CapOk V W w c u):CapOk V W' w c u:=by
  have hgd:∀ (p:Bool) k,gd V W p k→gd V W' p k:=fun p k hk=>hk.imp (hnw k) id
  unfold CapOk at h ⊢
  split at h
  · rename_i hb
    rw [if_pos hb]
    obtain ⟨b,ob,g,o',c',hv,hb1,hcell,hg,hr,hc⟩:=h
    exact ⟨b,ob,g,o',c',hv,hb1.imp (hnw b) id,hcell,hg.imp (hnw g) id,Rd.mono (hgd _) hr,hc⟩
  · rename_i hb
    rw [if_neg hb]
    obtain ⟨g,o',c',hv,hg,hr,hc⟩:=h
    exact ⟨g,o',c',hv,hg.imp (hnw g) id,Rd.mono (hgd _) hr,hc⟩
theorem clean_leaf {W W':Wit} {w:World} {keys:List Nat} {bs bs':List Nat} {c:Coe} {l0:Leaf} {v:Value} (h:LeafOk P V W st w bs l0 v)
    (hnw:∀ k,W.nw k→W'.nw k) (hβ:W'.β=W.β) (hcs:∀ q,keys.any (Nat.beq q)=true→W'.cs q=W.cs q) (hlive:∀ b,keys.any (Nat.beq b)=true→(st b).sh=.agg→(st' b).sh=.agg)
    (hown:isOwn l0→bs'=bs) (hnil:l0=.nil→bs'=[]) (hfrz:isOwn l0→¬ isOwn (cleanLeaf st keys c l0)→(∃ p E e,c=.ro p E e)→∀ k∈bs,W'.nw k) :
    LeafOk P V W' st' w bs' (cleanLeaf st keys c l0) v:=by
  have hgd:∀ (p q:Bool),(!q||p)=true→∀ k,gd V W q k→gd V W' p k:=by
    intro p q hpq k hk
    rcases hk with hk | ⟨h1,hk⟩
    · exact .inl (hnw k hk)
    · refine .inr ⟨?_,hk⟩
      subst h1
      simpa using hpq
  cases c with
  | kill=>simp only [cleanLeaf]; trivial
  | keep =>
    cases l0 with
    | int k n=>exact h
    | bool b=>exact h
    | str s=>exact h
    | nil=>exact h
    | hdr n=>exact h
    | fn As B φ=>exact h
    | clr f caps =>
      obtain ⟨us,h1,h2,h3⟩:=h
      exact ⟨us,h1,h2,fun i c u g1 g2=>(h3 i c u g1 g2).nw hnw⟩
    | al r j n =>
      simp only [cleanLeaf]
      cases hb:keys.any (Nat.beq r)&&Nat.beq (st r).ver n with
      | false=>trivial
      | true =>
        simp only [Bool.and_eq_true] at hb
        exact ⟨Nat.zero_le _,fun _=>by rw [hcs r hb.1]; exact h.2 (Nat.eq_of_beq_eq_true hb.2)⟩
    | bp b off =>
      simp only [cleanLeaf]
      cases hb:keys.any (Nat.beq b) with
      | false=>trivial
      | true =>
        obtain ⟨h1,h2,h3⟩:=h
        exact ⟨h1,hlive b hb h2,by rw [hβ]; exact h3⟩
    | clo f caps =>
      simp only [cleanLeaf]
      cases hb:caps.all (fun b=>keys.any (Nat.beq b)) with
      | false=>trivial
      | true =>
        obtain ⟨h1,h2⟩:=h
        rw [List.all_eq_true] at hb
        exact ⟨by rw [hβ]; exact h1,fun b hbc=>⟨(h2 b hbc).1,hlive b (hb b hbc) (h2 b hbc).2⟩⟩
    | _=>simp only [cleanLeaf]; trivial
  | own p E e =>
    cases l0 with
    | nil =>
      have hv:v=.slice none 0 0:=h
      subst hv
      rw [hnil rfl]
      exact OwH.nil w _ E e
    | own q hh E' e' xs =>
      cases hh with
      | some x=>simp only [cleanLeaf]; trivial
      | none =>
        simp only [cleanLeaf]
        cases hb:(!q||p) with
        | false=>trivial
        | true =>
          rw [hown trivial]
          exact OwH.carry h (hgd p q hb) (fun _ _=>rfl) (fun _ _=>rfl)
    | _=>simp only [cleanLeaf]; trivial
  | ro p E e =>
    cases l0 with
    | nil =>
      have hv:v=.slice none 0 0:=h
      subst hv
      exact Rd.nil w _ false E e
    | ro q E' e' xs =>
      simp only [cleanLeaf]
      cases hb:(!q||p) with
      | false=>trivial
      | true =>
        simp only [cond_true]
        split
        · rename_i ys hc
          exact Rd.castSh (m:=false) (m':=false) (E:=E) hc (Rd.mono (hgd p q hb) h)
        · trivial
    | own q hh E' e' xs =>
      cases hh with
      | some x=>simp only [cleanLeaf]; trivial
      | none =>
        have hfz:=hfrz trivial (by
          simp only [cleanLeaf]
          cases (!q||p) with
          | false=>exact id
          | true=>simp only [cond_true]; split <;> exact id) ⟨p,E,e,rfl⟩
        simp only [cleanLeaf]
        cases hb:(!q||p) with
        | false=>trivial
        | true =>
          simp only [cond_true]
          split
          · rename_i ys hc
            refine Rd.castSh (m:=false) (m':=false) (E:=E) (E':=E') hc (Rd.mono (fun k hk=>?_) (OwH.rd (m:=false) (E':=E') h))
            rcases hk with hk | hk
            · exact hgd p q hb k hk
            · exact .inl (hfz k hk)
          · trivial
    | _=>simp only [cleanLeaf]; trivial
  | rp p =>
    cases l0 with
    | rpp q a x =>
      simp only [cleanLeaf]
      cases hb:(!q||p) with
      | false=>trivial
      | true =>
        obtain ⟨b,ob,g,o',c,hv,hb1,hcell,hg,hr,hc⟩:=h
        exact ⟨b,ob,g,o',c,hv,hb1.imp (hnw b) id,hcell,hg.imp (hnw g) id,Rd.mono (hgd p q hb) hr,hc⟩
    | rp q a x off =>
      simp only [cleanLeaf]
      cases hb:(!q||p) with
      | false=>trivial
      | true =>
        obtain ⟨g,o',c,hv,hg,hr,hc⟩:=h
        exact ⟨g,o',c,hv,hg.imp (hnw g) id,Rd.mono (hgd p q hb) hr,hc⟩
    | _=>simp only [cleanLeaf]; trivial
open Classical in
theorem norm_ok (_hV:EnvOk V) {a:Act} {w:World} (h:Rel P V st a w) (live:List (Nat×List Coe)) (hfb:∀ x∈V.fixb,x.1∈live.map (·.1)):Rel P V (norm live st) a w:=by
  obtain ⟨W,h⟩:=h
  have hat:=norm_at (st:=st) live
  have hlv:∀ b,Go.Proofs.YthgnfidnmnkeaaaGreatEv.live (norm live st) b→Go.Proofs.YthgnfidnmnkeaaaGreatEv.live st b:=by
    rintro b ⟨h1,h2⟩
    rcases hat b with ⟨e,_⟩ | ⟨cs,e,_⟩
    · rw [e] at h2; cases h2
    · rw [e] at h2; exact ⟨h1,h2⟩
  have hle:∀ (q j:Nat) (l:Leaf),(norm live st q).ls[j]?=some l→q∈live.map (·.1)∧∃ l0,(st q).ls[j]?=some l0∧(l=.dead∨∃ c,l=cleanLeaf st (live.map (·.1)) c l0):=by
    intro q j l hl
    rcases hat q with ⟨e,_⟩ | ⟨cs,e,hm⟩
    · rw [e] at hl; simp [Cont.none] at hl
    · rw [e] at hl; exact ⟨hm,clean_at _ _ _ _ _ hl⟩
  have hob:∀ (q j:Nat) (l:Leaf),(norm live st q).ls[j]?=some l→isOwn l→∃ l0,(st q).ls[j]?=some l0∧(isOwn l0∨l0=.nil):=by
    intro q j l hl ho
    obtain ⟨_,l0,h1,h2⟩:=hle q j l hl
    rcases h2 with rfl | ⟨c,rfl⟩
    · exact ho.elim
    · exact ⟨l0,h1,clean_own ho⟩
  have hany:∀ b,(live.map (·.1)).any (Nat.beq b)=true→b∈live.map (·.1):=fun b hb=>by
    rw [List.any_eq_true] at hb
    obtain ⟨x,hx,he⟩:=hb
    rw [Nat.eq_of_beq_eq_true he]
    exact hx
  let bs':Nat→Nat→List Nat:=fun q j=>if (∃ l0,(st q).ls[j]?=some l0∧isOwn l0) then W.bs q j else []
  let nw':Nat→Prop:=fun k=>W.nw k∨∃ q j l0 l,(st q).ls[j]?=some l0∧isOwn l0∧(norm live st q).ls[j]?=some l∧¬ isOwn l∧k∈W.bs q j
  have hbs1:∀ (q j k:Nat),k∈bs' q j→(∃ l0,(st q).ls[j]?=some l0∧isOwn l0)∧k∈W.bs q j:=by
    intro q j k hk
    by_cases hc:∃ l0,(st q).ls[j]?=some l0∧isOwn l0
    · simp only [bs',if_pos hc] at hk; exact ⟨hc,hk⟩
    · simp only [bs',if_neg hc] at hk; simp at hk
  refine ⟨{ β:=W.β,cs:=fun q=>if q∈live.map (·.1) then W.cs q else [],bs:=bs',nw:=nw' },?_⟩
  exact {
    nt:=h.nt,df:=h.df
    slots:=fun t ht=>by
      rcases hat t with ⟨e,hm⟩ | ⟨cs,e,hm⟩
      · rw [e]; simp [hm,Cont.none,ShOk]
      · rw [e]; simp only [hm,if_true]; exact h.slots t ht
    boxes:=fun b hb=>by
      rcases hat b with ⟨e,hm⟩ | ⟨cs,e,hm⟩
      · rw [e]; exact .inl ⟨rfl,rfl⟩
      · rw [e]
        rcases h.boxes b hb with ⟨h1,h2⟩ | ⟨h1,E,h2⟩
        · exact .inl ⟨h1,by rw [h2]; exact List.eq_nil_of_length_eq_zero (by rw [clean_len]; rfl)⟩
        · exact .inr ⟨h1,E,by simp only [hm,if_true]; exact h2⟩
    len:=fun q=>by
      rcases hat q with ⟨e,hm⟩ | ⟨cs,e,hm⟩
      · rw [e]; simp [hm,Cont.none]
      · rw [e]; simp only [hm,if_true,clean_len]; exact h.len q
    one:=fun q u hu=>by
      by_cases hm:q∈live.map (·.1)
      · simp only [hm,if_true] at hu; exact h.one q u hu
      · simp only [hm,if_false] at hu; simp at hu
    leaf:=fun q j l v hl hv=>by
      obtain ⟨hm,l0,h1,h2⟩:=hle q j l hl
      simp only [hm,if_true] at hv
      have hlo:=h.leaf q j l0 v h1 hv
      rcases h2 with rfl | ⟨c,rfl⟩
      · trivial
      · refine clean_leaf (st:=st) (W:=W) (W':={ β:=W.β,cs:=fun q=>if q∈live.map (·.1) then W.cs q else [],bs:=bs',nw:=nw' }) (keys:=live.map (·.1)) hlo (fun k hk=>Or.inl hk) rfl (fun q hq=>if_pos (hany q hq)) ?_ ?_ ?_ ?_
        · intro b hb hag
          have hbm:=hany b hb
          rcases hat b with ⟨_,hm'⟩ | ⟨cs,e,_⟩
          · exact absurd hbm hm'
          · rw [e]; exact hag
        · intro ho
          show bs' q j=_
          simp only [bs',if_pos (⟨l0,h1,ho⟩:∃ l0,(st q).ls[j]?=some l0∧isOwn l0)]
        · intro e
          show bs' q j=_
          have hc:¬ ∃ l0,(st q).ls[j]?=some l0∧isOwn l0:=by
            rintro ⟨l1,h3,h4⟩
            rw [h1,e] at h3
            cases h3
            exact h4.elim
          simp only [bs',if_neg hc]
        · intro ho hn _ k hk
          exact .inr ⟨q,j,l0,_,h1,ho,hl,hn,hk⟩
    ownb:=fun q j l hl ho k hk=>by
      obtain ⟨⟨l0,h1,h2⟩,h3⟩:=hbs1 q j k hk
      obtain ⟨q1,q2,q3⟩:=h.ownb q j l0 h1 h2 k h3
      refine ⟨?_,q2,fun b hb=>q3 b (hlv b hb)⟩
      rintro (hn | ⟨q',j',l1,l2,h4,h5,h6,h7,h8⟩)
      · exact q1 hn
      · obtain ⟨rfl,rfl⟩:=h.sep q j l0 q' j' l1 h1 h2 h4 h5 k h3 h8
        rw [hl] at h6
        cases h6
        exact h7 ho
    sep:=fun q j l q' j' l' _ _ _ _ k hk hk'=>by
      obtain ⟨⟨l0,h1,h2⟩,h3⟩:=hbs1 q j k hk
      obtain ⟨⟨l0',h1',h2'⟩,h3'⟩:=hbs1 q' j' k hk'
      exact h.sep q j l0 q' j' l0' h1 h2 h1' h2' k h3 h3'
    box:=fun b hb=>by
      obtain ⟨q1,q2⟩:=h.box b (hlv b hb)
      refine ⟨?_,q2⟩
      rintro (hn | ⟨q',j',l1,l2,h4,h5,h6,h7,h8⟩)
      · exact q1 hn
      · exact (h.ownb q' j' l1 h4 h5 _ h8).2.2 b (hlv b hb) rfl
    inj:=fun b b' hb hb'=>h.inj b b' (hlv b hb) (hlv b' hb')
    nwlt:=fun k hk=>by
      rcases hk with hn | ⟨q',j',l1,l2,h4,h5,h6,h7,h8⟩
      · exact h.nwlt k hn
      · exact ⟨h.own_lt h4 h5 k h8,(h.ownb q' j' l1 h4 h5 k h8).2.1⟩
    os:=h.os,tape:=h.tape,output:=h.output,size:=h.size,keep:=h.keep
    fixb:=fun x hx=>by
      obtain ⟨⟨h1,h2⟩,h3⟩:=h.fixb x hx
      refine ⟨⟨h1,?_⟩,h3⟩
      rcases hat x.1 with ⟨_,hm⟩ | ⟨cs,e,_⟩
      · exact absurd (hfb x hx) hm
      · rw [e]; exact h2
    fixt:=h.fixt }
def exOf:Ex→Exit
  | .normal=>.normal
  | .exit id=>.exit id
  | .ret=>.ret
theorem operOk_dst {nt:Nat} {fix:List Nat} (hnt:V.nt=nt) (hfix:∀ x∈V.fixt,x.1∈fix) (h:operOk nt fix all o=true):DstOk V o:=by
  intro d hd
  simp only [operOk,hd,Bool.and_eq_true,Bool.not_eq_true',List.any_eq_false] at h
  obtain ⟨⟨h1,h2⟩,_⟩:=h
  refine ⟨by rw [hnt]; simpa [Nat.blt_eq] using h1,fun x hx e=>?_⟩
  exact h2 _ (hfix x hx) (by simp [e])
end
end Go.Proofs.YthgnfidnmnkeaaaGreatEv
namespace Go.Proofs.YthgnfidnmnkeaaaGreatEv
open Go Go.RowKit
section
variable {P:Program} {V:Env} {Γ:List Ctr} {T:TypeId→TI} {R:Type}
open Classical in
theorem wp_loop_fuel {Q:Exit→Act→World→Prop} {a:Act} {w:World} {c:Code} (J:Nat→Act→World→Prop) (h0:∃ n,J n a w) (hz:∀ a w,¬ J 0 a w)
    (round:∀ n a w,J (n+1) a w→c.wp P (Exit.then (J n) Q) a w):(Code.loop c).wp P Q a w:=by
  have least:∀ (a:Act) (w:World) (n:Nat),J n a w→∃ m,J m a w∧m≤n∧∀ k,J k a w→m≤k:=by
    intro a w n
    induction n using Nat.strongRecOn with
    | ind n ih =>
      intro hn
      by_cases h:∃ k,k<n∧J k a w
      · obtain ⟨k,hk,hJ⟩:=h
        obtain ⟨m,h1,h2,h3⟩:=ih k hk hJ
        exact ⟨m,h1,by omega,h3⟩
      · refine ⟨n,hn,Nat.le_refl _,fun k hk=>?_⟩
        apply Classical.byContradiction
        intro hlt
        exact h ⟨k,by omega,hk⟩
  let μ:Act→World→Nat:=fun a w=>if h:∃ m,J m a w∧∀ k,J k a w→m≤k then h.choose else 0
  have hμ:∀ a w n,J n a w→J (μ a w) a w∧μ a w≤n:=by
    intro a w n hn
    obtain ⟨m,h1,_,h3⟩:=least a w n hn
    have h:∃ m,J m a w∧∀ k,J k a w→m≤k:=⟨m,h1,h3⟩
    have e:μ a w=h.choose:=by simp only [μ]; rw [dif_pos h]
    rw [e]
    exact ⟨h.choose_spec.1,h.choose_spec.2 n hn⟩
  refine wp_loop (fun a w=>∃ n,J n a w) μ h0 fun a w ⟨n,hn⟩=>?_
  obtain ⟨h1,_⟩:=hμ a w n hn
  cases hm:μ a w with
  | zero=>rw [hm] at h1; exact absurd h1 (hz a w)
  | succ m =>
    rw [hm] at h1
    refine wp_mono (round m a w h1) fun e a' w' he=>?_
    cases e with
    | normal =>
      have h2:J m a' w':=he
      exact ⟨⟨m,h2⟩,Nat.lt_succ_of_le (hμ a' w' m h2).2⟩
    | _=>exact he
theorem cond_val {st:St} {a:Act} {w:World} (hr:Rel P V st a w) {t:Nat} (htB:t<GH) {b:Bool} (h1:(st t).sh=.one) (h2:(st t).ls=[.bool b]):a.eval (.tmp t)=.bool b:=by
  obtain ⟨W,hr⟩:=hr
  have hslot:=hr.slots t htB
  rw [h1] at hslot
  have hslot:W.cs t=[a.tmps.getD t undef]:=hslot
  have hv:=hr.leaf t 0 (.bool b) (a.tmps.getD t undef) (by rw [h2]; rfl) (by rw [hslot]; rfl)
  exact hv
theorem ev_ok (hV:EnvOk V) (hT:TOk P T) (hΓ:∀ c∈Γ,Sound P c) (hmix:P.follows .mixedOrders=true) {fx:List Nat} (hfb:∀ x∈V.fixb,x.1∈fx) {nt:Nat} {fix:List Nat} (hnt:V.nt=nt) (hfix:∀ x∈V.fixt,x.1∈fix)
    {L:List (Nat×List (Nat×List Coe))} {fuel:Nat}:∀ (c:Code),codeOk nt fix c=true→loopsOk L fx c=true→∀ (st:St) (κ:Ex→St→Option R) (r:R) (Q:Exit→Act→World→Prop),evK Γ T L fuel c st κ=some r →
      (∀ ex s1,κ ex s1=some r→∀ a w,Rel P V s1 a w→Q (exOf ex) a w)→∀ a w,Rel P V st a w→c.wp P Q a w:=by
  intro c
  induction c with
  | skip=>exact fun _ _ st κ r Q h hQ a w hr=>wp_skip (hQ .normal st h a w hr)
  | region id ops draw =>
    intro hc hlp st κ r Q h hQ a w hr
    simp only [codeOk,List.all_eq_true] at hc
    have hmem:∀ (i:Nat) (o:Oper),ops[i]?=some o→operOk nt fix ops o=true:=fun i o hi=>hc o (by simpa using Array.mem_of_getElem? hi)
    refine reg_ok hV hT hΓ hmix (fun i o hi=>operOk_dst hnt hfix (hmem i o hi)) (fun i o hi j want hg s hs=>?_) h (fun s1 h1 a w hr=>hQ .normal s1 h1 a w hr) hr
    have:=hmem i o hi
    simp only [operOk,hg,hs,Bool.and_eq_true] at this
    rw [hnt]
    simpa [Nat.blt_eq] using this.2
  | seq x y ihx ihy =>
    intro hc hlp st κ r Q h hQ a w hr
    simp only [codeOk,Bool.and_eq_true] at hc
    simp only [loopsOk,Bool.and_eq_true] at hlp
    simp only [evK] at h
    refine wp_seq (ihx hc.1 hlp.1 st _ r _ h (fun ex s1 h1 a w hr=>?_) a w hr)
    cases ex with
    | normal=>exact ihy hc.2 hlp.2 s1 κ r Q h1 hQ a w hr
    | exit id=>exact hQ (.exit id) s1 h1 a w hr
    | ret=>exact hQ .ret s1 h1 a w hr
  | cond t x y ihx ihy =>
    intro hc hlp st κ r Q h hQ a w hr
    simp only [codeOk,Bool.and_eq_true] at hc
    simp only [loopsOk,Bool.and_eq_true] at hlp
    simp only [evK] at h
    unfold condK at h
    split at h
    · rename_i t
      split at h
      · rename_i b h1 h2
        have hv:=cond_val hr (Nat.lt_of_lt_of_le (by have:=hc.1.1; simp only [condOk,Nat.blt_eq] at this; rw [hnt]; exact this) hV.nt) h1 h2
        cases b with
        | true =>
          simp only [cond_true] at h
          rw [lit_same h1 h2] at h
          exact wp_cond_true hv (ihx hc.1.2 hlp.1 st κ r Q h hQ a w hr)
        | false =>
          simp only [cond_false] at h
          rw [lit_same h1 h2] at h
          exact wp_cond_false hv (ihy hc.2 hlp.2 st κ r Q h hQ a w hr)
      · cases h
    · rename_i b
      cases b with
      | true=>exact wp_cond_true rfl (ihx hc.1.2 hlp.1 st κ r Q h hQ a w hr)
      | false=>exact wp_cond_false rfl (ihy hc.2 hlp.2 st κ r Q h hQ a w hr)
    · cases h
  | block id c ih =>
    intro hc hlp st κ r Q h hQ a w hr
    simp only [codeOk] at hc
    simp only [loopsOk] at hlp
    simp only [evK] at h
    refine wp_block (ih hc hlp st _ r _ h (fun ex s1 h1 a w hr=>?_) a w hr)
    cases ex with
    | normal=>exact hQ .normal s1 h1 a w hr
    | exit id' =>
      simp only [kBlock] at h1
      show if id'=id then Q .normal a w else Q (.exit id') a w
      by_cases e:id'=id
      · rw [if_pos e]
        subst e
        simp only [Nat.beq_refl,cond_true] at h1
        exact hQ .normal s1 h1 a w hr
      · rw [if_neg e]
        have hb:Nat.beq id' id=false:=by
          cases hb:Nat.beq id' id with
          | false=>rfl
          | true=>exact absurd (Nat.eq_of_beq_eq_true hb) e
        rw [hb] at h1
        exact hQ (.exit id') s1 h1 a w hr
    | ret=>exact hQ .ret s1 h1 a w hr
  | loop c ih =>
    intro hc hlp st κ r Q h hQ a w hr
    simp only [codeOk] at hc
    simp only [loopsOk,Bool.and_eq_true,List.all_eq_true] at hlp
    simp only [evK] at h
    have hnorm:∀ x∈V.fixb,x.1∈(liveOf L (loopKey c)).map (·.1):=fun x hx=>by
      obtain ⟨r,hr,he⟩:=List.any_eq_true.1 (hlp.1 x.1 (hfb x hx))
      exact List.mem_map.2 ⟨r,hr,Nat.eq_of_beq_eq_true he⟩
    refine wp_loop_fuel (fun n a w=>∃ st,evLoop (liveOf L (loopKey c)) (evK Γ T L fuel c) n st κ=some r∧Rel P V st a w) ⟨fuel,_,h,norm_ok hV hr _ hnorm⟩ ?_ ?_
    · rintro a w ⟨st,h1,_⟩
      cases h1
    · rintro n a w ⟨st,h1,hr⟩
      simp only [evLoop] at h1
      refine ih hc hlp.2 st _ r _ h1 (fun ex s1 h2 a w hr=>?_) a w hr
      cases ex with
      | normal=>exact ⟨_,h2,norm_ok hV hr _ hnorm⟩
      | exit id=>exact hQ (.exit id) s1 h2 a w hr
      | ret=>exact hQ .ret s1 h2 a w hr
  | exit id=>exact fun _ _ st κ r Q h hQ a w hr=>wp_exit (hQ (.exit id) st h a w hr)
  | ret=>exact fun _ _ st κ r Q h hQ a w hr=>wp_ret (hQ .ret st h a w hr)
  | _=>intro _ _ st κ r Q h; simp [evK] at h
end
end Go.Proofs.YthgnfidnmnkeaaaGreatEv
namespace Go.Proofs.YthgnfidnmnkeaaaGreatEv
open Go Go.RowKit
section
variable {P:Program} {Γ:List Ctr} {T:TypeId→TI} {R:Type} {w:World} {ro pr:Nat→Prop}
theorem leaves_mxh {G:Nat→Prop} {p:Bool}:∀ {b:Ty} {h:Option Nat} {pos:Nat} {x:b.den} {cs:List Value} {bs:List Nat},Mx w G b h pos x cs bs→bs.Nodup →
    ∃ bsd:Nat→List Nat,
      (∀ (V:Env) (W:Wit) (st:St),(∀ k,G k→gd V W p k)→∀ (j:Nat) (l:Leaf) (u:Value),h≠some (pos+j)→(leaves p b x)[j]?=some l→cs[j]?=some u→LeafOk P V W st w (bsd j) l u) ∧
      (∀ (j:Nat) (l:Leaf),h≠some (pos+j)→(leaves p b x)[j]?=some l→isOwn l→∀ k∈bsd j,k∈bs) ∧
      (∀ (j j':Nat) (l l':Leaf),h≠some (pos+j)→h≠some (pos+j')→(leaves p b x)[j]?=some l→isOwn l→(leaves p b x)[j']?=some l'→isOwn l'→∀ k,k∈bsd j→k∈bsd j'→j=j')
  | .int k,_,_,x,cs,bs,H,_=>by
    obtain ⟨rfl,rfl⟩:=H
    exact ⟨fun _=>[],fun V W st _ j l u _ h1 h2=>by cases j with | zero=>simp [leaves] at h1 h2; subst h1; subst h2; rfl | succ j=>simp [leaves] at h1,fun j l _ h1 _ k hk=>by simp at hk,fun j j' l l' _ _ _ _ _ _ k hk=>by simp at hk⟩
  | .bool,_,_,x,cs,bs,H,_=>by
    obtain ⟨rfl,rfl⟩:=H
    exact ⟨fun _=>[],fun V W st _ j l u _ h1 h2=>by cases j with | zero=>simp [leaves] at h1 h2; subst h1; subst h2; rfl | succ j=>simp [leaves] at h1,fun j l _ h1 _ k hk=>by simp at hk,fun j j' l l' _ _ _ _ _ _ k hk=>by simp at hk⟩
  | .str,_,_,x,cs,bs,H,_=>by
    obtain ⟨rfl,rfl⟩:=H
    exact ⟨fun _=>[],fun V W st _ j l u _ h1 h2=>by cases j with | zero=>simp [leaves] at h1 h2; subst h1; subst h2; rfl | succ j=>simp [leaves] at h1,fun j l _ h1 _ k hk=>by simp at hk,fun j j' l l' _ _ _ _ _ _ k hk=>by simp at hk⟩
  | .unit,_,_,x,cs,bs,H,_=>by
    obtain ⟨rfl,rfl⟩:=H
    exact ⟨fun _=>[],fun V W st _ j l u _ h1 h2=>by simp [leaves] at h1,fun j l _ h1 _ k hk=>by simp at hk,fun j j' l l' _ _ _ _ _ _ k hk=>by simp at hk⟩
  | .hdr,_,_,x,cs,bs,H,_=>by
    obtain ⟨⟨A,cap,rfl⟩,rfl⟩:=H
    exact ⟨fun _=>[],fun V W st _ j l u _ h1 h2=>by cases j with | zero=>simp [leaves] at h1 h2; subst h1; subst h2; exact ⟨A,cap,rfl⟩ | succ j=>simp [leaves] at h1,fun j l _ h1 _ k hk=>by simp at hk,fun j j' l l' _ _ _ _ _ _ k hk=>by simp at hk⟩
  | .pair b c,h,pos,x,cs,bs,⟨c1,c2,b1,b2,e1,e2,h1,h2⟩,hnd=>by
    subst e1; subst e2
    rw [List.nodup_append] at hnd
    obtain ⟨d1,f2,f3,f4⟩:=leaves_mxh h1 hnd.1
    obtain ⟨d2,g2,g3,g4⟩:=leaves_mxh h2 hnd.2.1
    have hl1:=leaves_length p b x.1
    have hc1:=h1.len
    have hsplit:∀ (j:Nat) (l:Leaf),(leaves p b x.1++leaves p c x.2)[j]?=some l→(j<b.cells∧(leaves p b x.1)[j]?=some l)∨(b.cells≤j∧(leaves p c x.2)[j-b.cells]?=some l):=by
      intro j l hj
      by_cases hlt:j<b.cells
      · rw [List.getElem?_append_left (by omega)] at hj; exact .inl ⟨hlt,hj⟩
      · rw [List.getElem?_append_right (by omega),hl1] at hj; exact .inr ⟨by omega,hj⟩
    have hsh:∀ j,b.cells≤j→h≠some (pos+j)→h≠some (pos+b.cells+(j-b.cells)):=fun j hj hh=>by rwa [show pos+b.cells+(j-b.cells)=pos+j by omega]
    refine ⟨fun j=>if j<b.cells then d1 j else d2 (j-b.cells),fun V W st hG j l u hh hj hu=>?_,fun j l hh hj ho k hk=>?_,fun j j' l l' hh hh' hj ho hj' ho' k hk hk'=>?_⟩
    · rcases hsplit j l hj with ⟨hlt,hj⟩ | ⟨hge,hj⟩
      · rw [List.getElem?_append_left (by omega)] at hu
        simp only [if_pos hlt]
        exact f2 V W st hG j l u hh hj hu
      · rw [List.getElem?_append_right (by omega),hc1] at hu
        simp only [if_neg (show ¬ j<b.cells by omega)]
        exact g2 V W st hG _ l u (hsh j hge hh) hj hu
    · rcases hsplit j l hj with ⟨hlt,hj⟩ | ⟨hge,hj⟩
      · simp only [if_pos hlt] at hk
        exact List.mem_append_left _ (f3 j l hh hj ho k hk)
      · simp only [if_neg (show ¬ j<b.cells by omega)] at hk
        exact List.mem_append_right _ (g3 _ l (hsh j hge hh) hj ho k hk)
    · rcases hsplit j l hj with ⟨hlt,hj⟩ | ⟨hge,hj⟩ <;> rcases hsplit j' l' hj' with ⟨hlt',hj'⟩ | ⟨hge',hj'⟩
      · simp only [if_pos hlt] at hk; simp only [if_pos hlt'] at hk'
        exact f4 j j' l l' hh hh' hj ho hj' ho' k hk hk'
      · simp only [if_pos hlt] at hk; simp only [if_neg (show ¬ j'<b.cells by omega)] at hk'
        exact absurd rfl (hnd.2.2 k (f3 j l hh hj ho k hk) k (g3 _ l' (hsh j' hge' hh') hj' ho' k hk'))
      · simp only [if_neg (show ¬ j<b.cells by omega)] at hk; simp only [if_pos hlt'] at hk'
        exact absurd rfl (hnd.2.2 k (f3 j' l' hh' hj' ho' k hk') k (g3 _ l (hsh j hge hh) hj ho k hk))
      · simp only [if_neg (show ¬ j<b.cells by omega)] at hk; simp only [if_neg (show ¬ j'<b.cells by omega)] at hk'
        have:=g4 _ _ l l' (hsh j hge hh) (hsh j' hge' hh') hj ho hj' ho' k hk hk'
        omega
  | .list m E e,h,pos,xs,cs,bs,H,hnd=>by
    cases m with
    | false =>
      rw [mx_shared] at H
      obtain ⟨rfl,A,cap,rfl,h2,h3⟩:=H
      refine ⟨fun _=>[],fun V W st hG j l u _ h1 h4=>?_,fun j l _ h1 _ k hk=>by simp at hk,fun j j' l l' _ _ _ _ _ _ k hk=>by simp at hk⟩
      cases j with
      | zero =>
        simp [leaves] at h1 h4
        subst h1; subst h4
        exact Rd.mono hG (⟨A,cap,rfl,h2,h3⟩:Rd w G (.list false E e) xs _)
      | succ j=>simp [leaves] at h1
    | true =>
      refine ⟨fun _=>bs,fun V W st hG j l u hh h1 h4=>?_,fun j l _ h1 _ k hk=>hk,fun j j' l l' _ _ h1 _ h3 _ k _ _=>?_⟩
      · cases j with
        | zero =>
          rw [Nat.add_zero] at hh
          rw [mx_list hh] at H
          obtain ⟨v,rfl,hO⟩:=H
          simp [leaves] at h1 h4
          subst h1; subst h4
          exact ⟨hnd,OwB.shy (hO.carry hG (fun _ _=>rfl) (fun _ _=>rfl))⟩
        | succ j=>simp [leaves] at h1
      · have h7:j<1:=by simpa [leaves] using (List.getElem?_eq_some_iff.1 h1).1
        have h8:j'<1:=by simpa [leaves] using (List.getElem?_eq_some_iff.1 h3).1
        omega
theorem getAt_leaf {p:Bool} {off:Nat}:∀ {a:Ty} {pos:Nat} {x:a.den} {E:TypeId} {e:Ty} {xs:List e.den},getAt off a pos x=some ⟨E,e,xs⟩→(leaves p a x)[off-pos]?=some (.own (p&&e.shy) none E e xs)
  | .pair a b,pos,x,E,e,xs,h=>by
    have hl:=leaves_length p a x.1
    simp only [getAt] at h
    simp only [leaves]
    split at h
    · rename_i u hu
      simp only [Option.some.injEq] at h
      subst h
      have hin:=getAt_in hu
      rw [List.getElem?_append_left (by omega)]
      exact getAt_leaf hu
    · have hin:=getAt_in h
      rw [List.getElem?_append_right (by omega),hl,show off-pos-a.cells=off-(pos+a.cells) by omega]
      exact getAt_leaf h
  | .list m E' e',pos,ys,E,e,xs,h=>by
    simp only [getAt] at h
    cases hb:m&&Nat.beq pos off with
    | false=>simp [hb] at h
    | true =>
      rw [hb] at h
      simp only [cond_true,Option.some.injEq,Sigma.mk.injEq] at h
      obtain ⟨rfl,h⟩:=h
      simp only [Bool.and_eq_true] at hb
      obtain ⟨rfl,hb⟩:=hb
      have hb:=Nat.eq_of_beq_eq_true hb
      subst hb
      rw [heq_eq_eq,Sigma.mk.injEq] at h
      obtain ⟨rfl,h⟩:=h
      rw [heq_eq_eq] at h
      subst h
      simp [leaves]
  | .int _,_,_,_,_,_,h=>by simp [getAt] at h
  | .bool,_,_,_,_,_,h=>by simp [getAt] at h
  | .str,_,_,_,_,_,h=>by simp [getAt] at h
  | .unit,_,_,_,_,_,h=>by simp [getAt] at h
  | .hdr,_,_,_,_,_,h=>by simp [getAt] at h
theorem caps_ok' (V:Env) (W:Wit) (hro:V.ro0=ro) (hpr:V.prot=pr):∀ {cs:List (Bool×Ty)} {x:Caps cs} {us:List Value},CapsOk w ro pr cs x us→us.length=(capsV true cs x).length ∧
    ∀ (i:Nat) (c:Bool×Bool×(a:Ty)×a.den) (u:Value),(capsV true cs x)[i]?=some c→us[i]?=some u→CapOk V W w c u
  | [],_,us,h=>by
    have h:us=[]:=h
    subst h
    exact ⟨rfl,fun i c u h1 _=>by simp [capsV] at h1⟩
  | c :: cs,x,us,⟨u,us',e,h1,h2⟩=>by
    subst e
    obtain ⟨i1,i2⟩:=caps_ok' V W hro hpr h2
    refine ⟨by simp [capsV,i1],fun i c' u' h3 h4=>?_⟩
    cases i with
    | succ i=>exact i2 i c' u' (by simpa [capsV] using h3) (by simpa using h4)
    | zero =>
      simp [capsV] at h3 h4
      subst h3; subst h4
      have hG:∀ k,ro k→gd V W true k:=fun k hk=>.inr ⟨rfl,by rw [hro]; exact hk⟩
      unfold CapOk
      unfold PtrOk at h1
      split at h1
      · rename_i hb
        simp only [hb,if_true]
        obtain ⟨b,ob,g,o,c2,hv,hb1,hcell,hg,hr,hc⟩:=h1
        exact ⟨b,ob,g,o,c2,hv,.inr (by rw [hpr]; exact hb1),hcell,.inr (by rw [hpr]; exact hg),hr.mono hG,hc⟩
      · rename_i hb
        have hb:c.1=false:=by simpa using hb
        simp only [hb,Bool.false_eq_true,if_false]
        obtain ⟨g,o,c2,hv,hg,hr,hc⟩:=h1
        exact ⟨g,o,c2,by rw [hv]; rfl,.inr (by rw [hpr]; exact hg),hr.mono hG,hc⟩
structure Ent where
  r:Nat
  c:Cont
  cs:List Value
  bs:Nat→List Nat
  bl:List Nat
  g:Nat
structure EntOk (P:Program) (w:World) (ro pr:Nat→Prop) (bx:List (Nat×Nat)) (e:Ent):Prop where
  len:e.c.ls.length=e.cs.length
  one:∀ u∈e.cs,u.oneCell'=true
  leaf:∀ (V:Env) (W:Wit) (st:St),V.w0=w→V.ro0=ro→V.prot=pr→(∀ z∈bx,B0≤z.1∧(st z.1).sh=.agg∧W.β z.1=z.2)→∀ (j:Nat) (l:Leaf) (u:Value),e.c.ls[j]?=some l→e.cs[j]?=some u→LeafOk P V W st w (e.bs j) l u
  own:∀ (j:Nat) (l:Leaf),e.c.ls[j]?=some l→isOwn l→∀ k∈e.bs j,k∈e.bl
  sep:∀ (j j':Nat) (l l':Leaf),e.c.ls[j]?=some l→isOwn l→e.c.ls[j']?=some l'→isOwn l'→∀ k,k∈e.bs j→k∈e.bs j'→j=j'
  box:B0≤e.r→e.c.sh=.agg∧e.g∈e.bl∧(∀ (j:Nat) (l:Leaf),e.c.ls[j]?=some l→isOwn l→e.g ∉ e.bs j)∧(∃ E,w.heap[e.g]?=some (.cells e.cs.toArray E (0,0)))∧(e.r,e.g)∈bx
theorem EntOk.mono {bx bx':List (Nat×Nat)} {e:Ent} (h:EntOk P w ro pr bx e) (hb:∀ z∈bx,z∈bx'):EntOk P w ro pr bx' e :=
  { len:=h.len,one:=h.one,own:=h.own,sep:=h.sep
    leaf:=fun V W st h1 h2 h3 h4=>h.leaf V W st h1 h2 h3 (fun z hz=>h4 z (hb z hz))
    box:=fun hr=>by obtain ⟨q1,q2,q3,q4,q5⟩:=h.box hr; exact ⟨q1,q2,q3,q4,hb _ q5⟩ }
structure ParOk (P:Program) (w:World) (ro pr:Nat→Prop) (t:Nat) (pk:PK) (v:Value) (b:List Nat) (bx:List (Nat×Nat)) (es:List Ent):Prop where
  bl:es.flatMap (·.bl)=b
  ok:∀ e∈es,EntOk P w ro pr bx e
  at_:∀ e∈es,e.r=t∨e.r=B0+t
  nod:(es.map (·.r)).Nodup
  slot:∃ e∈es,e.r=t∧ShOk e.c.sh v e.cs
  bxs:∀ z∈bx,z.1=B0+t∧(∃ e∈es,e.r=B0+t∧e.g=z.2)
theorem taken_ok (t n:Nat) {a:Ty} {x:a.den} {v:Value} {cs:List Value} {b:List Nat} (hnd:b.Nodup) (h1:ValOk a.isAgg v cs) (h2:Mx w ro a none 0 x cs b) (htB:t<B0) :
    ∃ es,ParOk P w ro pr t (.own a) v b [] es∧[((t,⟨n,shOf a.isAgg,leaves true a x⟩):Nat×Cont)]=es.map (fun e=>(e.r,e.c)):=by
  obtain ⟨bsd,m1,m2,m3⟩:=leaves_mxh (P:=P) (p:=true) h2 hnd
  have hn:∀ j,(none:Option Nat)≠some (0+j):=fun j=>by simp
  refine ⟨[⟨t,⟨n,shOf a.isAgg,leaves true a x⟩,cs,bsd,b,0⟩],⟨by simp,?_,by simp,by simp,⟨_,List.mem_singleton_self _,rfl,shOf_ok h1⟩,by simp⟩,rfl⟩
  intro e he
  simp only [List.mem_singleton] at he
  subst he
  exact { len:=by show (leaves true a x).length=_; rw [leaves_length,h2.len]
          one:=h2.one
          leaf:=fun V W st _ hro _ _ j l u h3 h4=>m1 V W st (fun k hk=>.inr ⟨rfl,by rw [hro]; exact hk⟩) j l u (hn j) h3 h4
          own:=fun j l h3 h4=>m2 j l (hn j) h3 h4
          sep:=fun j j' l l' h3 h4 h5 h6=>m3 j j' l l' (hn j) (hn j') h3 h4 h5 h6
          box:=fun hr=>absurd hr (by show ¬ B0≤t; omega) }
theorem lone_ok (t:Nat) {l:Leaf} {v:Value} {pk:PK} (htB:t<B0) (hno:¬ isOwn l) (h1:v.oneCell'=true) (hleaf:∀ (V:Env) (W:Wit) (st:St),V.w0=w→V.ro0=ro→V.prot=pr→LeafOk P V W st w [] l v) :
    ∃ es,ParOk P w ro pr t pk v [] [] es∧[((t,⟨0,.one,[l]⟩):Nat×Cont)]=es.map (fun e=>(e.r,e.c)):=by
  refine ⟨[⟨t,⟨0,.one,[l]⟩,[v],fun _=>[],[],0⟩],⟨by simp,?_,by simp,by simp,⟨_,List.mem_singleton_self _,rfl,rfl⟩,by simp⟩,rfl⟩
  intro e he
  simp only [List.mem_singleton] at he
  subst he
  have h0:∀ (j:Nat) (l':Leaf),[l][j]?=some l'→j=0∧l'=l:=fun j l' hj=>by
    cases j with
    | zero=>simp at hj; exact ⟨rfl,hj.symm⟩
    | succ j=>simp at hj
  exact { len:=rfl
          one:=fun u hu=>by simp at hu; subst hu; exact h1
          leaf:=fun V W st hw hro hpr _ j l' u h3 h4=>by
            obtain ⟨rfl,rfl⟩:=h0 j l' h3
            simp at h4
            subst h4
            exact hleaf V W st hw hro hpr
          own:=fun j l' h3 h4=>by obtain ⟨_,rfl⟩:=h0 j l' h3; exact absurd h4 hno
          sep:=fun j j' l1 l2 h3 h4=>by obtain ⟨_,rfl⟩:=h0 j l1 h3; exact absurd h4 hno
          box:=fun hr=>absurd hr (by show ¬ B0≤t; omega) }
def ptrBlk:Value→Nat
  | .pointer (some a)=>a.block
  | _=>0
def fixbOf (t:Nat):List PK→List Value→List (Nat×Nat)
  | .iop _ :: ps,v :: vs=>(B0+t,ptrBlk v) :: fixbOf (t+1) ps vs
  | _ :: ps,_ :: vs=>fixbOf (t+1) ps vs
  | _,_=>[]
def fixtOf (t:Nat):List PK→List Value→List (Nat×Value)
  | .io _ :: ps,v :: vs=>(t,v) :: fixtOf (t+1) ps vs
  | .iop _ :: ps,v :: vs=>(t,v) :: fixtOf (t+1) ps vs
  | _ :: ps,_ :: vs=>fixtOf (t+1) ps vs
  | _,_=>[]
def PK.bx (t:Nat) (v:Value):PK→List (Nat×Nat)
  | .iop _=>[(B0+t,ptrBlk v)]
  | _=>[]
theorem par_ok (t:Nat) (htB:t<B0) {pk:PK} {ps:List PK} {x:Args (pk :: ps)} {v:Value} {b:List Nat} (hnd:b.Nodup) (h:ArgOk P w ro pr pk x.1 v b) :
    ∃ es,ParOk P w ro pr t pk v b (pk.bx t v) es∧parsSt t (pk :: ps) x=es.map (fun e=>(e.r,e.c))++parsSt (t+1) ps x.2:=by
  cases pk with
  | rd a =>
    obtain ⟨rfl,cs,h1,h2⟩:=h
    refine ⟨[⟨t,⟨0,shOf a.isAgg,leavesR true a x.1⟩,cs,fun _=>[],[],0⟩],⟨by simp,?_,by simp,by simp,⟨_,List.mem_singleton_self _,rfl,shOf_ok h1⟩,by simp [PK.bx]⟩,rfl⟩
    intro e he
    simp only [List.mem_singleton] at he
    subst he
    have hls:∀ (V:Env) (W:Wit) (st:St),V.ro0=ro→LsOk P V W st w (leavesR true a x.1) cs:=fun V W st hro=>leavesR_ok (G:=ro) (fun k hk=>.inr ⟨rfl,by rw [hro]; exact hk⟩) h2
    have hno:∀ (j:Nat) (l:Leaf),(leavesR true a x.1)[j]?=some l→¬ isOwn l:=fun j l hj=>by
      have hl:=leavesR_length true a x.1
      have hc:=h2.len
      have hlt:=(List.getElem?_eq_some_iff.1 hj).1
      exact ((hls ⟨w,ro,[],0,[],[]⟩ ⟨fun _=>0,fun _=>[],fun _ _=>[],fun _=>False⟩ (fun _=>Cont.none) rfl).at_ j l _ hj (List.getElem?_eq_getElem (by omega))).2.1
    exact { len:=by show (leavesR true a x.1).length=_; rw [leavesR_length,h2.len]
            one:=h2.one
            leaf:=fun V W st _ hro _ _ j l u h3 h4=>((hls V W st hro).at_ j l u h3 h4).1
            own:=fun j l h3 h4=>absurd h4 (hno j l h3)
            sep:=fun j j' l l' h3 h4=>absurd h4 (hno j l h3)
            box:=fun hr=>absurd hr (by show ¬ B0≤t; omega) }
  | own a =>
    obtain ⟨cs,h1,h2⟩:=h
    obtain ⟨es,h3,h4⟩:=taken_ok (P:=P) (pr:=pr) t 0 hnd h1 h2 htB
    exact ⟨es,⟨h3.bl,h3.ok,h3.at_,h3.nod,h3.slot,h3.bxs⟩,by rw [← h4]; rfl⟩
  | io a =>
    obtain ⟨cs,h1,h2⟩:=h
    obtain ⟨es,h3,h4⟩:=taken_ok (P:=P) (pr:=pr) t 7 hnd h1 h2 htB
    exact ⟨es,⟨h3.bl,h3.ok,h3.at_,h3.nod,h3.slot,h3.bxs⟩,by rw [← h4]; rfl⟩
  | rref a =>
    obtain ⟨rfl,h⟩:=h
    unfold PtrOk at h
    rw [if_neg (by simp)] at h
    obtain ⟨g,o,c,hv,hg,hr,hc⟩:=h
    subst hv
    obtain ⟨es,h3,h4⟩:=lone_ok (P:=P) (w:=w) (ro:=ro) (pr:=pr) t (pk:=.rref a) (l:=.rp true a x.1 0) (v:=.pointer (some ⟨g,o,none⟩)) htB id rfl (fun V W st hw hro hpr=>⟨g,o,c,rfl,.inr (by rw [hpr]; exact hg),hr.mono (fun k hk=>.inr ⟨rfl,by rw [hro]; exact hk⟩),hc⟩)
    exact ⟨es,h3,by rw [← h4]; rfl⟩
  | rref2 a =>
    obtain ⟨rfl,h⟩:=h
    unfold PtrOk at h
    rw [if_pos rfl] at h
    obtain ⟨b,ob,g,o,c,hv,hb,hcell,hg,hr,hc⟩:=h
    subst hv
    obtain ⟨es,h3,h4⟩:=lone_ok (P:=P) (w:=w) (ro:=ro) (pr:=pr) t (pk:=.rref2 a) (l:=.rpp true a x.1) (v:=.pointer (some ⟨b,ob,none⟩)) htB id rfl (fun V W st hw hro hpr=>⟨b,ob,g,o,c,rfl,.inr (by rw [hpr]; exact hb),hcell,.inr (by rw [hpr]; exact hg),hr.mono (fun k hk=>.inr ⟨rfl,by rw [hro]; exact hk⟩),hc⟩)
    exact ⟨es,h3,by rw [← h4]; rfl⟩
  | fn As B =>
    obtain ⟨rfl,h⟩:=h
    have hv1:v.oneCell'=true:=by
      obtain ⟨f,caps,e,_⟩:=h
      rw [e]; rfl
    obtain ⟨es,h3,h4⟩:=lone_ok (P:=P) (w:=w) (ro:=ro) (pr:=pr) t (pk:=.fn As B) (l:=.fn As B x.1) (v:=v) htB id hv1 (fun V W st hw hro hpr=>by
      show FnOk P V.w0 V.prot As B x.1 v
      rw [hw,hpr]
      exact h)
    exact ⟨es,h3,by rw [← h4]; rfl⟩
  | clo f cs =>
    obtain ⟨rfl,us,e,h⟩:=h
    subst e
    obtain ⟨es,h3,h4⟩:=lone_ok (P:=P) (w:=w) (ro:=ro) (pr:=pr) t (pk:=.clo f cs) (l:=.clr f (capsV true cs x.1)) (v:=.func (.func f) #[] us.toArray) htB id rfl (fun V W st hw hro hpr=>by
      obtain ⟨i1,i2⟩:=caps_ok' V W hro hpr h
      exact ⟨us,rfl,i1,i2⟩)
    exact ⟨es,h3,by rw [← h4]; rfl⟩
  | iop a =>
    obtain ⟨g,c,E,b0,hv,hg,hm,rfl⟩:=h
    subst hv
    rw [List.nodup_cons] at hnd
    obtain ⟨bsd,m1,m2,m3⟩:=leaves_mxh (P:=P) (p:=true) hm hnd.2
    have hn:∀ j,(none:Option Nat)≠some (0+j):=fun j=>by simp
    have hne:t≠B0+t:=by simp [B0]
    refine ⟨[⟨t,⟨0,.one,[.bp (B0+t) 0]⟩,[.pointer (some ⟨g,0,none⟩)],fun _=>[],[],0⟩,⟨B0+t,⟨0,.agg,leaves true a x.1⟩,c,bsd,g :: b0,g⟩],
      ⟨by simp,?_,fun e he=>by simp at he; rcases he with rfl | rfl <;> simp,by rw [List.map_cons,List.map_cons,List.map_nil,List.nodup_cons]; exact ⟨by simpa using hne,by simp⟩,⟨_,List.mem_cons_self ..,rfl,rfl⟩,fun z hz=>?_⟩,rfl⟩
    · intro e he
      simp only [List.mem_cons,List.not_mem_nil,or_false] at he
      rcases he with rfl | rfl
      · have h0:∀ (j:Nat) (l':Leaf),[Leaf.bp (B0+t) 0][j]?=some l'→j=0∧l'=.bp (B0+t) 0:=fun j l' hj=>by
          cases j with
          | zero=>simp at hj; exact ⟨rfl,hj.symm⟩
          | succ j=>simp at hj
        exact { len:=rfl
                one:=fun u hu=>by simp at hu; subst hu; rfl
                leaf:=fun V W st hw hro hpr hb j l' u h3 h4=>by
                  obtain ⟨rfl,rfl⟩:=h0 j l' h3
                  simp at h4
                  subst h4
                  obtain ⟨q1,q2,q3⟩:=hb (B0+t,g) (List.mem_singleton_self _)
                  exact ⟨q1,q2,by rw [q3]⟩
                own:=fun j l' h3 h4=>by obtain ⟨_,rfl⟩:=h0 j l' h3; exact h4.elim
                sep:=fun j j' l1 l2 h3 h4=>by obtain ⟨_,rfl⟩:=h0 j l1 h3; exact h4.elim
                box:=fun hr=>absurd hr (by show ¬ B0≤t; omega) }
      · exact { len:=by show (leaves true a x.1).length=_; rw [leaves_length,hm.len]
                one:=hm.one
                leaf:=fun V W st _ hro _ _ j l u h3 h4=>m1 V W st (fun k hk=>.inr ⟨rfl,by rw [hro]; exact hk⟩) j l u (hn j) h3 h4
                own:=fun j l h3 h4 k hk=>List.mem_cons_of_mem _ (m2 j l (hn j) h3 h4 k hk)
                sep:=fun j j' l l' h3 h4 h5 h6=>m3 j j' l l' (hn j) (hn j') h3 h4 h5 h6
                box:=fun _=>⟨rfl,List.mem_cons_self ..,fun j l h3 h4 hk=>hnd.1 (m2 j l (hn j) h3 h4 g hk),⟨E,hg⟩,List.mem_singleton_self _⟩ }
    · simp only [PK.bx,List.mem_singleton] at hz
      subst hz
      exact ⟨rfl,_,List.mem_cons_of_mem _ (List.mem_singleton_self _),rfl,rfl⟩
  | hol a c off =>
    obtain ⟨cs,u,b0,b1,E,e,xs,h1,h2,h3,h4,h5,h6⟩:=h
    have hnd':=nodup_count.1 hnd
    have hnd0:b0.Nodup:=nodup_count.2 fun k=>by have:=hnd' k; have:=h6 k; omega
    have hnd1:b1.Nodup:=nodup_count.2 fun k=>by have:=hnd' k; have:=h6 k; omega
    have hdis:∀ k,k∈b0→k ∉ b1:=fun k hk hk'=>by
      have:=hnd' k; have:=h6 k; have:=List.count_pos_iff.2 hk; have:=List.count_pos_iff.2 hk'; omega
    have hin0:∀ k∈b0,k∈b:=fun k hk=>List.count_pos_iff.1 (by have:=h6 k; have:=List.count_pos_iff.2 hk; omega)
    have hin1:∀ k∈b1,k∈b:=fun k hk=>List.count_pos_iff.1 (by have:=h6 k; have:=List.count_pos_iff.2 hk; omega)
    obtain ⟨bsd,m1,m2,m3⟩:=leaves_mxh (P:=P) (p:=true) h2 hnd0
    have hne:∀ j,j≠c→(some c:Option Nat)≠some (0+j):=fun j hj=>by simp; omega
    have hlf:=getAt_leaf (p:=true) h4
    rw [Nat.sub_zero] at hlf
    have hgd:(leaves true a x.1.1).getD c .dead=.own (true&&e.shy) none E e xs:=by rw [List.getD_eq_getElem?_getD,hlf]; rfl
    refine ⟨[⟨t,⟨0,shOf a.isAgg,setL (leaves true a x.1.1) c (.own (true&&e.shy) (some (x.1.2,off)) E e xs)⟩,cs,fun j=>if j=c then b1 else bsd j,b,0⟩],
      ⟨by simp,?_,by simp,by simp,⟨_,List.mem_singleton_self _,rfl,shOf_ok h1⟩,by simp [PK.bx]⟩,?_⟩
    · intro en he
      simp only [List.mem_singleton] at he
      subst he
      have hcase:∀ (j:Nat) (l:Leaf),(setL (leaves true a x.1.1) c (.own (true&&e.shy) (some (x.1.2,off)) E e xs))[j]?=some l→(j=c∧l=.own (true&&e.shy) (some (x.1.2,off)) E e xs)∨(j≠c∧(leaves true a x.1.1)[j]?=some l):=by
        intro j l hj
        rcases getElem?_set' _ _ _ _ _ hj with ⟨q1,q2,_⟩ | ⟨q1,q2⟩
        · exact .inl ⟨q1,q2⟩
        · exact .inr ⟨q1,q2⟩
      exact { len:=by show (setL (leaves true a x.1.1) c _).length=_; simp only [setL,List.length_set]; rw [leaves_length,h2.len]
              one:=h2.one
              leaf:=fun V W st _ hro _ _ j l u' h7 h8=>by
                have h8:cs[j]?=some u':=h8
                rcases hcase j l h7 with ⟨rfl,rfl⟩ | ⟨hj,h7⟩
                · rw [h3] at h8
                  simp only [Option.some.injEq] at h8
                  subst h8
                  simp only [if_true]
                  exact ⟨hnd1,OwB.shy (p:=true) (h5.carry (fun k hk=>.inr ⟨rfl,by rw [hro]; exact hk⟩) (fun _ _=>rfl) (fun _ _=>rfl))⟩
                · simp only [if_neg hj]
                  exact m1 V W st (fun k hk=>.inr ⟨rfl,by rw [hro]; exact hk⟩) j l u' (hne j hj) h7 h8
              own:=fun j l h7 h8 k hk=>by
                rcases hcase j l h7 with ⟨rfl,rfl⟩ | ⟨hj,h7⟩
                · simp only [if_true] at hk; exact hin1 k hk
                · simp only [if_neg hj] at hk; exact hin0 k (m2 j l (hne j hj) h7 h8 k hk)
              sep:=fun j j' l l' h7 h8 h9 h10 k hk hk'=>by
                rcases hcase j l h7 with ⟨rfl,rfl⟩ | ⟨hj,h7⟩ <;> rcases hcase j' l' h9 with ⟨rfl,rfl⟩ | ⟨hj',h9⟩
                · rfl
                · simp only [if_true] at hk; simp only [if_neg hj'] at hk'
                  exact absurd hk (hdis k (m2 j' l' (hne j' hj') h9 h10 k hk'))
                · simp only [if_neg hj] at hk; simp only [if_true] at hk'
                  exact absurd hk' (hdis k (m2 j l (hne j hj) h7 h8 k hk))
                · simp only [if_neg hj] at hk; simp only [if_neg hj'] at hk'
                  exact m3 j j' l l' (hne j hj) (hne j' hj') h7 h8 h9 h10 k hk hk'
              box:=fun hr=>absurd hr (by show ¬ B0≤t; omega) }
    · show (t,(⟨0,shOf a.isAgg,setL (leaves true a x.1.1) c (holLeaf x.1.2 off ((leaves true a x.1.1).getD c .dead))⟩:Cont)) :: parsSt (t+1) ps x.2=_
      rw [hgd]
      rfl
theorem args_len:∀ {ps:List PK} {x:Args ps} {vs:List Value} {bss:List (List Nat)},ArgsOk P w ro pr ps x vs bss→vs.length=ps.length
  | [],_,_,_,h=>by rw [h.1]; rfl
  | _ :: _,_,_,_,⟨_,_,_,_,e,_,_,h⟩=>by rw [e,List.length_cons,List.length_cons,args_len h]
theorem pars_ok:∀ (ps:List PK) (x:Args ps) (vs:List Value) (bss:List (List Nat)) (t:Nat),ArgsOk P w ro pr ps x vs bss→bss.flatten.Nodup→t+ps.length≤B0 →
    ∃ es:List Ent,parsSt t ps x=es.map (fun e=>(e.r,e.c))∧es.flatMap (·.bl)=bss.flatten∧(∀ e∈es,EntOk P w ro pr (fixbOf t ps vs) e) ∧
      (∀ e∈es,(t≤e.r∧e.r<t+ps.length)∨(B0+t≤e.r∧e.r<B0+t+ps.length))∧(es.map (·.r)).Nodup ∧
      (∀ (i:Nat) (v:Value),vs[i]?=some v→∃ e∈es,e.r=t+i∧ShOk e.c.sh v e.cs)∧(∀ z∈fixbOf t ps vs,∃ e∈es,e.r=z.1∧e.g=z.2∧B0≤z.1)
  | [],x,vs,bss,t,⟨e1,e2⟩,_,_=>by
    subst e1; subst e2
    exact ⟨[],rfl,rfl,by simp,by simp,by simp,fun i v h=>by simp at h,by simp [fixbOf]⟩
  | pk :: ps,x,vs,bss,t,⟨v,vs',b,bss',e1,e2,h1,h2⟩,hnd,hB=>by
    subst e1; subst e2
    rw [List.flatten_cons,List.nodup_append] at hnd
    simp only [List.length_cons] at hB
    obtain ⟨es1,p1,p2⟩:=par_ok t (by omega) (ps:=ps) (x:=x) hnd.1 h1
    obtain ⟨es2,q1,q2,q3,q4,q5,q6,q7⟩:=pars_ok ps x.2 vs' bss' (t+1) h2 hnd.2.1 (by omega)
    have hfb:fixbOf t (pk :: ps) (v :: vs')=pk.bx t v++fixbOf (t+1) ps vs':=by cases pk <;> rfl
    refine ⟨es1++es2,by rw [p2,q1,List.map_append],by rw [List.flatMap_append,p1.bl,q2,List.flatten_cons],fun e he=>?_,fun e he=>?_,?_,fun i u hi=>?_,fun z hz=>?_⟩
    · rw [hfb]
      rcases List.mem_append.1 he with he | he
      · exact (p1.ok e he).mono (fun z hz=>List.mem_append_left _ hz)
      · exact (q3 e he).mono (fun z hz=>List.mem_append_right _ hz)
    · simp only [List.length_cons]
      rcases List.mem_append.1 he with he | he
      · rcases p1.at_ e he with h | h <;> omega
      · rcases q4 e he with h | h <;> omega
    · rw [List.map_append,List.nodup_append]
      refine ⟨p1.nod,q5,fun a ha b' hb' e0=>?_⟩
      subst e0
      obtain ⟨e,he,rfl⟩:=List.mem_map.1 ha
      obtain ⟨e',he',e1⟩:=List.mem_map.1 hb'
      rcases p1.at_ e he with h | h <;> rcases q4 e' he' with h' | h' <;> omega
    · cases i with
      | zero =>
        simp at hi
        subst hi
        obtain ⟨e,he,h3,h4⟩:=p1.slot
        exact ⟨e,List.mem_append_left _ he,by omega,h4⟩
      | succ i =>
        obtain ⟨e,he,h3,h4⟩:=q6 i u (by simpa using hi)
        exact ⟨e,List.mem_append_right _ he,by omega,h4⟩
    · rw [hfb] at hz
      rcases List.mem_append.1 hz with hz | hz
      · obtain ⟨h3,e,he,h4,h5⟩:=p1.bxs z hz
        exact ⟨e,List.mem_append_left _ he,by rw [h4,h3],h5,by rw [h3]; exact Nat.le_add_right _ _⟩
      · obtain ⟨e,he,h4,h5,h6⟩:=q7 z hz
        exact ⟨e,List.mem_append_right _ he,h4,h5,h6⟩
def envOf (w:World) (ro:Nat→Prop) (ps:List PK) (vs:List Value) (bss:List (List Nat)) (nt:Nat):Env:=⟨w,ro,bss.flatten,nt,fixbOf 0 ps vs,fixtOf 0 ps vs⟩
theorem bl_same:∀ {es:List Ent},(es.flatMap (·.bl)).Nodup→∀ e∈es,∀ e'∈es,∀ k,k∈e.bl→k∈e'.bl→e=e'
  | [],_,e,he,_,_,_,_,_=>by simp at he
  | x :: es,hnd,e,he,e',he',k,hk,hk'=>by
    rw [List.flatMap_cons,List.nodup_append] at hnd
    rcases List.mem_cons.1 he with h1 | h1 <;> rcases List.mem_cons.1 he' with h2 | h2
    · rw [h1,h2]
    · rw [h1] at hk
      exact absurd rfl (hnd.2.2 k hk k (List.mem_flatMap.2 ⟨e',h2,hk'⟩))
    · rw [h2] at hk'
      exact absurd rfl (hnd.2.2 k hk' k (List.mem_flatMap.2 ⟨e,h1,hk⟩))
    · exact bl_same hnd.2.1 e h1 e' h2 k hk hk'
theorem r_same:∀ {es:List Ent},(es.map (·.r)).Nodup→∀ e∈es,∀ e'∈es,e.r=e'.r→e=e'
  | [],_,e,he,_,_,_=>by simp at he
  | x :: es,hnd,e,he,e',he',hr=>by
    rw [List.map_cons,List.nodup_cons] at hnd
    rcases List.mem_cons.1 he with h1 | h1 <;> rcases List.mem_cons.1 he' with h2 | h2
    · rw [h1,h2]
    · exact absurd (List.mem_map.2 ⟨e',h2,by rw [← hr,h1]⟩) hnd.1
    · exact absurd (List.mem_map.2 ⟨e,h1,by rw [hr,h2]⟩) hnd.1
    · exact r_same hnd.2 e h1 e' h2 hr
theorem mkSt_ents:∀ (es:List Ent) (q:Nat),(mkSt (es.map fun e=>(e.r,e.c)) q=Cont.none∧es.find? (fun e=>e.r==q)=none)∨∃ e∈es,e.r=q∧es.find? (fun e=>e.r==q)=some e∧mkSt (es.map fun e=>(e.r,e.c)) q=e.c
  | [],q=>.inl ⟨rfl,rfl⟩
  | e :: es,q=>by
    by_cases h:e.r=q
    · refine .inr ⟨e,List.mem_cons_self ..,h,by simp [h],?_⟩
      simp [mkSt,look,h]
    · have hb:Nat.beq q e.r=false:=by
        cases hb:Nat.beq q e.r with
        | false=>rfl
        | true=>exact absurd (Nat.eq_of_beq_eq_true hb).symm h
      have e1:mkSt ((e :: es).map fun e=>(e.r,e.c)) q=mkSt (es.map fun e=>(e.r,e.c)) q:=by simp [mkSt,look,hb]
      have e2:(e :: es).find? (fun e=>e.r==q)=es.find? (fun e=>e.r==q):=by simp [h]
      rw [e1,e2]
      rcases mkSt_ents es q with h1 | ⟨e',h1,h2,h3,h4⟩
      · exact .inl h1
      · exact .inr ⟨e',List.mem_cons_of_mem _ h1,h2,h3,h4⟩
theorem fixt_at:∀ {ps:List PK} {vs:List Value} {t:Nat} {z:Nat×Value},z∈fixtOf t ps vs→∃ i,z.1=t+i∧vs[i]?=some z.2
  | [],_,_,_,h=>by simp [fixtOf] at h
  | pk :: ps,[],_,_,h=>by cases pk <;> simp [fixtOf] at h
  | pk :: ps,v :: vs,t,z,h=>by
    have:z=(t,v)∨z∈fixtOf (t+1) ps vs:=by cases pk <;> simp [fixtOf] at h <;> first | exact h | exact .inr h
    rcases this with rfl | h
    · exact ⟨0,rfl,rfl⟩
    · obtain ⟨i,h1,h2⟩:=fixt_at h
      exact ⟨i+1,by omega,by simpa using h2⟩
theorem init_ok {ps:List PK} {x:Args ps} {vs:List Value} {bss:List (List Nat)} {nt:Nat} (h:ArgsOk P w ro (fun k=>k<w.heap.size∧k ∉ bss.flatten) ps x vs bss) (hnd:bss.flatten.Nodup)
    (hnt:ps.length≤nt) (hB:nt≤GH):Rel P (envOf w ro ps vs bss nt) (mkSt (parsSt 0 ps x)) { tmps:=vs.toArray++Array.replicate (nt-vs.length) undef,defers:=[] } w:=by
  have hlen:=args_len h
  have hGB:GH≤B0:=by decide
  obtain ⟨es,q1,q2,q3,q4,q5,q6,q7⟩:=pars_ok ps x vs bss 0 h hnd (by omega)
  rw [q1]
  have hat:=mkSt_ents es
  have huniq:∀ e∈es,∀ e'∈es,e.r=e'.r→e=e':=by
    intro e he e' he' hr
    exact r_same q5 e he e' he' hr
  rw [← q2] at hnd
  have hblown:∀ e∈es,∀ k∈e.bl,k∈bss.flatten:=fun e he k hk=>by rw [← q2]; exact List.mem_flatMap.2 ⟨e,he,hk⟩
  have hE:∀ q,(mkSt (es.map fun e=>(e.r,e.c)) q=Cont.none∧es.find? (fun e=>e.r==q)=none)∨∃ e∈es,e.r=q∧es.find? (fun e=>e.r==q)=some e∧mkSt (es.map fun e=>(e.r,e.c)) q=e.c:=hat
  have hbox:∀ q,live (mkSt (es.map fun e=>(e.r,e.c))) q→∃ e∈es,e.r=q∧B0≤e.r∧es.find? (fun e=>e.r==q)=some e:=by
    rintro q ⟨h1,h2⟩
    rcases hE q with ⟨h3,_⟩ | ⟨e,h3,h4,h5,h6⟩
    · rw [h3] at h2; cases h2
    · exact ⟨e,h3,h4,by rw [h4]; exact h1,h5⟩
  let β:Nat→Nat:=fun q=>match es.find? (fun e=>e.r==q) with | some e=>e.g | none=>0
  let cs:Nat→List Value:=fun q=>match es.find? (fun e=>e.r==q) with | some e=>e.cs | none=>[]
  let bs:Nat→Nat→List Nat:=fun q j=>match es.find? (fun e=>e.r==q) with | some e=>e.bs j | none=>[]
  have hfbx:∀ z∈fixbOf 0 ps vs,B0≤z.1∧(mkSt (es.map fun e=>(e.r,e.c)) z.1).sh=.agg∧β z.1=z.2:=by
    intro z hz
    obtain ⟨e,he,h1,h2,h3⟩:=q7 z hz
    refine ⟨h3,?_⟩
    rcases hE z.1 with ⟨_,h4⟩ | ⟨e',h4,h5,h6,h7⟩
    · exfalso
      rw [List.find?_eq_none] at h4
      exact h4 e he (by simp [h1])
    · have:e'=e:=huniq e' h4 e he (by rw [h5,h1])
      subst this
      rw [h7]
      exact ⟨((q3 e' he).box (by rw [h1]; exact h3)).1,by simp only [β,h6]; exact h2⟩
  refine ⟨{ β:=β,cs:=cs,bs:=bs,nw:=fun _=>False },?_⟩
  have hprot:(envOf w ro ps vs bss nt).prot=fun k=>k<w.heap.size∧k ∉ bss.flatten:=rfl
  exact {
    nt:=by show (vs.toArray++Array.replicate (nt-vs.length) undef).size=nt; simp; omega
    df:=rfl
    slots:=fun t ht=>by
      show ShOk _ ((vs.toArray++Array.replicate (nt-vs.length) undef).getD t undef) (cs t)
      by_cases hq:t<ps.length
      · have hv:=List.getElem?_eq_getElem (show t<vs.length by omega)
        have:(vs.toArray++Array.replicate (nt-vs.length) undef).getD t undef=vs[t]:=by
          rw [Array.getD_eq_getD_getElem?,Array.getElem?_append_left (by simp; omega)]
          simp [hv]
        rw [this]
        obtain ⟨e,he,h1,h2⟩:=q6 t _ hv
        rw [Nat.zero_add] at h1
        rcases hE t with ⟨_,h4⟩ | ⟨e',h4,h5,h6,h7⟩
        · exfalso
          rw [List.find?_eq_none] at h4
          exact h4 e he (by simp [h1])
        · have:e'=e:=huniq e' h4 e he (by rw [h5,h1])
          subst this
          rw [h7]
          simp only [cs,h6]
          exact h2
      · rcases hE t with ⟨h3,h4⟩ | ⟨e',h4,h5,h6,h7⟩
        · rw [h3]; simp only [cs,h4]; rfl
        · rcases q4 e' h4 with h8 | h8 <;> omega
    boxes:=fun b hb=>by
      rcases hE b with ⟨h3,h4⟩ | ⟨e',h4,h5,h6,h7⟩
      · rw [h3]; exact .inl ⟨rfl,rfl⟩
      · obtain ⟨g1,g2,g3,⟨E,g4⟩,g5⟩:=(q3 e' h4).box (by rw [h5]; exact hb)
        rw [h7]
        exact .inr ⟨g1,E,by simp only [β,cs,h6]; exact g4⟩
    len:=fun q=>by
      rcases hE q with ⟨h3,h4⟩ | ⟨e',h4,h5,h6,h7⟩
      · rw [h3]; simp only [cs,h4]; rfl
      · rw [h7]; simp only [cs,h6]; exact (q3 e' h4).len
    one:=fun q u hu=>by
      have hu:u∈cs q:=hu
      rcases hE q with ⟨h3,h4⟩ | ⟨e',h4,h5,h6,h7⟩
      · simp only [cs,h4] at hu; simp at hu
      · simp only [cs,h6] at hu; exact (q3 e' h4).one u hu
    leaf:=fun q j l v hl hv=>by
      have hv:(cs q)[j]?=some v:=hv
      rcases hE q with ⟨h3,h4⟩ | ⟨e',h4,h5,h6,h7⟩
      · rw [h3] at hl; simp [Cont.none] at hl
      · rw [h7] at hl
        simp only [cs,h6] at hv
        show LeafOk P _ _ _ w (bs q j) l v
        simp only [bs,h6]
        exact (q3 e' h4).leaf (envOf w ro ps vs bss nt) _ _ rfl rfl rfl hfbx j l v hl hv
    ownb:=fun q j l hl ho k hk=>by
      have hk:k∈bs q j:=hk
      rcases hE q with ⟨h3,h4⟩ | ⟨e',h4,h5,h6,h7⟩
      · rw [h3] at hl; simp [Cont.none] at hl
      · rw [h7] at hl
        simp only [bs,h6] at hk
        have hkb:=(q3 e' h4).own j l hl ho k hk
        refine ⟨id,fun hp=>hp.2 (hblown e' h4 k hkb),fun b hb e0=>?_⟩
        obtain ⟨e2,g1,g2,g3,g4⟩:=hbox b hb
        have hgb:=(q3 e2 g1).box g3
        have e0:β b=k:=e0
        simp only [β,g4] at e0
        have:=bl_same hnd e' h4 e2 g1 k hkb (by rw [← e0]; exact hgb.2.1)
        subst this
        exact hgb.2.2.1 j l hl ho (by rw [e0]; exact hk)
    sep:=fun q j l q' j' l' hl ho hl' ho' k hk hk'=>by
      have hk:k∈bs q j:=hk
      have hk':k∈bs q' j':=hk'
      rcases hE q with ⟨h3,h4⟩ | ⟨e1,h4,h5,h6,h7⟩
      · rw [h3] at hl; simp [Cont.none] at hl
      · rcases hE q' with ⟨h3',h4'⟩ | ⟨e2,h4',h5',h6',h7'⟩
        · rw [h3'] at hl'; simp [Cont.none] at hl'
        · rw [h7] at hl; rw [h7'] at hl'
          simp only [bs,h6] at hk
          simp only [bs,h6'] at hk'
          have:=bl_same hnd e1 h4 e2 h4' k ((q3 e1 h4).own j l hl ho k hk) ((q3 e2 h4').own j' l' hl' ho' k hk')
          subst this
          exact ⟨by rw [← h5,← h5'],(q3 e1 h4).sep j j' l l' hl ho hl' ho' k hk hk'⟩
    box:=fun b hb=>by
      obtain ⟨e2,g1,g2,g3,g4⟩:=hbox b hb
      have hgb:=(q3 e2 g1).box g3
      refine ⟨id,fun hp=>hp.2 ?_⟩
      show β b∈_
      simp only [β,g4]
      exact hblown e2 g1 _ hgb.2.1
    inj:=fun b b' hb hb' e0=>by
      obtain ⟨e1,g1,g2,g3,g4⟩:=hbox b hb
      obtain ⟨e2,g1',g2',g3',g4'⟩:=hbox b' hb'
      have e0:β b=β b':=e0
      simp only [β,g4,g4'] at e0
      have:=bl_same hnd e1 g1 e2 g1' e1.g ((q3 e1 g1).box g3).2.1 (by rw [e0]; exact ((q3 e2 g1').box g3').2.1)
      subst this
      rw [← g2,← g2']
    nwlt:=fun k hk=>hk.elim
    os:=rfl,tape:=rfl,output:=rfl,size:=Nat.le_refl _,keep:=fun _ _=>rfl
    fixb:=fun z hz=>by
      obtain ⟨h1,h2,h3⟩:=hfbx z hz
      exact ⟨⟨h1,h2⟩,h3⟩
    fixt:=fun z hz=>by
      obtain ⟨i,h1,h2⟩:=fixt_at hz
      rw [Nat.zero_add] at h1
      show (vs.toArray++Array.replicate (nt-vs.length) undef).getD z.1 undef=z.2
      rw [h1,Array.getD_eq_getD_getElem?,Array.getElem?_append_left (by simpa using (List.getElem?_eq_some_iff.1 h2).1)]
      simp [h2] }
end
end Go.Proofs.YthgnfidnmnkeaaaGreatEv
namespace Go.Proofs.YthgnfidnmnkeaaaGreatEv
open Go Go.RowKit
section
variable {P:Program} {V:Env} {W:Wit} {Γ:List Ctr} {T:TypeId→TI} {R:Type} {st:St} {a:Act} {w:World} {ro:Nat→Prop}
theorem var_ok (hT:TOk P T) (h:RelAt P V W st a w) (x:ResultVar) (hx:resSh st T x≠.off) :
    ∃ v cs,(match x with | .tmp t=>(pure (a.tmps.getD t undef):Sem Value) | .cell b t=>(do loadVar t (← asAddr (a.tmps.getD b undef)):Sem Value)).run P w=.ok v w ∧
      ShOk (resSh st T x) v cs∧LsOk P V W st w (resLs st T x) cs:=by
  cases x with
  | tmp t =>
    obtain ⟨cs,h1,h2⟩:=opnd_ok h (.tmp t)
    exact ⟨_,cs,rfl,h1,h2⟩
  | cell t ty =>
    simp only [resSh] at hx ⊢
    split at hx
    · rename_i b off hb
      cases hc:decide ((st b).sh=.agg)&&Nat.ble (off+(T ty).cells) (st b).ls.length&&!Nat.beq (T ty).cells 0 with
      | false=>rw [hc] at hx; exact absurd rfl hx
      | true =>
        simp only [hb,hc,cond_true,resLs]
        simp only [Bool.and_eq_true,decide_eq_true_eq,Bool.not_eq_true'] at hc
        obtain ⟨⟨h1,h2⟩,h3⟩:=hc
        have h2:off+(T ty).cells≤(st b).ls.length:=Nat.le_of_ble_eq_true h2
        have hnn:T ty≠.none:=by
          intro e
          rw [e] at h3
          simp [TI.cells] at h3
        obtain ⟨hp,_,_,_,_⟩:=one_ok h (.tmp t) (by rw [hb]; simp)
        rw [hb] at hp
        obtain ⟨hB,hag,hv⟩:=hp
        have hv:a.tmps.getD t undef=.pointer (some ⟨W.β b,off,none⟩):=hv
        rcases h.boxes b hB with ⟨h8,_⟩ | ⟨_,E,h8⟩
        · rw [hag] at h8; cases h8
        · have hcell:Cells w (W.β b) 0 (W.cs b):=fun i v hv=>by
            rw [Nat.zero_add,cell_of_row w (W.β b) i _ E (0,0) h8]
            simpa using hv
          have hlen:=h.len b
          have hc2:=hcell.sub off (T ty).cells
          rw [Nat.zero_add] at hc2
          obtain ⟨v,hrun,hsh⟩:=run_loadVar (hT ty) hnn hc2 (by simp; omega)
          refine ⟨v,_,?_,hsh,((view_ok h b).drop off).take _⟩
          simp only [hv]
          simpa [asAddr] using hrun
    · exact absurd rfl hx
def varSem (a:Act):ResultVar→Sem Value
  | .tmp t=>pure (a.tmps.getD t undef)
  | .cell b t=>do loadVar t (← asAddr (a.tmps.getD b undef))
def RunsOk (P:Program) (a:Act) (w:World):List ResultVar→List Value→Prop
  | [],vs=>vs=[]
  | x :: xs,vs=>∃ v vs',vs=v :: vs'∧(varSem a x).run P w=.ok v w∧RunsOk P a w xs vs'
theorem runs_mapM:∀ (l:List ResultVar) (vs:List Value),RunsOk P a w l vs→(l.mapM (varSem a)).run P w=.ok vs w
  | [],_,h=>by rw [show _=_ from h]; rfl
  | x :: l,_,⟨v,vs',e,h1,h2⟩=>by subst e; simp [List.mapM_cons,h1,runs_mapM l vs' h2]
theorem shOf_ne (b:Bool):shOf b≠.off:=by cases b <;> simp [shOf]
def RK.isBox:RK→Bool
  | .box _=>true
  | _=>false
theorem ress_fin (hV:EnvOk V) (hT:TOk P T) (h:RelAt P V W st a w) (hro:V.ro0=ro) {fx:List Nat}:∀ (rs:List RK) (vars:List ResultVar) (y:Took (Ress rs)),ressOf st T fx rs vars=some y →
    ∀ {G:Nat→Prop},(∀ k,reach V W y.p y.frz k→G k) →
    ∃ (us:List Value) (rbs:List (List Nat)) (bx:List Nat),RunsOk P a w vars us∧RessOk w G ro rs y.val us rbs∧(∀ k,rbs.flatten.count k=(bsOf W y.kill).count k+(bx.map W.β).count k) ∧
      (∀ b∈bx,live st b∧fx.any (Nat.beq b)=false)∧bx.length=rs.countP RK.isBox∧(∀ z∈y.frz,OwnPlace st z)∧∀ z∈y.kill,OwnPlace st z
  | [],[],y,hr,G,hG=>by
    simp only [ressOf,Option.some.injEq] at hr
    subst hr
    exact ⟨[],[],[],rfl,⟨rfl,rfl⟩,fun k=>by simp [bsOf],by simp,rfl,by simp,by simp⟩
  | [],_ :: _,_,hr,_,_=>by simp [ressOf] at hr
  | _ :: _,[],_,hr,_,_=>by simp [ressOf] at hr
  | r :: rs,x :: vars,y,hr,G,hG=>by
    simp only [ressOf] at hr
    cases hsh:decide (resSh st T x=r.sh) with
    | false=>simp [hsh] at hr
    | true =>
      simp only [hsh,cond_true] at hr
      have hsh:=of_decide_eq_true hsh
      split at hr
      · rename_i y1 y2 hy1 hy2
        simp only [Option.some.injEq] at hr
        subst hr
        obtain ⟨v,cs1,hrun,hs1,hl1⟩:=var_ok hT h x (by rw [hsh]; cases r <;> simp only [RK.sh] <;> first | exact shOf_ne _ | simp)
        rw [hsh] at hs1
        have hG1:∀ k,reach V W y1.p y1.frz k→G k:=fun k hk=>hG k (reach_append.1 k hk)
        have hG2:∀ k,reach V W y2.p y2.frz k→G k:=fun k hk=>hG k (reach_append.2 k hk)
        obtain ⟨us,rbs,bx,i1,i2,i3,i4,i5,i6,i7⟩:=ress_fin hV hT h hro rs vars y2 hy2 hG2
        have hrun':(varSem a x).run P w=.ok v w:=by cases x <;> exact hrun
        have fin:∀ (b:List Nat) (bx1:List Nat),ResOk w G ro r y1.val v b→(∀ k,b.count k=(bsOf W y1.kill).count k+(bx1.map W.β).count k)→(∀ b∈bx1,live st b∧fx.any (Nat.beq b)=false)→bx1.length=(if r.isBox then 1 else 0)→(∀ z∈y1.frz,OwnPlace st z)→(∀ z∈y1.kill,OwnPlace st z) →
            ∃ (us:List Value) (rbs:List (List Nat)) (bx:List Nat),RunsOk P a w (x :: vars) us∧RessOk w G ro (r :: rs) (y1.val,y2.val) us rbs∧(∀ k,rbs.flatten.count k=(bsOf W (y1.kill++y2.kill)).count k+(bx.map W.β).count k) ∧
              (∀ b∈bx,live st b∧fx.any (Nat.beq b)=false)∧bx.length=(r :: rs).countP RK.isBox∧(∀ z∈y1.frz++y2.frz,OwnPlace st z)∧∀ z∈y1.kill++y2.kill,OwnPlace st z:=by
          intro b bx1 f1 f2 f3 f4 f5 f6
          refine ⟨v :: us,b :: rbs,bx1++bx,⟨v,us,rfl,hrun',i1⟩,⟨v,us,b,rbs,rfl,rfl,f1,i2⟩,fun k=>?_,fun z hz=>(List.mem_append.1 hz).elim (f3 z) (i4 z),?_,fun z hz=>(List.mem_append.1 hz).elim (f5 z) (i6 z),fun z hz=>(List.mem_append.1 hz).elim (f6 z) (i7 z)⟩
          · rw [List.flatten_cons,List.count_append,f2 k,i3 k,bsOf_append,List.count_append,List.map_append,List.count_append]
            omega
          · rw [List.length_append,f4,i5,List.countP_cons]
            cases r.isBox <;> simp <;> omega
        cases r with
        | v b =>
          simp only [resOf] at hy1
          obtain ⟨g1,g2,g3⟩:=takeAll_ok (pos:=0) h hl1 hy1
          exact fin (bsOf W y1.kill) [] ⟨cs1,valOk_of hs1,g1.mono hG1⟩ (fun k=>by simp) (by simp) rfl g2 g3
        | bv b =>
          simp only [resOf,Option.map_eq_some_iff] at hy1
          obtain ⟨⟨p,z⟩,hz,rfl⟩:=hy1
          have g1:=gatherAll_ok h hl1 hz
          refine fin [] [] ⟨rfl,cs1,valOk_of hs1,g1.mono fun k hk=>?_⟩ (fun k=>by simp [bsOf]) (by simp) rfl (fun z hz=>owned_place hl1 hz) (by simp)
          rcases hk with (hk | ⟨_,hk⟩) | hk
          · exact .inl (hG1 k (.inl (.inl hk)))
          · exact .inr (by rw [← hro]; exact hk)
          · exact .inl (hG1 k (.inr hk))
        | box b =>
          simp only [resOf] at hy1
          split at hy1
          · rename_i b0 hls
            cases hfx:!(fx.any (Nat.beq b0)) with
            | false=>rw [hfx] at hy1; cases hy1
            | true =>
              rw [hfx] at hy1
              simp only [cond_true] at hy1
              have hs1:cs1=[v]:=hs1
              subst hs1
              rw [hls] at hl1
              obtain ⟨hB,hag,hval⟩:=hl1.1.1
              obtain ⟨g1,g2,g3⟩:=takeAll_ok (pos:=0) h (view_ok h b0) hy1
              rcases h.boxes b0 hB with ⟨h8,_⟩ | ⟨_,E,h8⟩
              · rw [hag] at h8; cases h8
              · exact fin (W.β b0 :: bsOf W y1.kill) [b0] ⟨W.β b0,W.cs b0,E,_,hval,h8,g1.mono hG1,rfl⟩ (fun k=>by
                  rw [List.count_cons,List.map_cons,List.map_nil,List.count_cons,List.count_nil]; omega) (fun b' hb'=>by
                  simp at hb'; subst hb'; exact ⟨⟨hB,hag⟩,by simpa using hfx⟩) rfl g2 g3
          · cases hy1
      · cases hr
theorem outs_fin (hV:EnvOk V) (h:RelAt P V W st a w) {w0:World} {pr:Nat→Prop} (hnt:V.nt≤GH):∀ (ps:List PK) (x:Args ps) (vs:List Value) (bss:List (List Nat)) (t:Nat) (o:Took (Outs ps)),ArgsOk P w0 ro pr ps x vs bss→outT st t ps=some o→t+ps.length≤V.nt →
    (∀ z∈fixtOf t ps vs,a.tmps.getD z.1 undef=z.2)→(∀ z∈fixbOf t ps vs,live st z.1∧W.β z.1=z.2)→∀ {G:Nat→Prop},(∀ k,reach V W o.p o.frz k→G k) →
    ∃ oss,OutsOk w G ps o.val vs oss∧(∀ k,oss.flatten.count k=(bsOf W o.kill).count k+((fixBoxes t ps).map W.β).count k)∧(∀ z∈o.frz,OwnPlace st z)∧(∀ z∈o.kill,OwnPlace st z)∧∀ b∈fixBoxes t ps,live st b
  | [],x,vs,bss,t,o,⟨e1,e2⟩,ho,_,_,_,G,hG=>by
    simp only [outT,Option.some.injEq] at ho
    subst ho; subst e1
    exact ⟨[],trivial,fun k=>by simp [bsOf,fixBoxes],by simp,by simp,by simp [fixBoxes]⟩
  | pk :: ps,x,vs,bss,t,o,⟨v,vs',b,bss',e1,e2,h1,h2⟩,ho,ht,hft,hfb,G,hG=>by
    subst e1; subst e2
    simp only [List.length_cons] at ht
    have other:∀ (o':Took (Outs ps)),outT st (t+1) ps=some o'→fixtOf t (pk :: ps) (v :: vs')=fixtOf (t+1) ps vs'→fixbOf t (pk :: ps) (v :: vs')=fixbOf (t+1) ps vs'→(∀ k,reach V W o'.p o'.frz k→G k) →
        ∃ oss,OutsOk w G ps o'.val vs' oss∧(∀ k,oss.flatten.count k=(bsOf W o'.kill).count k+((fixBoxes (t+1) ps).map W.β).count k)∧(∀ z∈o'.frz,OwnPlace st z)∧(∀ z∈o'.kill,OwnPlace st z)∧∀ b∈fixBoxes (t+1) ps,live st b:=by
      intro o' ho' e1 e2 hG'
      exact outs_fin hV h hnt ps x.2 vs' bss' (t+1) o' h2 ho' (by omega) (fun z hz=>hft z (by rw [e1]; exact hz)) (fun z hz=>hfb z (by rw [e2]; exact hz)) hG'
    cases pk with
    | io b =>
      simp only [outT] at ho
      split at ho
      · rename_i y1 y2 hy1 hy2
        simp only [Option.some.injEq] at ho
        subst ho
        obtain ⟨oss,i1,i2,i3,i4,i5⟩:=outs_fin hV h hnt ps x.2 vs' bss' (t+1) y2 h2 hy2 (by omega) (fun z hz=>hft z (List.mem_cons_of_mem _ hz)) (fun z hz=>hfb z hz) (fun k hk=>hG k (reach_append.2 k hk))
        cases hb:decide ((opnd st (.tmp t)).1=shOf b.isAgg) with
        | false=>rw [hb] at hy1; cases hy1
        | true =>
          rw [hb] at hy1
          simp only [cond_true] at hy1
          obtain ⟨cs,h3,h4⟩:=opnd_ok h (.tmp t)
          rw [of_decide_eq_true hb] at h3
          have hv:a.eval (.tmp t)=v:=hft (t,v) (List.mem_cons_self ..)
          rw [hv] at h3
          obtain ⟨g1,g2,g3⟩:=takeAll_ok (pos:=0) h h4 hy1
          refine ⟨bsOf W y1.kill :: oss,⟨?_,i1⟩,fun k=>?_,fun z hz=>(List.mem_append.1 hz).elim (g2 z) (i3 z),fun z hz=>(List.mem_append.1 hz).elim (g3 z) (i4 z),i5⟩
          · unfold OutOk
            rw [if_neg (by simp)]
            exact ⟨cs,valOk_of h3,g1.mono (fun k hk=>hG k (reach_append.1 k hk))⟩
          · rw [List.flatten_cons,List.count_append,i2 k,bsOf_append,List.count_append]
            show _=_+((fixBoxes (t+1) ps).map W.β).count k
            omega
      · cases ho
    | iop b =>
      simp only [outT] at ho
      split at ho
      · rename_i y1 y2 hy1 hy2
        simp only [Option.some.injEq] at ho
        subst ho
        obtain ⟨oss,i1,i2,i3,i4,i5⟩:=outs_fin hV h hnt ps x.2 vs' bss' (t+1) y2 h2 hy2 (by omega) (fun z hz=>hft z (List.mem_cons_of_mem _ hz)) (fun z hz=>hfb z (List.mem_cons_of_mem _ hz)) (fun k hk=>hG k (reach_append.2 k hk))
        obtain ⟨g,c,E,b0,hv,_,_,_⟩:=h1
        subst hv
        obtain ⟨hlv,hβ⟩:=hfb (B0+t,ptrBlk (.pointer (some ⟨g,0,none⟩))) (List.mem_cons_self ..)
        have hβ:W.β (B0+t)=g:=hβ
        obtain ⟨g1,g2,g3⟩:=takeAll_ok (pos:=0) h (view_ok h (B0+t)) hy1
        rcases h.boxes (B0+t) hlv.1 with ⟨h8,_⟩ | ⟨_,E',h8⟩
        · have:=hlv.2; rw [h8] at this; cases this
        · refine ⟨(g :: bsOf W y1.kill) :: oss,⟨?_,i1⟩,fun k=>?_,fun z hz=>(List.mem_append.1 hz).elim (g2 z) (i3 z),fun z hz=>(List.mem_append.1 hz).elim (g3 z) (i4 z),fun b' hb'=>?_⟩
          · unfold OutOk
            rw [if_pos rfl]
            exact ⟨g,W.cs (B0+t),E',_,rfl,by rw [← hβ]; exact h8,g1.mono (fun k hk=>hG k (reach_append.1 k hk)),rfl⟩
          · rw [List.flatten_cons,List.count_append,i2 k,bsOf_append,List.count_append,List.count_cons]
            show _=_+(W.β (B0+t) :: (fixBoxes (t+1) ps).map W.β).count k
            rw [List.count_cons,hβ]
            omega
          · rcases List.mem_cons.1 hb' with rfl | hb'
            · exact hlv
            · exact i5 b' hb'
      · cases ho
    | rd b =>
      obtain ⟨oss,i1,i2,i3,i4,i5⟩:=other o ho rfl rfl hG
      exact ⟨[] :: oss,⟨rfl,i1⟩,fun k=>by rw [List.flatten_cons,List.nil_append]; exact i2 k,i3,i4,i5⟩
    | own b =>
      obtain ⟨oss,i1,i2,i3,i4,i5⟩:=other o ho rfl rfl hG
      exact ⟨[] :: oss,⟨rfl,i1⟩,fun k=>by rw [List.flatten_cons,List.nil_append]; exact i2 k,i3,i4,i5⟩
    | rref b =>
      obtain ⟨oss,i1,i2,i3,i4,i5⟩:=other o ho rfl rfl hG
      exact ⟨[] :: oss,⟨rfl,i1⟩,fun k=>by rw [List.flatten_cons,List.nil_append]; exact i2 k,i3,i4,i5⟩
    | rref2 b =>
      obtain ⟨oss,i1,i2,i3,i4,i5⟩:=other o ho rfl rfl hG
      exact ⟨[] :: oss,⟨rfl,i1⟩,fun k=>by rw [List.flatten_cons,List.nil_append]; exact i2 k,i3,i4,i5⟩
    | fn As B =>
      obtain ⟨oss,i1,i2,i3,i4,i5⟩:=other o ho rfl rfl hG
      exact ⟨[] :: oss,⟨rfl,i1⟩,fun k=>by rw [List.flatten_cons,List.nil_append]; exact i2 k,i3,i4,i5⟩
    | clo f cs =>
      obtain ⟨oss,i1,i2,i3,i4,i5⟩:=other o ho rfl rfl hG
      exact ⟨[] :: oss,⟨rfl,i1⟩,fun k=>by rw [List.flatten_cons,List.nil_append]; exact i2 k,i3,i4,i5⟩
    | hol b c off =>
      obtain ⟨oss,i1,i2,i3,i4,i5⟩:=other o ho rfl rfl hG
      exact ⟨[] :: oss,⟨rfl,i1⟩,fun k=>by rw [List.flatten_cons,List.nil_append]; exact i2 k,i3,i4,i5⟩
end
end Go.Proofs.YthgnfidnmnkeaaaGreatEv
namespace Go.Proofs.YthgnfidnmnkeaaaGreatEv
open Go Go.RowKit
section
variable {P:Program} {Γ:List Ctr} {T:TypeId→TI} {w:World} {ro:Nat→Prop}
theorem run_results {fn:Func} {a:Act} {w:World} {vals:List Value} (h:RunsOk P a w fn.results.toList vals):(results fn a.tmps).run P w=.ok (if h:vals.toArray.size=1 then vals.toArray[0] else .tuple vals.toArray) w:=by
  have h1:=runs_mapM _ _ h
  have e:results fn a.tmps=(fn.results.mapM (varSem a) >>= fun vs=>pure (if h:vs.size=1 then vs[0] else .tuple vs)):=by
    unfold results
    congr 1
  have h2:(fn.results.mapM (varSem a)).run P w=.ok vals.toArray w:=by
    rw [Array.mapM_eq_mapM_toList]
    simp [h1]
  rw [e]
  simp only [Sem.run_bind,h2,Result.andThen_ok,Sem.run_pure]
theorem ret_ok (us:List Value):RetOk us (if h:us.toArray.size=1 then us.toArray[0] else .tuple us.toArray):=by
  match us with
  | []=>rfl
  | [u]=>rfl
  | u :: u' :: us =>
    rw [dif_neg (by simp)]
    rfl
theorem fix_nodup:∀ (ps:List PK) (t:Nat),(fixBoxes t ps).Nodup∧∀ b∈fixBoxes t ps,B0+t≤b
  | [],t=>⟨List.nodup_nil,by simp [fixBoxes]⟩
  | pk :: ps,t=>by
    obtain ⟨h1,h2⟩:=fix_nodup ps (t+1)
    have h3:∀ b∈fixBoxes (t+1) ps,B0+t≤b:=fun b hb=>by have:=h2 b hb; omega
    cases pk with
    | iop a =>
      refine ⟨List.nodup_cons.2 ⟨fun hm=>?_,h1⟩,fun b hb=>?_⟩
      · have:=h2 _ hm; omega
      · rcases List.mem_cons.1 hb with rfl | hb
        · exact Nat.le_refl _
        · exact h3 b hb
    | _=>exact ⟨h1,h3⟩
theorem rs_box {rs:List RK} (h:rsOk rs=true):rs.countP RK.isBox≤1:=by
  unfold rsOk at h
  split at h
  · simp [RK.isBox]
  · rw [List.countP_eq_zero.2]
    · exact Nat.zero_le _
    · intro r hr
      rw [List.all_eq_true] at h
      have:=h r hr
      cases r <;> simp [RK.isV,RK.isBox] at this ⊢
theorem map_count {β:Nat→Nat}:∀ {bs:List Nat},bs.Nodup→(∀ b∈bs,∀ b'∈bs,β b=β b'→b=b')→(bs.map β).Nodup
  | [],_,_=>List.nodup_nil
  | b :: bs,hn,hi=>by
    rw [List.nodup_cons] at hn
    rw [List.map_cons,List.nodup_cons]
    refine ⟨fun hm=>?_,map_count hn.2 (fun x hx y hy=>hi x (List.mem_cons_of_mem _ hx) y (List.mem_cons_of_mem _ hy))⟩
    obtain ⟨b',hb',e⟩:=List.mem_map.1 hm
    have:=hi b' (List.mem_cons_of_mem _ hb') b (List.mem_cons_self ..) e
    exact hn.1 (by rw [← this]; exact hb')
theorem fin_ok (hT:TOk P T) {c:Ctr} (hrs:rsOk c.rs=true) {vs:List Value} {bss:List (List Nat)} {fn:Func} {nt:Nat} (hV:EnvOk (envOf w ro c.ps vs bss nt)) {x:Args c.ps} {pr:Nat→Prop} (hargs:ArgsOk P w ro pr c.ps x vs bss) (hpl:c.ps.length≤nt) {ex:Ex} {s1:St} {y:Ress c.rs×Outs c.ps}
    (hfin:finK T c.ps c.rs c.fresh fn.results.toList ex s1=some y) {a:Act} {w':World} (hr:Rel P (envOf w ro c.ps vs bss nt) s1 a w') :
    (ex=.normal∨ex=.ret)∧∃ v,(results fn a.tmps).run P w'=.ok v w'∧Post c w ro vs bss y (.returned v) w':=by
  obtain ⟨W,hr⟩:=hr
  have hex:ex=.normal∨ex=.ret:=by
    cases ex with
    | normal=>exact .inl rfl
    | ret=>exact .inr rfl
    | exit id=>cases hfin
  refine ⟨hex,?_⟩
  have hfin:finR T c.ps c.rs c.fresh fn.results.toList s1=some y:=by
    rcases hex with rfl | rfl <;> exact hfin
  unfold finR at hfin
  split at hfin
  · rename_i yr yo hyr hyo
    cases hchk:distinct (yr.kill++yo.kill)&&apartK (yr.frz++yo.frz) (yr.kill++yo.kill)&&(!c.fresh||!(yr.p||yo.p)) with
    | false=>rw [hchk] at hfin; cases hfin
    | true =>
      rw [hchk] at hfin
      simp only [cond_true,Option.some.injEq] at hfin
      subst hfin
      simp only [Bool.and_eq_true] at hchk
      obtain ⟨⟨hdis,hap⟩,hfp⟩:=hchk
      let N:Nat→Prop:=fun k=>W.nw k∨∃ z∈yr.frz++yo.frz,k∈W.bs z.1 z.2
      have hG:∀ (p:Bool) (frz:List (Nat×Nat)),(p=true→(yr.p||yo.p)=true)→(∀ z∈frz,z∈yr.frz++yo.frz)→∀ k,reach (envOf w ro c.ps vs bss nt) W p frz k→N k∨(c.fresh=false∧ro k):=by
        intro p frz hp hz k hk
        rcases hk with (hk | ⟨hq,hk⟩) | ⟨z,hz',hk⟩
        · exact .inl (.inl hk)
        · refine .inr ⟨?_,hk⟩
          rw [hp hq] at hfp
          simpa using hfp
        · exact .inl (.inr ⟨z,hz z hz',hk⟩)
      obtain ⟨us,rbs,bx,r1,r2,r3,r4,r5,r6,r7⟩:=ress_fin hV hT hr rfl c.rs fn.results.toList yr hyr (G:=fun k=>N k∨(c.fresh=false∧ro k)) (hG yr.p yr.frz (by intro h; simp [h]) (fun z hz=>List.mem_append_left _ hz))
      obtain ⟨oss,o1,o2,o3,o4,o5⟩:=outs_fin hV hr hV.nt c.ps x vs bss 0 yo hargs hyo (by rw [Nat.zero_add]; exact hpl) (fun z hz=>hr.fixt z hz) (fun z hz=>hr.fixb z hz) (G:=fun k=>N k∨(c.fresh=false∧ro k)) (hG yo.p yo.frz (by intro h; simp [h]) (fun z hz=>List.mem_append_right _ hz))
      have hkpl:∀ z∈yr.kill++yo.kill,OwnPlace s1 z:=fun z hz=>(List.mem_append.1 hz).elim (r7 z) (o4 z)
      have hfpl:∀ z∈yr.frz++yo.frz,OwnPlace s1 z:=fun z hz=>(List.mem_append.1 hz).elim (r6 z) (o3 z)
      have hfr:∀ k,k<w'.heap.size→¬ (envOf w ro c.ps vs bss nt).prot k→Fresh w w' bss.flatten k:=by
        intro k hk hp
        refine ⟨hk,?_⟩
        by_cases hlt:k<w.heap.size
        · right
          apply Classical.byContradiction
          intro hn
          exact hp ⟨hlt,hn⟩
        · exact .inl (by omega)
      have hNF:∀ k,N k→Fresh w w' bss.flatten k:=by
        rintro k (hk | ⟨z,hz,hk⟩)
        · exact hfr k (hr.nwlt k hk).1 (hr.nwlt k hk).2
        · obtain ⟨l,h7,h8⟩:=hfpl z hz
          exact hfr k (hr.own_lt h7 h8 k hk) (hr.ownb z.1 z.2 l h7 h8 k hk).2.1
      have hbxl:∀ b∈bx++fixBoxes 0 c.ps,live s1 b:=fun b hb=>(List.mem_append.1 hb).elim (fun hb=>(r4 b hb).1) (o5 b)
      have hbxn:(bx++fixBoxes 0 c.ps).Nodup:=by
        rw [List.nodup_append]
        refine ⟨?_,(fix_nodup c.ps 0).1,fun b hb b' hb' e=>?_⟩
        · have:=rs_box hrs
          rw [← r5] at this
          match bx,this with
          | [],_=>exact List.nodup_nil
          | [b],_=>simp
        · subst e
          have:=List.any_eq_false.1 (r4 b hb).2 b hb'
          simp at this
      have hmapn:=map_count (β:=W.β) hbxn (fun b hb b' hb' e=>hr.inj b b' (hbxl b hb) (hbxl b' hb') e)
      have hcnt:∀ k,(oss.flatten++rbs.flatten).count k=(bsOf W (yr.kill++yo.kill)).count k+((bx++fixBoxes 0 c.ps).map W.β).count k:=fun k=>by
        rw [List.count_append,o2 k,r3 k,bsOf_append,List.count_append,List.map_append,List.count_append]
        omega
      have hbn:=nodup_count.1 (bsOf_nodup hr hdis hkpl)
      have hcase:∀ k∈oss.flatten++rbs.flatten,(∃ z∈yr.kill++yo.kill,k∈W.bs z.1 z.2)∨∃ b,live s1 b∧W.β b=k:=fun k hk=>by
        have h5:=List.count_pos_iff.2 hk
        rw [hcnt k] at h5
        by_cases h6:k∈bsOf W (yr.kill++yo.kill)
        · exact .inl (mem_bsOf.1 h6)
        · have:=List.count_eq_zero.2 h6
          obtain ⟨b,hb,e⟩:=List.mem_map.1 (List.count_pos_iff.1 (show 0<((bx++fixBoxes 0 c.ps).map W.β).count k by omega))
          exact .inr ⟨b,hbxl b hb,e⟩
      refine ⟨_,run_results r1,_,us,N,oss,rbs,rfl,ret_ok us,hr.size,hr.os,hr.tape,hr.output,fun k h1 h2=>hr.keep k ⟨h1,h2⟩,hNF,o1,r2,nodup_count.2 fun k=>?_,fun k hk=>?_⟩
      · rw [hcnt k]
        have h5:=hbn k
        have h6:=nodup_count.1 hmapn k
        by_cases h7:k∈(bx++fixBoxes 0 c.ps).map W.β
        · have:(bsOf W (yr.kill++yo.kill)).count k=0:=List.count_eq_zero.2 fun hm=>by
            obtain ⟨b,hb,e⟩:=List.mem_map.1 h7
            obtain ⟨z,hz,hkz⟩:=mem_bsOf.1 hm
            obtain ⟨l,hl,ho⟩:=hkpl z hz
            exact (hr.ownb z.1 z.2 l hl ho k hkz).2.2 b (hbxl b hb) e
          omega
        · have:=List.count_eq_zero.2 h7
          omega
      · rcases hcase k hk with ⟨z,hz,hkz⟩ | ⟨b,hb,e⟩
        · obtain ⟨l,hl,ho⟩:=hkpl z hz
          have h9:=hr.ownb z.1 z.2 l hl ho k hkz
          refine ⟨hfr k (hr.own_lt hl ho k hkz) h9.2.1,?_⟩
          rintro (hn | ⟨z',hz',hkz'⟩)
          · exact h9.1 hn
          · obtain ⟨l',hl',ho'⟩:=hfpl z' hz'
            obtain ⟨e1,e2⟩:=hr.sep z.1 z.2 l z'.1 z'.2 l' hl ho hl' ho' k hkz hkz'
            exact apart_k hap z' hz' (by rw [show z'=z from Prod.ext e1.symm e2.symm]; exact hz)
        · subst e
          have h9:=hr.box b hb
          refine ⟨hfr _ (hr.box_lt hb) h9.2,?_⟩
          rintro (hn | ⟨z',hz',hkz'⟩)
          · exact h9.1 hn
          · obtain ⟨l',hl',ho'⟩:=hfpl z' hz'
            exact (hr.ownb z'.1 z'.2 l' hl' ho' _ hkz').2.2 b hb rfl
  · cases hfin
theorem fixt_slots:∀ {ps:List PK} {vs:List Value} {t:Nat} {z:Nat×Value},z∈fixtOf t ps vs→z.1∈fixSlots t ps
  | [],_,_,_,h=>by simp [fixtOf] at h
  | pk :: ps,[],_,_,h=>by cases pk <;> simp [fixtOf] at h
  | pk :: ps,v :: vs,t,z,h=>by
    cases pk <;> simp only [fixtOf,fixSlots,List.mem_cons] at h ⊢ <;> first
      | exact fixt_slots h
      | exact h.imp (fun e=>by rw [e]) fixt_slots
theorem fixb_boxes:∀ {ps:List PK} {vs:List Value} {t:Nat} {z:Nat×Nat},z∈fixbOf t ps vs→z.1∈fixBoxes t ps
  | [],_,_,_,h=>by simp [fixbOf] at h
  | pk :: ps,[],_,_,h=>by cases pk <;> simp [fixbOf] at h
  | pk :: ps,v :: vs,t,z,h=>by
    cases pk <;> simp only [fixbOf,fixBoxes,List.mem_cons] at h ⊢ <;> first
      | exact fixb_boxes h
      | exact h.imp (fun e=>by rw [e]) fixb_boxes
theorem enter_ok {f:FuncId} {fn:Func} {c:Code} (hf:P.funcs[f]?=some fn) (hn:(fn.name== "runtime.NumGoroutine")=false) (hb:fn.body=some c):EnterOk P f:=by
  intro args w
  have hn':fn.name≠ "runtime.NumGoroutine" := by simpa using hn
  simp [callFunc,hf,hn',hb]
theorem fn_sound (hT:TOk P T) (hΓ:∀ c∈Γ,Sound P c) (hmix:P.follows .mixedOrders=true) {c:Ctr} {fn:Func} (hf:P.funcs[c.f]?=some fn) (hn:(fn.name== "runtime.NumGoroutine")=false)
    {L:List (Nat×List (Nat×List Coe))} {fuel:Nat} (hb:fn.body.isSome=true) (hden:∀ x,evF Γ T L fuel fn c.ps c.rs c.fresh x=c.den x):Sound P c:=by
  obtain ⟨code,hb⟩:=Option.isSome_iff_exists.1 hb
  refine ⟨enter_ok hf hn hb,fun w ro x vs bss y hargs hro hnd hy=>?_⟩
  rw [← hden] at hy
  unfold evF at hy
  simp only [hb] at hy
  cases hchk:codeOk fn.ntmps (fixSlots 0 c.ps) code&&Nat.ble c.ps.length fn.ntmps&&Nat.ble fn.ntmps GH&&rsOk c.rs&&loopsOk L (fixBoxes 0 c.ps) code with
  | false=>simp [hchk] at hy
  | true =>
    simp only [hchk,cond_true] at hy
    simp only [Bool.and_eq_true] at hchk
    obtain ⟨⟨⟨⟨h1,h2⟩,h3⟩,h4⟩,h5⟩:=hchk
    have h2:=Nat.le_of_ble_eq_true h2
    have h3:=Nat.le_of_ble_eq_true h3
    have hV:EnvOk (envOf w ro c.ps vs bss fn.ntmps):=⟨fun k hk=>hro k hk,h3⟩
    have hrel:=init_ok (P:=P) (ro:=ro) hargs hnd h2 h3
    refine calls_of_wp hf hb ?_
    rw [List.size_toArray]
    refine ev_ok hV hT hΓ hmix (fun z hz=>fixb_boxes hz) (nt:=fn.ntmps) (fix:=fixSlots 0 c.ps) rfl (fun z hz=>fixt_slots hz) code h1 h5 _ _ y _ hy (fun ex s1 hfin a' w' hr=>?_) _ _ hrel
    obtain ⟨hex,v,hrun,hpost⟩:=fin_ok hT h4 hV hargs h2 hfin hr
    have hdf:a'.defers=[]:=by obtain ⟨W,hr⟩:=hr; exact hr.df
    rcases hex with rfl | rfl <;> exact ⟨hdf,v,hrun,hpost⟩
end
end Go.Proofs.YthgnfidnmnkeaaaGreatEv
namespace Go.Proofs.YthgnfidnmnkeaaaGreatEv
open Go Go.RowKit
section
variable {P:Program}
def szB (P:Program) (t:TypeId) (n:Nat):Bool :=
  match P.info? t with
  | some i=>Nat.beq i.size n
  | none=>false
theorem szB_ok {t:TypeId} {n:Nat} (h:szB P t n=true):SizedAt P t n:=by
  unfold szB at h
  unfold SizedAt
  split at h
  · rename_i i hi
    rw [hi]
    simp only [Option.map_some]
    rw [Nat.eq_of_beq_eq_true h]
  · cases h
def aggB (P:Program) (t:TypeId) (agg:Bool):Bool :=
  match P.underlying t with
  | some (.struct _) | some (.array _ _)=>agg
  | some _=>!agg
  | none=>false
theorem aggB_ok {t:TypeId} {agg:Bool} (h:aggB P t agg=true):(P.underlying t).map (fun d=>match d with | .struct _ | .array _ _=>true | _=>false)=some agg:=by
  unfold aggB at h
  split at h
  · rename_i hu; rw [hu]; simp [h]
  · rename_i hu; rw [hu]; simp [h]
  · rename_i d h1 h2 hu
    rw [hu]
    simp only [Option.map_some,Option.some.injEq]
    cases agg with
    | true=>cases h
    | false =>
      cases d <;> first | rfl | (exact absurd hu (h1 _)) | (exact absurd hu (h2 _ _))
  · cases h
theorem agg_run {t:TypeId} {agg:Bool} (h:(P.underlying t).map (fun d=>match d with | .struct _ | .array _ _=>true | _=>false)=some agg) (w:World):(isAgg t).run P w=.ok agg w:=by
  unfold isAgg
  cases hd':P.underlying t with
  | none=>simp [hd'] at h
  | some dd =>
    rw [hd'] at h
    simp only [Option.map_some,Option.some.injEq] at h
    subst h
    rw [Sem.run_bind,run_underlying hd' w]
    cases dd <;> rfl
def fieldB (P:Program) (f:Field) (off:Nat) (b:Ty):Bool:=(f.name != "_")&&Nat.beq f.offset off&&szB P f.type b.cells&&aggB P f.type b.isAgg
def eqF (P:Program) (g:Ty→TypeId→Bool):List Field→Nat→Ty→Bool
  | [],_,_=>false
  | [f],off,b=>fieldB P f off b&&g b f.type
  | f :: fs,off,.pair b c=>fieldB P f off b&&g b f.type&&eqF P g fs (off+b.cells) c
  | _,_,_=>false
def eqT (P:Program):Nat→Ty→TypeId→Bool
  | 0,_,_=>false
  | n+1,a,t=>match a with
    | .int k=>(match P.underlying t with | some (.int k')=>decide (k'=k) | _=>false)
    | .bool=>(match P.underlying t with | some .bool=>true | _=>false)
    | .str=>(match P.underlying t with | some .string=>true | _=>false)
    | .pair b c=>(match P.underlying t with | some (.struct fs)=>!P.stoodInHeld t&&eqF P (eqT P n) fs.toList 0 (.pair b c) | _=>false)
    | _=>false
theorem flat_one:∀ (b:Ty),b.isAgg=false→b.cells=1
  | .int _,_=>rfl
  | .bool,_=>rfl
  | .str,_=>rfl
  | .list _ _ _,_=>rfl
  | .hdr,_=>rfl
  | .unit,h=>by cases h
  | .pair _ _,h=>by cases h
theorem run_part {f:Field} {off:Nat} {b:Ty} (h:fieldB P f off b=true) {xs p c s:List Value} (hx:xs=p++c++s) (hp:p.length=off) (hc:c.length=b.cells) (w:World) :
    ∃ v,(part f.type xs.toArray f.offset).run P w=.ok v w∧ValOk b.isAgg v c:=by
  unfold fieldB at h
  simp only [Bool.and_eq_true] at h
  obtain ⟨⟨⟨_,h2⟩,h3⟩,h4⟩:=h
  have h2:=Nat.eq_of_beq_eq_true h2
  have hagg:=agg_run (aggB_ok h4) w
  have hsz:=sized_run (szB_ok h3) w
  have hdrop:(xs.drop off).take b.cells=c:=by
    rw [hx,List.append_assoc,← hp,List.drop_left,← hc,List.take_left]
  cases hb:b.isAgg with
  | true =>
    rw [hb] at hagg
    refine ⟨.agg c.toArray,?_,rfl⟩
    have e:xs.toArray.extract off (off+b.cells)=c.toArray:=by
      rw [List.extract_toArray,List.extract_eq_take_drop,Nat.add_sub_cancel_left,hdrop]
    simp only [part,Sem.run_bind,hagg,Result.andThen_ok,if_true,hsz,Sem.run_pure,h2,e]
  | false =>
    rw [hb] at hagg
    have h1:=flat_one b hb
    rw [h1] at hc
    match c,hc with
    | [v],_ =>
      refine ⟨v,?_,rfl⟩
      have e:xs.toArray[off]?=some v:=by
        simp only [List.getElem?_toArray]
        rw [hx,List.append_assoc,List.getElem?_append_right (by omega)]
        simp [hp]
      simp only [part,Sem.run_bind,hagg,Result.andThen_ok,Bool.false_eq_true,if_false,h2,e,Sem.run_pure]
def EqSem (P:Program) (d:Nat) (b:Ty) (t:TypeId):Prop:=∀ (w:World) (G:Nat→Prop) (x y:b.den) (vx vy:Value) (cx cy:List Value),ValOk b.isAgg vx cx→Rd w G b x cx→ValOk b.isAgg vy cy→Rd w G b y cy →
  (Op.equalIn d t vx vy).run P w=.ok (b.eqv x y) w
theorem eqF_ok {d:Nat} {g:Ty→TypeId→Bool} (hg:∀ b t,g b t=true→EqSem P d b t):∀ (fs:List Field) (off:Nat) (b:Ty),eqF P g fs off b=true→∀ (w:World) (G:Nat→Prop) (x y:b.den) (px cx py cy:List Value),
    px.length=off→py.length=off→Rd w G b x cx→Rd w G b y cy→(Op.eqFields d (px++cx).toArray (py++cy).toArray fs).run P w=.ok (b.eqv x y) w
  | [],_,_,h=>by simp [eqF] at h
  | [f],off,b,h=>by
    intro w G x y px cx py cy hpx hpy hx hy
    simp only [eqF,Bool.and_eq_true] at h
    obtain ⟨v1,h1,h2⟩:=run_part h.1 (xs:=px++cx) (p:=px) (c:=cx) (s:=[]) (by simp) hpx hx.len w
    obtain ⟨v2,h3,h4⟩:=run_part h.1 (xs:=py++cy) (p:=py) (c:=cy) (s:=[]) (by simp) hpy hy.len w
    have h5:=hg b f.type h.2 w G x y v1 v2 cx cy h2 hx h4 hy
    have hn:f.name≠ "_" := by
      have:=h.1
      unfold fieldB at this
      simp only [Bool.and_eq_true] at this
      simpa using this.1.1.1
    simp only [Op.eqFields,if_pos hn,Sem.run_bind,h1,h3,h5,Result.andThen_ok]
    cases b.eqv x y <;> simp
  | f :: f' :: fs,off,.pair b c,h=>by
    intro w G x y px cx py cy hpx hpy hx hy
    simp only [eqF,Bool.and_eq_true] at h
    obtain ⟨⟨hf,hgb⟩,hrest⟩:=h
    obtain ⟨c1,c2,rfl,hx1,hx2⟩:=hx
    obtain ⟨d1,d2,rfl,hy1,hy2⟩:=hy
    obtain ⟨v1,h1,h2⟩:=run_part hf (xs:=px++(c1++c2)) (p:=px) (c:=c1) (s:=c2) (by simp) hpx hx1.len w
    obtain ⟨v2,h3,h4⟩:=run_part hf (xs:=py++(d1++d2)) (p:=py) (c:=d1) (s:=d2) (by simp) hpy hy1.len w
    have h5:=hg b f.type hgb w G x.1 y.1 v1 v2 c1 d1 h2 hx1 h4 hy1
    have h6:=eqF_ok hg (f' :: fs) (off+b.cells) c hrest w G x.2 y.2 (px++c1) c2 (py++d1) d2 (by simp [hpx,hx1.len]) (by simp [hpy,hy1.len]) hx2 hy2
    rw [List.append_assoc,List.append_assoc] at h6
    have hn:f.name≠ "_" := by
      unfold fieldB at hf
      simp only [Bool.and_eq_true] at hf
      simpa using hf.1.1.1
    rw [Op.eqFields]
    simp only [if_pos hn,Sem.run_bind,h1,h3,h5,Result.andThen_ok]
    show _=Result.ok (b.eqv x.1 y.1&&c.eqv x.2 y.2) w
    cases b.eqv x.1 y.1 with
    | false=>simp
    | true=>simpa using h6
  | f :: f' :: fs,off,.int _,h=>by simp [eqF] at h
  | f :: f' :: fs,off,.bool,h=>by simp [eqF] at h
  | f :: f' :: fs,off,.str,h=>by simp [eqF] at h
  | f :: f' :: fs,off,.unit,h=>by simp [eqF] at h
  | f :: f' :: fs,off,.list _ _ _,h=>by simp [eqF] at h
  | f :: f' :: fs,off,.hdr,h=>by simp [eqF] at h
theorem bytes_beq (x y:ByteArray):(x==y)=decide (x=y):=by
  rw [beq_toListBytes]
  by_cases h:x=y
  · subst h; simp
  · rw [decide_eq_false h]
    cases hb:(x.toList==y.toList) with
    | false=>rfl
    | true =>
      exfalso
      apply h
      have:=eq_of_beq hb
      rw [ByteArray.toList_eq,ByteArray.toList_eq] at this
      apply ByteArray.ext
      exact Array.ext' this
theorem eqT_ok:∀ (n:Nat) (a:Ty) (t:TypeId),eqT P n a t=true→∀ d,n≤d→EqSem P d a t
  | 0,_,_,h=>by simp [eqT] at h
  | n+1,a,t,h=>by
    intro d hd
    obtain ⟨d,rfl⟩:∃ d',d=d'+1:=⟨d-1,by omega⟩
    intro w G x y vx vy cx cy hvx hx hvy hy
    cases a with
    | int k =>
      simp only [eqT] at h
      split at h
      · rename_i k' hu
        have hk:=of_decide_eq_true h
        subst hk
        have hx:cx=[.int k' x]:=hx
        have hy:cy=[.int k' y]:=hy
        have hvx:cx=[vx]:=hvx
        have hvy:cy=[vy]:=hvy
        rw [hx] at hvx; rw [hy] at hvy
        simp at hvx hvy
        subst hvx; subst hvy
        simp [Op.equalIn,run_underlying hu,Ty.eqv]
        rfl
      · cases h
    | bool =>
      simp only [eqT] at h
      split at h
      · rename_i hu
        have hx:cx=[.bool x]:=hx
        have hy:cy=[.bool y]:=hy
        have hvx:cx=[vx]:=hvx
        have hvy:cy=[vy]:=hvy
        rw [hx] at hvx; rw [hy] at hvy
        simp at hvx hvy
        subst hvx; subst hvy
        simp [Op.equalIn,run_underlying hu,Ty.eqv]
      · cases h
    | str =>
      simp only [eqT] at h
      split at h
      · rename_i hu
        have hx:cx=[.string x]:=hx
        have hy:cy=[.string y]:=hy
        have hvx:cx=[vx]:=hvx
        have hvy:cy=[vy]:=hvy
        rw [hx] at hvx; rw [hy] at hvy
        simp at hvx hvy
        subst hvx; subst hvy
        have:=bytes_beq x y
        simp [Op.equalIn,run_underlying hu,Ty.eqv,this]
      · cases h
    | pair b c =>
      simp only [eqT] at h
      split at h
      · rename_i fs hu
        simp only [Bool.and_eq_true,Bool.not_eq_true'] at h
        have hf:P.fieldsOf t=fs:=by simp [Program.fieldsOf,hu]
        have hvx:vx=.agg cx.toArray:=hvx
        have hvy:vy=.agg cy.toArray:=hvy
        subst hvx; subst hvy
        rw [run_equalIn_struct (P:=P) w d t _ _ (by rw [hf]; exact hu) h.1,hf]
        have:=eqF_ok (P:=P) (fun b t hb=>eqT_ok n b t hb d (by omega)) fs.toList 0 (.pair b c) h.2 w G x y [] cx [] cy rfl rfl hx hy
        simpa using this
      · cases h
    | unit=>simp [eqT] at h
    | hdr=>simp [eqT] at h
    | list m E e=>simp [eqT] at h
theorem eqAt_of {t:TypeId} {a:Ty} (h:eqT P 64 a t=true) (ha:a.isAgg=true):EqAt P t a:=by
  intro _ w G x y cx cy hx hy
  have:=eqT_ok 64 a t h Op.maxDepth (by decide) w G x y (.agg cx.toArray) (.agg cy.toArray) cx cy (by rw [ha]; rfl) hx (by rw [ha]; rfl) hy
  exact this
def sameV:Value→Value→Bool
  | .int k n,.int k' n'=>decide (k=k')&&decide (n=n')
  | .bool b,.bool b'=>b==b'
  | .string s,.string s'=>decide (s.toList=s'.toList)
  | .slice none 0 0,.slice none 0 0=>true
  | .pointer none,.pointer none=>true
  | .nilFunc,.nilFunc=>true
  | _,_=>false
def sameZ:List Value→List Value→Bool
  | [],[]=>true
  | v :: vs,u :: us=>sameV v u&&sameZ vs us
  | _,_=>false
theorem sameV_ok {v u:Value} (h:sameV v u=true):v=u:=by
  unfold sameV at h
  split at h
  · simp only [Bool.and_eq_true,decide_eq_true_eq] at h
    rw [h.1,h.2]
  · rw [eq_of_beq h]
  · rename_i s s'
    have:s=s':=by
      have h1:=bytes_beq s s'
      rw [beq_toListBytes,of_decide_eq_true h] at h1
      simpa using h1.symm
    rw [this]
  · rfl
  · rfl
  · rfl
  · cases h
theorem sameZ_ok:∀ {vs us:List Value},sameZ vs us=true→vs=us
  | [],[],_=>rfl
  | v :: vs,u :: us,h=>by
    simp only [sameZ,Bool.and_eq_true] at h
    rw [sameV_ok h.1,sameZ_ok h.2]
  | [],_ :: _,h=>by simp [sameZ] at h
  | _ :: _,[],h=>by simp [sameZ] at h
def zB (P:Program) (t:TypeId) (agg:Bool) (cs:List Value):Bool :=
  match P.info? t with
  | some i=>match i.zero with
    | some (.agg xs)=>agg&&sameZ xs.toList cs
    | some v=>!agg&&sameZ [v] cs
    | none=>false
  | none=>false
theorem zB_agg {t:TypeId} {cs:List Value} (h:zB P t true cs=true):ZeroAt P t (.agg cs.toArray):=by
  unfold zB at h
  unfold ZeroAt
  split at h
  · rename_i i hi
    rw [hi]
    split at h
    · rename_i xs hz
      simp only [Bool.true_and] at h
      rw [Option.map_some,hz,← sameZ_ok h,Array.toArray_toList]
    · cases h
    · cases h
  · cases h
theorem zB_one {t:TypeId} {v:Value} (h:zB P t false [v]=true):ZeroAt P t v:=by
  unfold zB at h
  unfold ZeroAt
  split at h
  · rename_i i hi
    rw [hi]
    split at h
    · cases h
    · rename_i u _ hz
      simp only [Bool.not_false,Bool.true_and] at h
      have:=sameZ_ok h
      simp only [List.cons.injEq,and_true] at this
      rw [Option.map_some,hz,this]
    · cases h
  · cases h
def fieldsB (P:Program) (n:Nat):List Field→List (Nat×Nat×Bool)→Bool
  | [],[]=>true
  | f :: fs,(off,k,agg) :: xs=>Nat.beq f.offset off&&szB P f.type k&&aggB P f.type agg&&Nat.blt 0 k&&Nat.ble (off+k) n&&(agg||Nat.beq k 1)&&fieldsB P n fs xs
  | _,_=>false
def isU8:Ty→Bool
  | .int .u8=>true
  | _=>false
def u8B (P:Program) (E:TypeId):Bool :=
  match P.underlying E with
  | some (.int .u8)=>true
  | _=>false
def tiB (P:Program) (t:TypeId):TI→Bool
  | .int k=>(match P.underlying t with | some (.int k')=>decide (k'=k) | _=>false)&&szB P t 1&&zB P t false [.int k 0]
  | .bool=>(match P.underlying t with | some .bool=>true | _=>false)&&szB P t 1&&zB P t false [.bool false]
  | .str=>(match P.underlying t with | some .string=>true | _=>false)&&szB P t 1&&zB P t false [.string ByteArray.empty]
  | .slice E e bytes=>(match P.underlying t with | some (.slice E')=>Nat.beq E' E | _=>false)&&szB P t 1&&zB P t false [.slice none 0 0]&&Nat.blt 0 e.cells&&Nat.blt 0 bytes &&
      szB P E e.cells&&(match P.info? E with | some i=>Nat.beq i.bytes bytes&&(match i.zero with | some z=>sameZ z.cells.toList (zeroCells e) | none=>false) | none=>false)&&(!isU8 e||u8B P E)
  | .arr e n=>(match P.underlying t with | some (.array m E)=>Nat.beq m n&&szB P E e.cells&&aggB P E e.isAgg | _=>false)&&Nat.blt 0 e.cells&&szB P t (n*e.cells)&&zB P t true (List.replicate n (zeroCells e)).flatten
  | .struct a flds=>(match P.underlying t with | some (.struct fs)=>fieldsB P a.cells fs.toList flds | _=>false)&&szB P t a.cells&&zB P t true (zeroCells a)&&a.isAgg&&(!a.flat||eqT P 64 a t)&&!P.eqGuardType P.depth t
  | .ptr=>(match P.underlying t with | some (.pointer _)=>true | _=>false)&&szB P t 1&&zB P t false [.pointer none]
  | .fn=>(match P.underlying t with | some (.func _ _ _)=>true | _=>false)&&szB P t 1&&zB P t false [.nilFunc]
  | .none=>true
theorem fieldsB_ok {n:Nat}:∀ {fs:List Field} {xs:List (Nat×Nat×Bool)},fieldsB P n fs xs=true →
    fs.mapM (fun f=>(P.info? f.type).map fun i=>(f.offset,i.size))=some (xs.map fun x=>(x.1,x.2.1)) ∧
    ∀ (i off k:Nat) (agg:Bool),xs[i]?=some (off,k,agg)→(agg=false→k=1)∧∃ f:Field,fs[i]?=some f∧f.offset=off∧0<k∧off+k≤n∧SizedAt P f.type k ∧
      (P.underlying f.type).map (fun d=>match d with | .struct _ | .array _ _=>true | _=>false)=some agg
  | [],[],_=>⟨rfl,fun i off k agg h=>by simp at h⟩
  | [],_ :: _,h=>by simp [fieldsB] at h
  | _ :: _,[],h=>by simp [fieldsB] at h
  | f :: fs,(off,k,agg) :: xs,h=>by
    simp only [fieldsB,Bool.and_eq_true,Bool.or_eq_true] at h
    obtain ⟨⟨⟨⟨⟨⟨h1,h2⟩,h3⟩,h4⟩,h5⟩,h6⟩,h7⟩:=h
    have h1:=Nat.eq_of_beq_eq_true h1
    have hsz:=szB_ok h2
    obtain ⟨h8,h9⟩:=fieldsB_ok h7
    constructor
    · unfold SizedAt at hsz
      cases hi:P.info? f.type with
      | none=>rw [hi] at hsz; cases hsz
      | some i =>
        rw [hi] at hsz
        simp only [Option.map_some,Option.some.injEq] at hsz
        simp [List.mapM_cons,hi,h8,hsz,h1]
    · intro i off' k' agg' hx
      cases i with
      | zero =>
        simp at hx
        obtain ⟨rfl,rfl,rfl⟩:=hx
        refine ⟨fun ha=>?_,f,rfl,h1,by simpa [Nat.blt_eq] using h4,Nat.le_of_ble_eq_true h5,hsz,aggB_ok h3⟩
        rcases h6 with h6 | h6
        · rw [ha] at h6; cases h6
        · exact Nat.eq_of_beq_eq_true h6
      | succ i =>
        obtain ⟨q1,f',q2,q3⟩:=h9 i off' k' agg' (by simpa using hx)
        exact ⟨q1,f',by simpa using q2,q3⟩
theorem tiB_ok {t:TypeId} {i:TI} (h:tiB P t i=true):TIok P t i:=by
  cases i with
  | none=>trivial
  | int k =>
    simp only [tiB,Bool.and_eq_true] at h
    obtain ⟨⟨h1,h2⟩,h3⟩:=h
    split at h1
    · rename_i k' hu
      rw [of_decide_eq_true h1] at hu
      exact ⟨hu,szB_ok h2,zB_one h3⟩
    · cases h1
  | bool =>
    simp only [tiB,Bool.and_eq_true] at h
    obtain ⟨⟨h1,h2⟩,h3⟩:=h
    split at h1
    · rename_i hu; exact ⟨hu,szB_ok h2,zB_one h3⟩
    · cases h1
  | str =>
    simp only [tiB,Bool.and_eq_true] at h
    obtain ⟨⟨h1,h2⟩,h3⟩:=h
    split at h1
    · rename_i hu; exact ⟨hu,szB_ok h2,zB_one h3⟩
    · cases h1
  | ptr =>
    simp only [tiB,Bool.and_eq_true] at h
    obtain ⟨⟨h1,h2⟩,h3⟩:=h
    split at h1
    · rename_i e hu; exact ⟨⟨e,hu⟩,szB_ok h2,zB_one h3⟩
    · cases h1
  | fn =>
    simp only [tiB,Bool.and_eq_true] at h
    obtain ⟨⟨h1,h2⟩,h3⟩:=h
    split at h1
    · rename_i x y z hu; exact ⟨⟨x,y,z,hu⟩,szB_ok h2,zB_one h3⟩
    · cases h1
  | slice E e bytes =>
    simp only [tiB,Bool.and_eq_true] at h
    obtain ⟨⟨⟨⟨⟨⟨⟨h1,h2⟩,h3⟩,h4⟩,h5⟩,h6⟩,h7⟩,h8u⟩:=h
    have hu8:e=.int .u8→P.underlying E=some (.int .u8):=by
      intro he
      subst he
      have h8u:u8B P E=true:=by simpa [isU8] using h8u
      unfold u8B at h8u
      split at h8u
      · rename_i hq; exact hq
      · cases h8u
    split at h1
    · rename_i E' hu
      rw [Nat.eq_of_beq_eq_true h1] at hu
      split at h7
      · rename_i ti hti
        simp only [Bool.and_eq_true] at h7
        obtain ⟨h8,h9⟩:=h7
        split at h9
        · rename_i z hz
          have hsz:=szB_ok h6
          unfold SizedAt at hsz
          rw [hti] at hsz
          simp only [Option.map_some,Option.some.injEq] at hsz
          exact ⟨hu,szB_ok h2,zB_one h3,by simpa [Nat.blt_eq] using h4,⟨by simpa [Nat.blt_eq] using h5,hu8⟩,ti,z,hti,hsz,Nat.eq_of_beq_eq_true h8,hz,sameZ_ok h9⟩
        · cases h9
      · cases h7
    · cases h1
  | arr e n =>
    simp only [tiB,Bool.and_eq_true] at h
    obtain ⟨⟨⟨h1,h2⟩,h3⟩,h4⟩:=h
    split at h1
    · rename_i m E hu
      simp only [Bool.and_eq_true] at h1
      obtain ⟨⟨h5,h6⟩,h7⟩:=h1
      rw [Nat.eq_of_beq_eq_true h5] at hu
      exact ⟨⟨E,hu,szB_ok h6,aggB_ok h7⟩,by simpa [Nat.blt_eq] using h2,szB_ok h3,zB_agg h4⟩
    · cases h1
  | struct a flds =>
    simp only [tiB,Bool.and_eq_true,Bool.or_eq_true,Bool.not_eq_true'] at h
    obtain ⟨⟨⟨⟨⟨h1,h2⟩,h3⟩,h4⟩,h5⟩,h6⟩:=h
    split at h1
    · rename_i fs hu
      obtain ⟨h7,h8⟩:=fieldsB_ok h1
      refine ⟨⟨fs,hu,h7,fun i off n agg hx=>?_⟩,szB_ok h2,zB_agg h3,?_,h6⟩
      · obtain ⟨q1,f,q2,q3⟩:=h8 i off n agg hx
        exact ⟨q1,f,by simpa using q2,q3⟩
      · intro hf
        rcases h5 with h5 | h5
        · rw [hf] at h5; cases h5
        · exact eqAt_of h5 h4 hf
    · cases h1
def tlB (P:Program):List (TypeId×TI)→Bool
  | []=>true
  | x :: l=>tiB P x.1 x.2&&tlB P l
theorem tlB_ok:∀ {l:List (TypeId×TI)},tlB P l=true→TOk P (tlook l):=by
  intro l h
  refine tlook_ok ?_
  induction l with
  | nil=>simp
  | cons x l ih =>
    simp only [tlB,Bool.and_eq_true] at h
    intro y hy
    rcases List.mem_cons.1 hy with rfl | hy
    · exact tiB_ok h.1
    · exact ih h.2 y hy
end
end Go.Proofs.YthgnfidnmnkeaaaGreatEv
namespace Go.Proofs.YthgnfidnmnkeaaaGreatEv
open Go Go.RowKit
section
variable {P:Program} {T:TypeId→TI}
theorem nil_sound (hT:TOk P T) (hmix:P.follows .mixedOrders=true) {f:FuncId} {fn:Func} (hf:P.funcs[f]?=some fn) (hn:(fn.name== "runtime.NumGoroutine")=false) {E:TypeId} {e:Ty} {rs:List RK} {fresh:Bool}
    {den:Args [PK.rd (.list false E e)]→Option (Ress rs×Outs [PK.rd (.list false E e)])} {R0 A B C:Code} {rid:Nat} {o0 o1:Oper} {d0 q t t':Nat} {x0:Operand} {L:List (Nat×List (Nat×List Coe))} {K:Nat}
    (hb:fn.body=some (.seq R0 (.seq (.seq (.region rid #[o0,o1] false) (.cond (.tmp q) A B)) C))) (hg0:o0.guard=none) (hop0:o0.op=.move x0) (hop1:o1.op=.binOp .eql t (.tmp d0) (.const (.slice none 0 0)) t') (hg1:o1.guard=none) (hd1:o1.dst=some q)
    {E':TypeId} (ht:P.underlying t=some (.slice E'))
    (hchk:(codeOk fn.ntmps [] (.seq R0 (.seq (.seq (.region rid #[o0,o1] false) (.cond (.tmp q) A B)) C))&&Nat.ble 1 fn.ntmps&&Nat.ble fn.ntmps GH&&rsOk rs&&loopsOk L [] (.seq R0 (.seq (.seq (.region rid #[o0,o1] false) (.cond (.tmp q) A B)) C)))=true)
    {S1:Args [PK.rd (.list false E e)]→St}
    (hpre:∀ x,evK [] T L K R0 (mkSt (parsSt 0 [PK.rd (.list false E e)] x)) (kSeq (fun s _=>act [] T o0 s (fun U=>some (look U s))) (fun _ _=>none))=some (S1 x))
    (hleaf:∀ x,one (S1 x) (.tmp d0)=.ro true E e x.1)
    (hF:∀ x,evK [] T L K (.seq (.cond (.tmp q) A B) C) (look (putU (S1 x) [] q .one [.bool false]) (S1 x)) (finK T [PK.rd (.list false E e)] rs fresh fn.results.toList)=den x)
    (hTr:∀ x y,x.1=[]→den x=some y→evK [] T L K (.seq (.cond (.tmp q) A B) C) (look (putU (S1 x) [] q .one [.bool true]) (S1 x)) (finK T [PK.rd (.list false E e)] rs fresh fn.results.toList)=some y) :
    Sound P ⟨f,[PK.rd (.list false E e)],rs,fresh,den⟩:=by
  refine ⟨enter_ok hf hn hb,fun w ro x vs bss y hargs hro hnd hy=>?_⟩
  simp only [Bool.and_eq_true] at hchk
  obtain ⟨⟨⟨⟨h1,h2⟩,h3⟩,h4⟩,h5⟩:=hchk
  have h2:=Nat.le_of_ble_eq_true h2
  have h3:=Nat.le_of_ble_eq_true h3
  have hV:EnvOk (envOf w ro [PK.rd (.list false E e)] vs bss fn.ntmps):=⟨fun k hk=>hro k hk,h3⟩
  have hrel:=init_ok (P:=P) (ro:=ro) hargs hnd h2 h3
  have hnoΓ:∀ c∈([]:List Ctr),Sound P c:=by simp
  have hfb:∀ z∈(envOf w ro [PK.rd (.list false E e)] vs bss fn.ntmps).fixb,z.1∈([]:List Nat):=fun z hz=>fixb_boxes (ps:=[PK.rd (.list false E e)]) hz
  have hft:∀ z∈(envOf w ro [PK.rd (.list false E e)] vs bss fn.ntmps).fixt,z.1∈([]:List Nat):=fun z hz=>fixt_slots (ps:=[PK.rd (.list false E e)]) hz
  simp only [codeOk,Bool.and_eq_true] at h1
  simp only [loopsOk,Bool.and_eq_true] at h5
  obtain ⟨hc0,⟨hcr,hcc⟩,hcC⟩:=h1
  obtain ⟨hl0,⟨_,hlc⟩,hlC⟩:=h5
  refine calls_of_wp hf hb ?_
  rw [List.size_toArray]
  generalize hQd:bodyPost P fn (Post ⟨f,[PK.rd (.list false E e)],rs,fresh,den⟩ w ro vs bss y)=Q
  have hQ:∀ ex s1,finK T [PK.rd (.list false E e)] rs fresh fn.results.toList ex s1=some y→∀ a w',Rel P (envOf w ro [PK.rd (.list false E e)] vs bss fn.ntmps) s1 a w'→Q (exOf ex) a w':=by
    intro ex s1 hfin a' w' hr
    obtain ⟨hex,v,hrun,hpost⟩:=fin_ok (c:=⟨f,[PK.rd (.list false E e)],rs,fresh,den⟩) hT h4 hV hargs h2 hfin hr
    have hdf:a'.defers=[]:=by obtain ⟨W,hr⟩:=hr; exact hr.df
    subst hQd
    rcases hex with rfl | rfl <;> exact ⟨hdf,v,hrun,hpost⟩
  have hrest:∀ (b:Bool),evK [] T L K (.seq (.cond (.tmp q) A B) C) (look (putU (S1 x) [] q .one [.bool b]) (S1 x)) (finK T [PK.rd (.list false E e)] rs fresh fn.results.toList)=some y →
      ∀ a w',Rel P (envOf w ro [PK.rd (.list false E e)] vs bss fn.ntmps) (look (putU (S1 x) [] q .one [.bool b]) (S1 x)) a w'→(Code.cond (.tmp q) A B).wp P (Exit.then (C.wp P Q) Q) a w':=by
    intro b hev a w' hr
    refine ev_ok hV hT hnoΓ hmix hfb (nt:=fn.ntmps) (fix:=[]) rfl hft (.cond (.tmp q) A B) (by simp only [codeOk,Bool.and_eq_true]; exact hcc) (by simp only [loopsOk,Bool.and_eq_true]; exact hlc) _ _ y _ hev (fun ex s1 h6 a w' hr=>?_) a w' hr
    cases ex with
    | normal=>exact ev_ok hV hT hnoΓ hmix hfb (nt:=fn.ntmps) (fix:=[]) rfl hft C hcC hlC s1 _ y Q h6 hQ a w' hr
    | exit id'=>exact hQ (.exit id') s1 h6 a w' hr
    | ret=>exact hQ .ret s1 h6 a w' hr
  have hopk:∀ (i:Nat) (o:Oper),(#[o0,o1]:Array Oper)[i]?=some o→operOk fn.ntmps [] #[o0,o1] o=true:=fun i o hi=>by
    simp only [List.all_eq_true] at hcr
    exact hcr o (by simpa using Array.mem_of_getElem? hi)
  refine wp_seq (ev_ok hV hT hnoΓ hmix hfb (nt:=fn.ntmps) (fix:=[]) rfl hft R0 hc0 hl0 _ _ (S1 x) _ (hpre x) (fun ex s0 h6 a w' hr=>?_) _ _ hrel)
  cases ex with
  | exit id'=>cases h6
  | ret=>cases h6
  | normal =>
    have h6:act [] T o0 s0 (fun U=>some (look U s0))=some (S1 x):=h6
    rw [act_bind] at h6
    obtain ⟨U,hU,h6⟩:=Option.bind_eq_some_iff.1 h6
    simp only [Option.some.injEq] at h6
    refine wp_seq (wp_seq (wp_region ?_))
    have hrange:List.range (#[o0,o1]:Array Oper).size=[0,1]:=rfl
    rw [hrange,wpOps_cons]
    refine op_ok hV hT hnoΓ (ops:=#[o0,o1]) (i:=0) (o:=o0) rfl (operOk_dst rfl hft (hopk 0 o0 rfl)) (fun j want hg=>by rw [hg0] at hg; cases hg) (U:=U) (by unfold OpRes; rw [hg0]; exact hU) hr (fun a1 w1 hr1=>?_)
    rw [h6] at hr1
    rw [wpOps_cons]
    obtain ⟨W1,hr1⟩:=hr1
    have hok1:DstOk (envOf w ro [PK.rd (.list false E e)] vs bss fn.ntmps) o1:=operOk_dst rfl hft (hopk 1 o1 rfl)
    obtain ⟨h7,_,_,_,_⟩:=one_ok hr1 (.tmp d0) (by rw [hleaf x]; simp)
    rw [hleaf x] at h7
    obtain ⟨A',cap,hv,_,hel⟩:=h7
    have hv:a1.eval (.tmp d0)=.slice A' x.1.length cap:=by simpa using hv
    have hlen:A'=none→x.1=[]:=fun hA=>by
      cases hx:x.1 with
      | nil=>rfl
      | cons y ys =>
        obtain ⟨g,o,hA',_⟩:=hel (by rw [hx]; simp)
        rw [hA] at hA'
        cases hA'
    have hev:evK [] T L K (.seq (.cond (.tmp q) A B) C) (look (putU (S1 x) [] q .one [.bool A'.isNone]) (S1 x)) (finK T [PK.rd (.list false E e)] rs fresh fn.results.toList)=some y:=by
      cases hA:A' with
      | none=>exact hTr x y (hlen hA) hy
      | some ad=>exact (hF x).trans hy
    have hrun:(execOp a1.eval o1).run P w1=.ok (.value (.bool A'.isNone)) w1:=by
      have:=Lib.run_eql_slice_nil (P:=P) w1 t E' A' x.1.length cap 0 0 ht
      have hc:a1.eval (.const (.slice none 0 0))=.slice none 0 0:=rfl
      simp [execOp,hop1,hv,hc,eqGuard,this]
    unfold wpOp
    have hi:(#[o0,o1]:Array Oper)[1]?=some o1:=rfl
    simp only [hi]
    have hw:Region.wanted o1 (yielded #[o0,o1] a1.tmps)=true:=by simp [Region.wanted,hg1]
    rw [if_pos hw]
    refine .inl (wp_value hrun ?_)
    rw [hd1]
    show Exit.then _ _ _ _ _
    exact hrest _ hev _ _ (hr1.putLs hV q (hok1 q hd1).1 (hok1 q hd1).2 _ .one [.bool A'.isNone] (.bool A'.isNone) [.bool A'.isNone] (Nat.lt_succ_self _) rfl ⟨⟨rfl,id,rfl⟩,trivial⟩)
end
end Go.Proofs.YthgnfidnmnkeaaaGreatEv
