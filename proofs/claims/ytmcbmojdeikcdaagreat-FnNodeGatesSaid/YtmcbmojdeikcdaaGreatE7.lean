/- Code and loops. -/
import Derived.Test.YtmcbmojdeikcdaaGreatE6
import Derived.Laws.StructEq
import Derived.Lib.SliceRun
namespace Go.Proofs.YtmcbmojdeikcdaaGreatEv
open Go Go.RowKit
section
variable {P:Program} {V:Env} {Γ:List Ctr} {T:TypeId->TI} {st st':St} {o:Oper} {R:Type} {all:Array Oper}
theorem jS (live:List Nat):∀ (cs:List Coe) (ls:List Leaf),(cH st live cs ls).length=ls.length
 |[],[]=>rfl
 |_::_,[]=>rfl
 |[],_::ls=>by simp[cH,jS live [] ls]
 |_::cs,_::ls=>by simp[cH,jS live cs ls]
theorem nK (live:List Nat):∀ (cs:List Coe) (ls:List Leaf) (j:Nat) (l:Leaf),(cH st live cs ls)[j]?=some l->∃ l0,ls[j]?=some l0/\(l=.dead\/∃ c,l=bo st live c l0)
 |[],[],j,l,h=>by simp[cH]at h
 |_::_,[],j,l,h=>by simp[cH]at h
 |[],l0::ls,0,l,h=>by simp[cH]at h;exact⟨l0,rfl,.inl h.symm⟩
 |c::cs,l0::ls,0,l,h=>by simp[cH]at h;exact⟨l0,rfl,.inr ⟨c,h.symm⟩⟩
 |[],l0::ls,j+1,l,h=>by
  simp only[cH,List.getElem?_cons_succ]at h
  obtain⟨l1,h1,h2⟩:=nK live [] ls j l h
  exact⟨l1,by simpa using h1,h2⟩
 |c::cs,l0::ls,j+1,l,h=>by
  simp only[cH,List.getElem?_cons_succ]at h
  obtain⟨l1,h1,h2⟩:=nK live cs ls j l h
  exact⟨l1,by simpa using h1,h2⟩
theorem yA (live:List (Nat×List Coe))(q:Nat):kG live st q=bM.none/\q∉live.map (·.1)\/∃ cs,kG live st q=⟨0,(st q).sh,cH st (live.map (·.1)) cs (st q).ls⟩/\q∈live.map (·.1):=by
 have key:∀ (keys:List Nat) (l:List (Nat×List Coe)),(aA (l.map λr=>(r.1,⟨0,(st r.1).sh,cH st keys r.2 (st r.1).ls⟩)) q=bM.none/\q∉l.map (·.1)) \/
   ∃ cs,aA (l.map λr=>(r.1,⟨0,(st r.1).sh,cH st keys r.2 (st r.1).ls⟩)) q=⟨0,(st q).sh,cH st keys cs (st q).ls⟩/\q∈l.map (·.1):=by
  intro keys l
  induction l with
  |nil=>exact .inl ⟨rfl,by simp⟩
  |cons x l ih =>
   obtain⟨r,cs⟩:=x
   by_cases h:q=r
   ·subst h
    exact .inr ⟨cs,by simp[aA,ac],by simp⟩
   ·have hb:Nat.beq q r=false:=by
     cases hb:Nat.beq q r with
     |false=>rfl
     |true=>exact absurd (Nat.eq_of_beq_eq_true hb) h
    rcases ih with ⟨h1,h2⟩|⟨cs',h1,h2⟩
    ·refine .inl ⟨?_,by simpa[h]using h2⟩
     rw[<- h1]
     simp[aA,ac,hb]
    ·refine .inr ⟨cs',?_,by simp only[List.map_cons,List.mem_cons];exact .inr h2⟩
     rw[<- h1]
     simp[aA,ac,hb]
 exact key (live.map (·.1)) live
theorem vV {keys:List Nat}{c:Coe}{l0:Leaf}(h:an (bo st keys c l0)):an l0\/l0=.nil:=by
 cases l0 with
 |own p hh E e xs=>exact .inl trivial
 |nil=>exact .inr rfl
 |_ =>
  exfalso
  revert h
  cases c <;> simp only[bo] <;> first
   |exact id
   |(cases (!_||_:Bool) <;> first | exact id | (split <;> exact id))
   |(cases (_&&_:Bool) <;> exact id)
   |(cases (List.any _ _:Bool) <;> exact id)
   |(cases (List.all _ _:Bool) <;> exact id)
theorem gP.nw {W W':Wit}{w:World}{c:Bool×Bool×(a:Ty)×a.den}{u:Value}(hnw:∀ k,W.nw k->W'.nw k)(h:gP V W w c u):gP V W' w c u:=by
 have hgd:∀ (p:Bool) k,gd V W p k->gd V W' p k:=λp k hk=>hk.imp (hnw k) id
 unfold gP at h ⊢
 split at h
 ·rename_i hb
  rw[if_pos hb]
  obtain⟨b,ob,g,o',c',hv,hb1,hcell,hg,hr,hc⟩:=h
  exact⟨b,ob,g,o',c',hv,hb1.imp (hnw b) id,hcell,hg.imp (hnw g) id,Rd.mono (hgd _) hr,hc⟩
 ·rename_i hb
  rw[if_neg hb]
  obtain⟨g,o',c',hv,hg,hr,hc⟩:=h
  exact⟨g,o',c',hv,hg.imp (hnw g) id,Rd.mono (hgd _) hr,hc⟩
theorem uG {W W':Wit}{w:World}{keys:List Nat}{bs bs':List Nat}{c:Coe}{l0:Leaf}{v:Value}(h:aJ P V W st w bs l0 v)
  (hnw:∀ k,W.nw k->W'.nw k) (hβ:W'.β=W.β) (hcs:∀ q,keys.any (Nat.beq q)=true->W'.cs q=W.cs q) (hlive:∀ b,keys.any (Nat.beq b)=true->(st b).sh=.agg->(st' b).sh=.agg)
  (hown:an l0->bs'=bs) (hnil:l0=.nil->bs'=[]) (hfrz:an l0->¬ an (bo st keys c l0)->(∃ p E e,c=.ro p E e)->∀ k∈bs,W'.nw k) :
  aJ P V W' st' w bs' (bo st keys c l0) v:=by
 have hgd:∀ (p q:Bool),(!q||p)=true->∀ k,gd V W q k->gd V W' p k:=by
  intro p q hpq k hk
  rcases hk with hk|⟨h1,hk⟩
  ·exact .inl (hnw k hk)
  ·refine .inr ⟨?_,hk⟩
   subst h1
   simpa using hpq
 cases c with
 |kill=>simp only[bo];trivial
 |keep =>
  cases l0 with
  |int k n=>exact h
  |bool b=>exact h
  |str s=>exact h
  |nil=>exact h
  |hdr n=>exact h
  |fn As B φ=>exact h
  |clr f caps =>
   obtain⟨us,h1,h2,h3⟩:=h
   exact⟨us,h1,h2,λi c u g1 g2=>(h3 i c u g1 g2).nw hnw⟩
  |al r j n =>
   simp only[bo]
   cases hb:keys.any (Nat.beq r)&&Nat.beq (st r).ver n with
   |false=>trivial
   |true =>
    simp only[Bool.and_eq_true]at hb
    exact⟨Nat.zero_le _,λ_=>by rw[hcs r hb.1];exact h.2 (Nat.eq_of_beq_eq_true hb.2)⟩
  |bp b off =>
   simp only[bo]
   cases hb:keys.any (Nat.beq b) with
   |false=>trivial
   |true =>
    obtain⟨h1,h2,h3⟩:=h
    exact⟨h1,hlive b hb h2,by rw[hβ];exact h3⟩
  |clo f caps =>
   simp only[bo]
   cases hb:caps.all (λb=>keys.any (Nat.beq b)) with
   |false=>trivial
   |true =>
    obtain⟨h1,h2⟩:=h
    rw[List.all_eq_true]at hb
    exact⟨by rw[hβ];exact h1,λb hbc=>⟨(h2 b hbc).1,hlive b (hb b hbc) (h2 b hbc).2⟩⟩
  |_=>simp only[bo];trivial
 |own p E e =>
  cases l0 with
  |nil =>
   have hv:v=.slice none 0 0:=h
   subst hv
   rw[hnil rfl]
   exact OwH.nil w _ E e
  |own q hh E' e' xs =>
   cases hh with
   |some x=>simp only[bo];trivial
   |none =>
    simp only[bo]
    cases hb:(!q||p) with
    |false=>trivial
    |true =>
     rw[hown trivial]
     exact OwH.carry h (hgd p q hb) (λ_ _=>rfl) (λ_ _=>rfl)
  |_=>simp only[bo];trivial
 |ro p E e =>
  cases l0 with
  |nil =>
   have hv:v=.slice none 0 0:=h
   subst hv
   exact Rd.nil w _ false E e
  |ro q E' e' xs =>
   simp only[bo]
   cases hb:(!q||p) with
   |false=>trivial
   |true =>
    simp only[cond_true]
    split
    ·rename_i ys hc
     exact Rd.castSh (m:=false) (m':=false) (E:=E) hc (Rd.mono (hgd p q hb) h)
    ·trivial
  |own q hh E' e' xs =>
   cases hh with
   |some x=>simp only[bo];trivial
   |none =>
    have hfz:=hfrz trivial (by
     simp only[bo]
     cases (!q||p) with
     |false=>exact id
     |true=>simp only[cond_true];split <;> exact id) ⟨p,E,e,rfl⟩
    simp only[bo]
    cases hb:(!q||p) with
    |false=>trivial
    |true =>
     simp only[cond_true]
     split
     ·rename_i ys hc
      refine Rd.castSh (m:=false) (m':=false) (E:=E) (E':=E') hc (Rd.mono (λk hk=>?_) (OwH.rd (m:=false) (E':=E') h))
      rcases hk with hk|hk
      ·exact hgd p q hb k hk
      ·exact .inl (hfz k hk)
     ·trivial
  |_=>simp only[bo];trivial
 |rp p =>
  cases l0 with
  |rpp q a x =>
   simp only[bo]
   cases hb:(!q||p) with
   |false=>trivial
   |true =>
    obtain⟨b,ob,g,o',c,hv,hb1,hcell,hg,hr,hc⟩:=h
    exact⟨b,ob,g,o',c,hv,hb1.imp (hnw b) id,hcell,hg.imp (hnw g) id,Rd.mono (hgd p q hb) hr,hc⟩
  |rp q a x off =>
   simp only[bo]
   cases hb:(!q||p) with
   |false=>trivial
   |true =>
    obtain⟨g,o',c,hv,hg,hr,hc⟩:=h
    exact⟨g,o',c,hv,hg.imp (hnw g) id,Rd.mono (hgd p q hb) hr,hc⟩
  |_=>simp only[bo];trivial
open Classical in
theorem tz (_hV:ax V){a:Act}{w:World}(h:Rel P V st a w)(live:List (Nat×List Coe))(hfb:∀ x∈V.fixb,x.1∈live.map (·.1)):Rel P V (kG live st) a w:=by
 obtain⟨W,h⟩:=h
 have hat:=yA (st:=st) live
 have hlv:∀ b,Go.Proofs.YtmcbmojdeikcdaaGreatEv.live (kG live st) b->Go.Proofs.YtmcbmojdeikcdaaGreatEv.live st b:=by
  rintro b ⟨h1,h2⟩
  rcases hat b with ⟨e,_⟩|⟨cs,e,_⟩
  ·rw[e]at h2;cases h2
  ·rw[e]at h2;exact⟨h1,h2⟩
 have hle:∀ (q j:Nat) (l:Leaf),(kG live st q).ls[j]?=some l->q∈live.map (·.1)/\∃ l0,(st q).ls[j]?=some l0/\(l=.dead\/∃ c,l=bo st (live.map (·.1)) c l0):=by
  intro q j l hl
  rcases hat q with ⟨e,_⟩|⟨cs,e,hm⟩
  ·rw[e]at hl;simp[bM.none]at hl
  ·rw[e]at hl;exact⟨hm,nK _ _ _ _ _ hl⟩
 have hob:∀ (q j:Nat) (l:Leaf),(kG live st q).ls[j]?=some l->an l->∃ l0,(st q).ls[j]?=some l0/\(an l0\/l0=.nil):=by
  intro q j l hl ho
  obtain⟨_,l0,h1,h2⟩:=hle q j l hl
  rcases h2 with rfl|⟨c,rfl⟩
  ·exact ho.elim
  ·exact⟨l0,h1,vV ho⟩
 have hany:∀ b,(live.map (·.1)).any (Nat.beq b)=true->b∈live.map (·.1):=λb hb=>by
  rw[List.any_eq_true]at hb
  obtain⟨x,hx,he⟩:=hb
  rw[Nat.eq_of_beq_eq_true he]
  exact hx
 let bs':Nat->Nat->List Nat:=λq j=>if (∃ l0,(st q).ls[j]?=some l0/\an l0) then W.bs q j else []
 let nw':Nat->Prop:=λk=>W.nw k\/∃ q j l0 l,(st q).ls[j]?=some l0/\an l0/\(kG live st q).ls[j]?=some l/\¬ an l/\k∈W.bs q j
 have hbs1:∀ (q j k:Nat),k∈bs' q j->(∃ l0,(st q).ls[j]?=some l0/\an l0)/\k∈W.bs q j:=by
  intro q j k hk
  by_cases hc:∃ l0,(st q).ls[j]?=some l0/\an l0
  ·simp only[bs',if_pos hc]at hk;exact⟨hc,hk⟩
  ·simp only[bs',if_neg hc]at hk;simp at hk
 refine⟨{ β:=W.β,cs:=λq=>if q∈live.map (·.1) then W.cs q else [],bs:=bs',nw:=nw' },?_⟩
 exact {
  nt:=h.nt,df:=h.df
  slots:=λt ht=>by
   rcases hat t with ⟨e,hm⟩|⟨cs,e,hm⟩
   ·rw[e];simp[hm,bM.none,dI]
   ·rw[e];simp only[hm,if_true];exact h.slots t ht
  boxes:=λb hb=>by
   rcases hat b with ⟨e,hm⟩|⟨cs,e,hm⟩
   ·rw[e];exact .inl ⟨rfl,rfl⟩
   ·rw[e]
    rcases h.boxes b hb with ⟨h1,h2⟩|⟨h1,E,h2⟩
    ·exact .inl ⟨h1,by rw[h2];exact List.eq_nil_of_length_eq_zero (by rw[jS];rfl)⟩
    ·exact .inr ⟨h1,E,by simp only[hm,if_true];exact h2⟩
  len:=λq=>by
   rcases hat q with ⟨e,hm⟩|⟨cs,e,hm⟩
   ·rw[e];simp[hm,bM.none]
   ·rw[e];simp only[hm,if_true,jS];exact h.len q
  one:=λq u hu=>by
   by_cases hm:q∈live.map (·.1)
   ·simp only[hm,if_true]at hu;exact h.one q u hu
   ·simp only[hm,if_false]at hu;simp at hu
  leaf:=λq j l v hl hv=>by
   obtain⟨hm,l0,h1,h2⟩:=hle q j l hl
   simp only[hm,if_true]at hv
   have hlo:=h.leaf q j l0 v h1 hv
   rcases h2 with rfl|⟨c,rfl⟩
   ·trivial
   ·refine uG (st:=st) (W:=W) (W':={ β:=W.β,cs:=λq=>if q∈live.map (·.1) then W.cs q else [],bs:=bs',nw:=nw' }) (keys:=live.map (·.1)) hlo (λk hk=>Or.inl hk) rfl (λq hq=>if_pos (hany q hq)) ?_ ?_ ?_ ?_
    ·intro b hb hag
     have hbm:=hany b hb
     rcases hat b with ⟨_,hm'⟩|⟨cs,e,_⟩
     ·exact absurd hbm hm'
     ·rw[e];exact hag
    ·intro ho
     show bs' q j=_
     simp only[bs',if_pos (⟨l0,h1,ho⟩:∃ l0,(st q).ls[j]?=some l0/\an l0)]
    ·intro e
     show bs' q j=_
     have hc:¬ ∃ l0,(st q).ls[j]?=some l0/\an l0:=by
      rintro⟨l1,h3,h4⟩
      rw[h1,e]at h3
      cases h3
      exact h4.elim
     simp only[bs',if_neg hc]
    ·intro ho hn _ k hk
     exact .inr ⟨q,j,l0,_,h1,ho,hl,hn,hk⟩
  ownb:=λq j l hl ho k hk=>by
   obtain⟨⟨l0,h1,h2⟩,h3⟩:=hbs1 q j k hk
   obtain⟨q1,q2,q3⟩:=h.ownb q j l0 h1 h2 k h3
   refine⟨?_,q2,λb hb=>q3 b (hlv b hb)⟩
   rintro (hn|⟨q',j',l1,l2,h4,h5,h6,h7,h8⟩)
   ·exact q1 hn
   ·obtain⟨rfl,rfl⟩:=h.sep q j l0 q' j' l1 h1 h2 h4 h5 k h3 h8
    rw[hl]at h6
    cases h6
    exact h7 ho
  sep:=λq j l q' j' l' _ _ _ _ k hk hk'=>by
   obtain⟨⟨l0,h1,h2⟩,h3⟩:=hbs1 q j k hk
   obtain⟨⟨l0',h1',h2'⟩,h3'⟩:=hbs1 q' j' k hk'
   exact h.sep q j l0 q' j' l0' h1 h2 h1' h2' k h3 h3'
  box:=λb hb=>by
   obtain⟨q1,q2⟩:=h.box b (hlv b hb)
   refine⟨?_,q2⟩
   rintro (hn|⟨q',j',l1,l2,h4,h5,h6,h7,h8⟩)
   ·exact q1 hn
   ·exact (h.ownb q' j' l1 h4 h5 _ h8).2.2 b (hlv b hb) rfl
  inj:=λb b' hb hb'=>h.inj b b' (hlv b hb) (hlv b' hb')
  nwlt:=λk hk=>by
   rcases hk with hn|⟨q',j',l1,l2,h4,h5,h6,h7,h8⟩
   ·exact h.nwlt k hn
   ·exact⟨h.own_lt h4 h5 k h8,(h.ownb q' j' l1 h4 h5 k h8).2.1⟩
  os:=h.os,tape:=h.tape,output:=h.output,size:=h.size,keep:=h.keep
  fixb:=λx hx=>by
   obtain⟨⟨h1,h2⟩,h3⟩:=h.fixb x hx
   refine⟨⟨h1,?_⟩,h3⟩
   rcases hat x.1 with ⟨_,hm⟩|⟨cs,e,_⟩
   ·exact absurd (hfb x hx) hm
   ·rw[e];exact h2
  fixt:=h.fixt }
def exOf:Ex->Exit
 |.normal=>.normal
 |.exit id=>.exit id
 |.ret=>.ret
theorem lj {nt:Nat}{fix:List Nat}(hnt:V.nt=nt)(hfix:∀ x∈V.fixt,x.1∈fix)(h:ki nt fix all o=true):bF V o:=by
 intro d hd
 simp only[ki,hd,Bool.and_eq_true,Bool.not_eq_true',List.any_eq_false]at h
 obtain⟨⟨h1,h2⟩,_⟩:=h
 refine⟨by rw[hnt];simpa[Nat.blt_eq]using h1,λx hx e=>?_⟩
 exact h2 _ (hfix x hx) (by simp[e])
end
end Go.Proofs.YtmcbmojdeikcdaaGreatEv
namespace Go.Proofs.YtmcbmojdeikcdaaGreatEv
open Go Go.RowKit
section
variable {P:Program} {V:Env} {Γ:List Ctr} {T:TypeId->TI} {R:Type}
open Classical in
theorem r9 {Q:Exit->Act->World->Prop}{a:Act}{w:World}{c:Code}(J:Nat->Act->World->Prop)(h0:∃ n,J n a w)(hz:∀ a w,¬ J 0 a w)
  (round:∀ n a w,J (n+1) a w->c.wp P (Exit.then (J n) Q) a w):(Code.loop c).wp P Q a w:=by
 have least:∀ (a:Act) (w:World) (n:Nat),J n a w->∃ m,J m a w/\m<=n/\∀ k,J k a w->m<=k:=by
  intro a w n
  induction n using Nat.strongRecOn with
  |ind n ih =>
   intro hn
   by_cases h:∃ k,k<n/\J k a w
   ·obtain⟨k,hk,hJ⟩:=h
    obtain⟨m,h1,h2,h3⟩:=ih k hk hJ
    exact⟨m,h1,by omega,h3⟩
   ·refine⟨n,hn,Nat.le_refl _,λk hk=>?_⟩
    apply Classical.byContradiction
    intro hlt
    exact h ⟨k,by omega,hk⟩
 let μ:Act->World->Nat:=λa w=>if h:∃ m,J m a w/\∀ k,J k a w->m<=k then h.choose else 0
 have hμ:∀ a w n,J n a w->J (μ a w) a w/\μ a w<=n:=by
  intro a w n hn
  obtain⟨m,h1,_,h3⟩:=least a w n hn
  have h:∃ m,J m a w/\∀ k,J k a w->m<=k:=⟨m,h1,h3⟩
  have e:μ a w=h.choose:=by simp only[μ];rw[dif_pos h]
  rw[e]
  exact⟨h.choose_spec.1,h.choose_spec.2 n hn⟩
 refine wp_loop (λa w=>∃ n,J n a w) μ h0 λa w ⟨n,hn⟩=>?_
 obtain⟨h1,_⟩:=hμ a w n hn
 cases hm:μ a w with
 |zero=>rw[hm]at h1;exact absurd h1 (hz a w)
 |succ m =>
  rw[hm]at h1
  refine wp_mono (round m a w h1) λe a' w' he=>?_
  cases e with
  |normal =>
   have h2:J m a' w':=he
   exact⟨⟨m,h2⟩,Nat.lt_succ_of_le (hμ a' w' m h2).2⟩
  |_=>exact he
theorem xi {st:St}{a:Act}{w:World}(hr:Rel P V st a w){t:Nat}(htB:t<GH){b:Bool}(h1:(st t).sh=.one)(h2:(st t).ls=[.bool b]):a.eval (.tmp t)=.bool b:=by
 obtain⟨W,hr⟩:=hr
 have hslot:=hr.slots t htB
 rw[h1]at hslot
 have hslot:W.cs t=[a.tmps.getD t undef]:=hslot
 have hv:=hr.leaf t 0 (.bool b) (a.tmps.getD t undef) (by rw[h2];rfl) (by rw[hslot];rfl)
 exact hv
theorem qF (hV:ax V)(hT:TOk P T)(hΓ:∀ c∈Γ,ag P c)(hmix:P.follows .mixedOrders=true){fx:List Nat}(hfb:∀ x∈V.fixb,x.1∈fx){nt:Nat}{fix:List Nat}(hnt:V.nt=nt)(hfix:∀ x∈V.fixt,x.1∈fix)
  {L:List (Nat×List (Nat×List Coe))} {fuel:Nat}:∀ (c:Code),dp nt fix c=true->cX L fx c=true->∀ (st:St) (κ:Ex->St->Option R) (r:R) (Q:Exit->Act->World->Prop),evK Γ T L fuel c st κ=some r ->
   (∀ ex s1,κ ex s1=some r->∀ a w,Rel P V s1 a w->Q (exOf ex) a w)->∀ a w,Rel P V st a w->c.wp P Q a w:=by
 intro c
 induction c with
 |skip=>exact λ_ _ st κ r Q h hQ a w hr=>wp_skip (hQ .normal st h a w hr)
 |region id ops draw =>
  intro hc hlp st κ r Q h hQ a w hr
  simp only[dp,List.all_eq_true]at hc
  have hmem:∀ (i:Nat) (o:Oper),ops[i]?=some o->ki nt fix ops o=true:=λi o hi=>hc o (by simpa using Array.mem_of_getElem? hi)
  refine zt hV hT hΓ hmix (λi o hi=>lj hnt hfix (hmem i o hi)) (λi o hi j want hg s hs=>?_) h (λs1 h1 a w hr=>hQ .normal s1 h1 a w hr) hr
  have:=hmem i o hi
  simp only[ki,hg,hs,Bool.and_eq_true]at this
  rw[hnt]
  simpa[Nat.blt_eq]using this.2
 |seq x y ihx ihy =>
  intro hc hlp st κ r Q h hQ a w hr
  simp only[dp,Bool.and_eq_true]at hc
  simp only[cX,Bool.and_eq_true]at hlp
  simp only[evK]at h
  refine wp_seq (ihx hc.1 hlp.1 st _ r _ h (λex s1 h1 a w hr=>?_) a w hr)
  cases ex with
  |normal=>exact ihy hc.2 hlp.2 s1 κ r Q h1 hQ a w hr
  |exit id=>exact hQ (.exit id) s1 h1 a w hr
  |ret=>exact hQ .ret s1 h1 a w hr
 |cond t x y ihx ihy =>
  intro hc hlp st κ r Q h hQ a w hr
  simp only[dp,Bool.and_eq_true]at hc
  simp only[cX,Bool.and_eq_true]at hlp
  simp only[evK]at h
  unfold xp at h
  split at h
  ·rename_i t
   split at h
   ·rename_i b h1 h2
    have hv:=xi hr (Nat.lt_of_lt_of_le (by have:=hc.1.1;simp only[uJ,Nat.blt_eq]at this;rw[hnt];exact this) hV.nt) h1 h2
    cases b with
    |true =>
     simp only[cond_true]at h
     rw[nI h1 h2]at h
     exact wp_cond_true hv (ihx hc.1.2 hlp.1 st κ r Q h hQ a w hr)
    |false =>
     simp only[cond_false]at h
     rw[nI h1 h2]at h
     exact wp_cond_false hv (ihy hc.2 hlp.2 st κ r Q h hQ a w hr)
   ·cases h
  ·rename_i b
   cases b with
   |true=>exact wp_cond_true rfl (ihx hc.1.2 hlp.1 st κ r Q h hQ a w hr)
   |false=>exact wp_cond_false rfl (ihy hc.2 hlp.2 st κ r Q h hQ a w hr)
  ·cases h
 |block id c ih =>
  intro hc hlp st κ r Q h hQ a w hr
  simp only[dp]at hc
  simp only[cX]at hlp
  simp only[evK]at h
  refine wp_block (ih hc hlp st _ r _ h (λex s1 h1 a w hr=>?_) a w hr)
  cases ex with
  |normal=>exact hQ .normal s1 h1 a w hr
  |exit id' =>
   simp only[qK]at h1
   show if id'=id then Q .normal a w else Q (.exit id') a w
   by_cases e:id'=id
   ·rw[if_pos e]
    subst e
    simp only[Nat.beq_refl,cond_true]at h1
    exact hQ .normal s1 h1 a w hr
   ·rw[if_neg e]
    have hb:Nat.beq id' id=false:=by
     cases hb:Nat.beq id' id with
     |false=>rfl
     |true=>exact absurd (Nat.eq_of_beq_eq_true hb) e
    rw[hb]at h1
    exact hQ (.exit id') s1 h1 a w hr
  |ret=>exact hQ .ret s1 h1 a w hr
 |loop c ih =>
  intro hc hlp st κ r Q h hQ a w hr
  simp only[dp]at hc
  simp only[cX,Bool.and_eq_true,List.all_eq_true]at hlp
  simp only[evK]at h
  have hnorm:∀ x∈V.fixb,x.1∈(kh L (ea c)).map (·.1):=λx hx=>by
   obtain⟨r,hr,he⟩:=List.any_eq_true.1 (hlp.1 x.1 (hfb x hx))
   exact List.mem_map.2 ⟨r,hr,Nat.eq_of_beq_eq_true he⟩
  refine r9 (λn a w=>∃ st,bQ (kh L (ea c)) (evK Γ T L fuel c) n st κ=some r/\Rel P V st a w) ⟨fuel,_,h,tz hV hr _ hnorm⟩ ?_ ?_
  ·rintro a w ⟨st,h1,_⟩
   cases h1
  ·rintro n a w ⟨st,h1,hr⟩
   simp only[bQ]at h1
   refine ih hc hlp.2 st _ r _ h1 (λex s1 h2 a w hr=>?_) a w hr
   cases ex with
   |normal=>exact⟨_,h2,tz hV hr _ hnorm⟩
   |exit id=>exact hQ (.exit id) s1 h2 a w hr
   |ret=>exact hQ .ret s1 h2 a w hr
 |exit id=>exact λ_ _ st κ r Q h hQ a w hr=>wp_exit (hQ (.exit id) st h a w hr)
 |ret=>exact λ_ _ st κ r Q h hQ a w hr=>wp_ret (hQ .ret st h a w hr)
 |_=>intro _ _ st κ r Q h;simp[evK]at h
end
end Go.Proofs.YtmcbmojdeikcdaaGreatEv
namespace Go.Proofs.YtmcbmojdeikcdaaGreatEv
open Go Go.RowKit
section
variable {P:Program} {Γ:List Ctr} {T:TypeId->TI} {R:Type} {w:World} {ro pr:Nat->Prop}
theorem gW {G:Nat->Prop}{p:Bool}:∀ {b:Ty} {h:Option Nat} {pos:Nat} {x:b.den} {cs:List Value} {bs:List Nat},Mx w G b h pos x cs bs->bs.Nodup ->
  ∃ bsd:Nat->List Nat,
   (∀ (V:Env) (W:Wit) (st:St),(∀ k,G k->gd V W p k)->∀ (j:Nat) (l:Leaf) (u:Value),h≠some (pos+j)->(aq p b x)[j]?=some l->cs[j]?=some u->aJ P V W st w (bsd j) l u) /\
   (∀ (j:Nat) (l:Leaf),h≠some (pos+j)->(aq p b x)[j]?=some l->an l->∀ k∈bsd j,k∈bs) /\
   (∀ (j j':Nat) (l l':Leaf),h≠some (pos+j)->h≠some (pos+j')->(aq p b x)[j]?=some l->an l->(aq p b x)[j']?=some l'->an l'->∀ k,k∈bsd j->k∈bsd j'->j=j')
 |.int k,_,_,x,cs,bs,H,_=>by
  obtain⟨rfl,rfl⟩:=H
  exact⟨λ_=>[],λV W st _ j l u _ h1 h2=>by cases j with|zero=>simp[aq]at h1 h2;subst h1;subst h2;rfl|succ j=>simp[aq]at h1,λj l _ h1 _ k hk=>by simp at hk,λj j' l l' _ _ _ _ _ _ k hk=>by simp at hk⟩
 |.bool,_,_,x,cs,bs,H,_=>by
  obtain⟨rfl,rfl⟩:=H
  exact⟨λ_=>[],λV W st _ j l u _ h1 h2=>by cases j with|zero=>simp[aq]at h1 h2;subst h1;subst h2;rfl|succ j=>simp[aq]at h1,λj l _ h1 _ k hk=>by simp at hk,λj j' l l' _ _ _ _ _ _ k hk=>by simp at hk⟩
 |.str,_,_,x,cs,bs,H,_=>by
  obtain⟨rfl,rfl⟩:=H
  exact⟨λ_=>[],λV W st _ j l u _ h1 h2=>by cases j with|zero=>simp[aq]at h1 h2;subst h1;subst h2;rfl|succ j=>simp[aq]at h1,λj l _ h1 _ k hk=>by simp at hk,λj j' l l' _ _ _ _ _ _ k hk=>by simp at hk⟩
 |.unit,_,_,x,cs,bs,H,_=>by
  obtain⟨rfl,rfl⟩:=H
  exact⟨λ_=>[],λV W st _ j l u _ h1 h2=>by simp[aq]at h1,λj l _ h1 _ k hk=>by simp at hk,λj j' l l' _ _ _ _ _ _ k hk=>by simp at hk⟩
 |.hdr,_,_,x,cs,bs,H,_=>by
  obtain⟨⟨A,cap,rfl⟩,rfl⟩:=H
  exact⟨λ_=>[],λV W st _ j l u _ h1 h2=>by cases j with|zero=>simp[aq]at h1 h2;subst h1;subst h2;exact⟨A,cap,rfl⟩|succ j=>simp[aq]at h1,λj l _ h1 _ k hk=>by simp at hk,λj j' l l' _ _ _ _ _ _ k hk=>by simp at hk⟩
 |.pair b c,h,pos,x,cs,bs,⟨c1,c2,b1,b2,e1,e2,h1,h2⟩,hnd=>by
  subst e1;subst e2
  rw[List.nodup_append]at hnd
  obtain⟨d1,f2,f3,f4⟩:=gW h1 hnd.1
  obtain⟨d2,g2,g3,g4⟩:=gW h2 hnd.2.1
  have hl1:=cn p b x.1
  have hc1:=h1.len
  have hsplit:∀ (j:Nat) (l:Leaf),(aq p b x.1++aq p c x.2)[j]?=some l->(j<b.cells/\(aq p b x.1)[j]?=some l)\/(b.cells<=j/\(aq p c x.2)[j-b.cells]?=some l):=by
   intro j l hj
   by_cases hlt:j<b.cells
   ·rw[List.getElem?_append_left (by omega)]at hj;exact .inl ⟨hlt,hj⟩
   ·rw[List.getElem?_append_right (by omega),hl1]at hj;exact .inr ⟨by omega,hj⟩
  have hsh:∀ j,b.cells<=j->h≠some (pos+j)->h≠some (pos+b.cells+(j-b.cells)):=λj hj hh=>by rwa [show pos+b.cells+(j-b.cells)=pos+j by omega]
  refine⟨λj=>if j<b.cells then d1 j else d2 (j-b.cells),λV W st hG j l u hh hj hu=>?_,λj l hh hj ho k hk=>?_,λj j' l l' hh hh' hj ho hj' ho' k hk hk'=>?_⟩
  ·rcases hsplit j l hj with ⟨hlt,hj⟩|⟨hge,hj⟩
   ·rw[List.getElem?_append_left (by omega)]at hu
    simp only[if_pos hlt]
    exact f2 V W st hG j l u hh hj hu
   ·rw[List.getElem?_append_right (by omega),hc1]at hu
    simp only[if_neg (show ¬ j<b.cells by omega)]
    exact g2 V W st hG _ l u (hsh j hge hh) hj hu
  ·rcases hsplit j l hj with ⟨hlt,hj⟩|⟨hge,hj⟩
   ·simp only[if_pos hlt]at hk
    exact List.mem_append_left _ (f3 j l hh hj ho k hk)
   ·simp only[if_neg (show ¬ j<b.cells by omega)]at hk
    exact List.mem_append_right _ (g3 _ l (hsh j hge hh) hj ho k hk)
  ·rcases hsplit j l hj with ⟨hlt,hj⟩|⟨hge,hj⟩ <;> rcases hsplit j' l' hj' with ⟨hlt',hj'⟩|⟨hge',hj'⟩
   ·simp only[if_pos hlt]at hk;simp only[if_pos hlt']at hk'
    exact f4 j j' l l' hh hh' hj ho hj' ho' k hk hk'
   ·simp only[if_pos hlt]at hk;simp only[if_neg (show ¬ j'<b.cells by omega)]at hk'
    exact absurd rfl (hnd.2.2 k (f3 j l hh hj ho k hk) k (g3 _ l' (hsh j' hge' hh') hj' ho' k hk'))
   ·simp only[if_neg (show ¬ j<b.cells by omega)]at hk;simp only[if_pos hlt']at hk'
    exact absurd rfl (hnd.2.2 k (f3 j' l' hh' hj' ho' k hk') k (g3 _ l (hsh j hge hh) hj ho k hk))
   ·simp only[if_neg (show ¬ j<b.cells by omega)]at hk;simp only[if_neg (show ¬ j'<b.cells by omega)]at hk'
    have:=g4 _ _ l l' (hsh j hge hh) (hsh j' hge' hh') hj ho hj' ho' k hk hk'
    omega
 |.list m E e,h,pos,xs,cs,bs,H,hnd=>by
  cases m with
  |false =>
   rw[cA]at H
   obtain⟨rfl,A,cap,rfl,h2,h3⟩:=H
   refine⟨λ_=>[],λV W st hG j l u _ h1 h4=>?_,λj l _ h1 _ k hk=>by simp at hk,λj j' l l' _ _ _ _ _ _ k hk=>by simp at hk⟩
   cases j with
   |zero =>
    simp[aq]at h1 h4
    subst h1;subst h4
    exact Rd.mono hG (⟨A,cap,rfl,h2,h3⟩:Rd w G (.list false E e) xs _)
   |succ j=>simp[aq]at h1
  |true =>
   refine⟨λ_=>bs,λV W st hG j l u hh h1 h4=>?_,λj l _ h1 _ k hk=>hk,λj j' l l' _ _ h1 _ h3 _ k _ _=>?_⟩
   ·cases j with
    |zero =>
     rw[Nat.add_zero]at hh
     rw[ch hh]at H
     obtain⟨v,rfl,hO⟩:=H
     simp[aq]at h1 h4
     subst h1;subst h4
     exact⟨hnd,OwB.shy (hO.carry hG (λ_ _=>rfl) (λ_ _=>rfl))⟩
    |succ j=>simp[aq]at h1
   ·have h7:j<1:=by simpa[aq]using (List.getElem?_eq_some_iff.1 h1).1
    have h8:j'<1:=by simpa[aq]using (List.getElem?_eq_some_iff.1 h3).1
    omega
theorem lk {p:Bool}{off:Nat}:∀ {a:Ty} {pos:Nat} {x:a.den} {E:TypeId} {e:Ty} {xs:List e.den},a8 off a pos x=some ⟨E,e,xs⟩->(aq p a x)[off-pos]?=some (.own (p&&e.shy) none E e xs)
 |.pair a b,pos,x,E,e,xs,h=>by
  have hl:=cn p a x.1
  simp only[a8]at h
  simp only[aq]
  split at h
  ·rename_i u hu
   simp only[Option.some.injEq]at h
   subst h
   have hin:=fA hu
   rw[List.getElem?_append_left (by omega)]
   exact lk hu
  ·have hin:=fA h
   rw[List.getElem?_append_right (by omega),hl,show off-pos-a.cells=off-(pos+a.cells) by omega]
   exact lk h
 |.list m E' e',pos,ys,E,e,xs,h=>by
  simp only[a8]at h
  cases hb:m&&Nat.beq pos off with
  |false=>simp[hb]at h
  |true =>
   rw[hb]at h
   simp only[cond_true,Option.some.injEq,Sigma.mk.injEq]at h
   obtain⟨rfl,h⟩:=h
   simp only[Bool.and_eq_true]at hb
   obtain⟨rfl,hb⟩:=hb
   have hb:=Nat.eq_of_beq_eq_true hb
   subst hb
   rw[heq_eq_eq,Sigma.mk.injEq]at h
   obtain⟨rfl,h⟩:=h
   rw[heq_eq_eq]at h
   subst h
   simp[aq]
 |.int _,_,_,_,_,_,h=>by simp[a8]at h
 |.bool,_,_,_,_,_,h=>by simp[a8]at h
 |.str,_,_,_,_,_,h=>by simp[a8]at h
 |.unit,_,_,_,_,_,h=>by simp[a8]at h
 |.hdr,_,_,_,_,_,h=>by simp[a8]at h
theorem sa (V:Env)(W:Wit)(hro:V.ro0=ro)(hpr:V.prot=pr):∀ {cs:List (Bool×Ty)} {x:kC cs} {us:List Value},iD w ro pr cs x us->us.length=(iP true cs x).length /\
  ∀ (i:Nat) (c:Bool×Bool×(a:Ty)×a.den) (u:Value),(iP true cs x)[i]?=some c->us[i]?=some u->gP V W w c u
 |[],_,us,h=>by
  have h:us=[]:=h
  subst h
  exact⟨rfl,λi c u h1 _=>by simp[iP]at h1⟩
 |c::cs,x,us,⟨u,us',e,h1,h2⟩=>by
  subst e
  obtain⟨i1,i2⟩:=sa V W hro hpr h2
  refine⟨by simp[iP,i1],λi c' u' h3 h4=>?_⟩
  cases i with
  |succ i=>exact i2 i c' u' (by simpa[iP]using h3) (by simpa using h4)
  |zero =>
   simp[iP]at h3 h4
   subst h3;subst h4
   have hG:∀ k,ro k->gd V W true k:=λk hk=>.inr ⟨rfl,by rw[hro];exact hk⟩
   unfold gP
   unfold fQ at h1
   split at h1
   ·rename_i hb
    simp only[hb,if_true]
    obtain⟨b,ob,g,o,c2,hv,hb1,hcell,hg,hr,hc⟩:=h1
    exact⟨b,ob,g,o,c2,hv,.inr (by rw[hpr];exact hb1),hcell,.inr (by rw[hpr];exact hg),hr.mono hG,hc⟩
   ·rename_i hb
    have hb:c.1=false:=by simpa using hb
    simp only[hb,Bool.false_eq_true,if_false]
    obtain⟨g,o,c2,hv,hg,hr,hc⟩:=h1
    exact⟨g,o,c2,by rw[hv];rfl,.inr (by rw[hpr];exact hg),hr.mono hG,hc⟩
structure Ent where
 r:Nat
 c:bM
 cs:List Value
 bs:Nat->List Nat
 bl:List Nat
 g:Nat
structure oS (P:Program) (w:World) (ro pr:Nat->Prop) (bx:List (Nat×Nat)) (e:Ent):Prop where
 len:e.c.ls.length=e.cs.length
 one:∀ u∈e.cs,u.oneCell'=true
 leaf:∀ (V:Env) (W:Wit) (st:St),V.w0=w->V.ro0=ro->V.prot=pr->(∀ z∈bx,B0<=z.1/\(st z.1).sh=.agg/\W.β z.1=z.2)->∀ (j:Nat) (l:Leaf) (u:Value),e.c.ls[j]?=some l->e.cs[j]?=some u->aJ P V W st w (e.bs j) l u
 own:∀ (j:Nat) (l:Leaf),e.c.ls[j]?=some l->an l->∀ k∈e.bs j,k∈e.bl
 sep:∀ (j j':Nat) (l l':Leaf),e.c.ls[j]?=some l->an l->e.c.ls[j']?=some l'->an l'->∀ k,k∈e.bs j->k∈e.bs j'->j=j'
 box:B0<=e.r->e.c.sh=.agg/\e.g∈e.bl/\(∀ (j:Nat) (l:Leaf),e.c.ls[j]?=some l->an l->e.g∉e.bs j)/\(∃ E,w.heap[e.g]?=some (.cells e.cs.toArray E (0,0)))/\(e.r,e.g)∈bx
theorem oS.mono {bx bx':List (Nat×Nat)}{e:Ent}(h:oS P w ro pr bx e)(hb:∀ z∈bx,z∈bx'):oS P w ro pr bx' e :=
  { len:=h.len,one:=h.one,own:=h.own,sep:=h.sep
    leaf:=λV W st h1 h2 h3 h4=>h.leaf V W st h1 h2 h3 (λz hz=>h4 z (hb z hz))
    box:=λhr=>by obtain⟨q1,q2,q3,q4,q5⟩:=h.box hr;exact⟨q1,q2,q3,q4,hb _ q5⟩ }
structure uH (P:Program) (w:World) (ro pr:Nat->Prop) (t:Nat) (pk:PK) (v:Value) (b:List Nat) (bx:List (Nat×Nat)) (es:List Ent):Prop where
 bl:es.flatMap (·.bl)=b
 ok:∀ e∈es,oS P w ro pr bx e
 at_:∀ e∈es,e.r=t\/e.r=B0+t
 nod:(es.map (·.r)).Nodup
 slot:∃ e∈es,e.r=t/\dI e.c.sh v e.cs
 bxs:∀ z∈bx,z.1=B0+t/\(∃ e∈es,e.r=B0+t/\e.g=z.2)
theorem sb (t n:Nat){a:Ty}{x:a.den}{v:Value}{cs:List Value}{b:List Nat}(hnd:b.Nodup)(h1:cV a.isAgg v cs)(h2:Mx w ro a none 0 x cs b)(htB:t<B0) :
    ∃ es,uH P w ro pr t (.own a) v b [] es/\[((t,⟨n,be a.isAgg,aq true a x⟩):Nat×bM)]=es.map (λe=>(e.r,e.c)):=by
  obtain⟨bsd,m1,m2,m3⟩:=gW (P:=P) (p:=true) h2 hnd
  have hn:∀ j,(none:Option Nat)≠some (0+j):=λj=>by simp
  refine⟨[⟨t,⟨n,be a.isAgg,aq true a x⟩,cs,bsd,b,0⟩],⟨by simp,?_,by simp,by simp,⟨_,List.mem_singleton_self _,rfl,i9 h1⟩,by simp⟩,rfl⟩
  intro e he
  simp only[List.mem_singleton]at he
  subst he
  exact { len := by show (aq true a x).length = _; rw [cn, h2.len]
          one:=h2.one
          leaf:=λV W st _ hro _ _ j l u h3 h4=>m1 V W st (λk hk=>.inr ⟨rfl,by rw[hro];exact hk⟩) j l u (hn j) h3 h4
          own:=λj l h3 h4=>m2 j l (hn j) h3 h4
          sep:=λj j' l l' h3 h4 h5 h6=>m3 j j' l l' (hn j) (hn j') h3 h4 h5 h6
          box:=λhr=>absurd hr (by show ¬ B0<=t;omega) }
theorem mE (t:Nat){l:Leaf}{v:Value}{pk:PK}(htB:t<B0)(hno:¬ an l)(h1:v.oneCell'=true)(hleaf:∀ (V:Env) (W:Wit) (st:St),V.w0=w->V.ro0=ro->V.prot=pr->aJ P V W st w [] l v) :
    ∃ es,uH P w ro pr t pk v [] [] es/\[((t,⟨0,.one,[l]⟩):Nat×bM)]=es.map (λe=>(e.r,e.c)):=by
  refine⟨[⟨t,⟨0,.one,[l]⟩,[v],λ_=>[],[],0⟩],⟨by simp,?_,by simp,by simp,⟨_,List.mem_singleton_self _,rfl,rfl⟩,by simp⟩,rfl⟩
  intro e he
  simp only[List.mem_singleton]at he
  subst he
  have h0:∀ (j:Nat) (l':Leaf),[l][j]?=some l'->j=0/\l'=l:=λj l' hj=>by
    cases j with
    |zero=>simp at hj;exact⟨rfl,hj.symm⟩
    |succ j=>simp at hj
  exact { len := rfl
          one:=λu hu=>by simp at hu;subst hu;exact h1
          leaf:=λV W st hw hro hpr _ j l' u h3 h4=>by
            obtain⟨rfl,rfl⟩:=h0 j l' h3
            simp at h4
            subst h4
            exact hleaf V W st hw hro hpr
          own:=λj l' h3 h4=>by obtain⟨_,rfl⟩:=h0 j l' h3;exact absurd h4 hno
          sep:=λj j' l1 l2 h3 h4=>by obtain⟨_,rfl⟩:=h0 j l1 h3;exact absurd h4 hno
          box:=λhr=>absurd hr (by show ¬ B0<=t;omega) }
def sd:Value->Nat
 |.pointer (some a)=>a.block
 |_=>0
def dE (t:Nat):List PK->List Value->List (Nat×Nat)
 |.iop _::ps,v::vs=>(B0+t,sd v)::dE (t+1) ps vs
 |_::ps,_::vs=>dE (t+1) ps vs
 |_,_=>[]
def dF (t:Nat):List PK->List Value->List (Nat×Value)
 |.io _::ps,v::vs=>(t,v)::dF (t+1) ps vs
 |.iop _::ps,v::vs=>(t,v)::dF (t+1) ps vs
 |_::ps,_::vs=>dF (t+1) ps vs
 |_,_=>[]
def PK.bx (t:Nat)(v:Value):PK->List (Nat×Nat)
 |.iop _=>[(B0+t,sd v)]
 |_=>[]
theorem zu (t:Nat)(htB:t<B0){pk:PK}{ps:List PK}{x:ab (pk::ps)}{v:Value}{b:List Nat}(hnd:b.Nodup)(h:mA P w ro pr pk x.1 v b) :
    ∃ es,uH P w ro pr t pk v b (pk.bx t v) es/\dc t (pk::ps) x=es.map (λe=>(e.r,e.c))++dc (t+1) ps x.2:=by
  cases pk with
  |rd a =>
    obtain⟨rfl,cs,h1,h2⟩:=h
    refine⟨[⟨t,⟨0,be a.isAgg,co true a x.1⟩,cs,λ_=>[],[],0⟩],⟨by simp,?_,by simp,by simp,⟨_,List.mem_singleton_self _,rfl,i9 h1⟩,by simp[PK.bx]⟩,rfl⟩
    intro e he
    simp only[List.mem_singleton]at he
    subst he
    have hls:∀ (V:Env) (W:Wit) (st:St),V.ro0=ro->aC P V W st w (co true a x.1) cs:=λV W st hro=>eq (G:=ro) (λk hk=>.inr ⟨rfl,by rw[hro];exact hk⟩) h2
    have hno:∀ (j:Nat) (l:Leaf),(co true a x.1)[j]?=some l->¬ an l:=λj l hj=>by
      have hl:=fO true a x.1
      have hc:=h2.len
      have hlt:=(List.getElem?_eq_some_iff.1 hj).1
      exact ((hls ⟨w,ro,[],0,[],[]⟩ ⟨λ_=>0,λ_=>[],λ_ _=>[],λ_=>False⟩ (λ_=>bM.none) rfl).at_ j l _ hj (List.getElem?_eq_getElem (by omega))).2.1
    exact { len := by show (co true a x.1).length = _; rw [fO, h2.len]
            one:=h2.one
            leaf:=λV W st _ hro _ _ j l u h3 h4=>((hls V W st hro).at_ j l u h3 h4).1
            own:=λj l h3 h4=>absurd h4 (hno j l h3)
            sep:=λj j' l l' h3 h4=>absurd h4 (hno j l h3)
            box:=λhr=>absurd hr (by show ¬ B0<=t;omega) }
  |own a =>
    obtain⟨cs,h1,h2⟩:=h
    obtain⟨es,h3,h4⟩:=sb (P:=P) (pr:=pr) t 0 hnd h1 h2 htB
    exact⟨es,⟨h3.bl,h3.ok,h3.at_,h3.nod,h3.slot,h3.bxs⟩,by rw[<- h4];rfl⟩
  |io a =>
    obtain⟨cs,h1,h2⟩:=h
    obtain⟨es,h3,h4⟩:=sb (P:=P) (pr:=pr) t 7 hnd h1 h2 htB
    exact⟨es,⟨h3.bl,h3.ok,h3.at_,h3.nod,h3.slot,h3.bxs⟩,by rw[<- h4];rfl⟩
  |rref a =>
    obtain⟨rfl,h⟩:=h
    unfold fQ at h
    rw[if_neg (by simp)]at h
    obtain⟨g,o,c,hv,hg,hr,hc⟩:=h
    subst hv
    obtain⟨es,h3,h4⟩:=mE (P:=P) (w:=w) (ro:=ro) (pr:=pr) t (pk:=.rref a) (l:=.rp true a x.1 0) (v:=.pointer (some ⟨g,o,none⟩)) htB id rfl (λV W st hw hro hpr=>⟨g,o,c,rfl,.inr (by rw[hpr];exact hg),hr.mono (λk hk=>.inr ⟨rfl,by rw[hro];exact hk⟩),hc⟩)
    exact⟨es,h3,by rw[<- h4];rfl⟩
  |rref2 a =>
    obtain⟨rfl,h⟩:=h
    unfold fQ at h
    rw[if_pos rfl]at h
    obtain⟨b,ob,g,o,c,hv,hb,hcell,hg,hr,hc⟩:=h
    subst hv
    obtain⟨es,h3,h4⟩:=mE (P:=P) (w:=w) (ro:=ro) (pr:=pr) t (pk:=.rref2 a) (l:=.rpp true a x.1) (v:=.pointer (some ⟨b,ob,none⟩)) htB id rfl (λV W st hw hro hpr=>⟨b,ob,g,o,c,rfl,.inr (by rw[hpr];exact hb),hcell,.inr (by rw[hpr];exact hg),hr.mono (λk hk=>.inr ⟨rfl,by rw[hro];exact hk⟩),hc⟩)
    exact⟨es,h3,by rw[<- h4];rfl⟩
  |fn As B =>
    obtain⟨rfl,h⟩:=h
    have hv1:v.oneCell'=true:=by
      obtain⟨f,caps,e,_⟩:=h
      rw[e];rfl
    obtain⟨es,h3,h4⟩:=mE (P:=P) (w:=w) (ro:=ro) (pr:=pr) t (pk:=.fn As B) (l:=.fn As B x.1) (v:=v) htB id hv1 (λV W st hw hro hpr=>by
      show hZ P V.w0 V.prot As B x.1 v
      rw[hw,hpr]
      exact h)
    exact⟨es,h3,by rw[<- h4];rfl⟩
  |clo f cs =>
    obtain⟨rfl,us,e,h⟩:=h
    subst e
    obtain⟨es,h3,h4⟩:=mE (P:=P) (w:=w) (ro:=ro) (pr:=pr) t (pk:=.clo f cs) (l:=.clr f (iP true cs x.1)) (v:=.func (.func f) #[] us.toArray) htB id rfl (λV W st hw hro hpr=>by
      obtain⟨i1,i2⟩:=sa V W hro hpr h
      exact⟨us,rfl,i1,i2⟩)
    exact⟨es,h3,by rw[<- h4];rfl⟩
  |iop a =>
    obtain⟨g,c,E,b0,hv,hg,hm,rfl⟩:=h
    subst hv
    rw[List.nodup_cons]at hnd
    obtain⟨bsd,m1,m2,m3⟩:=gW (P:=P) (p:=true) hm hnd.2
    have hn:∀ j,(none:Option Nat)≠some (0+j):=λj=>by simp
    have hne:t≠B0+t:=by simp[B0]
    refine⟨[⟨t,⟨0,.one,[.bp (B0+t) 0]⟩,[.pointer (some ⟨g,0,none⟩)],λ_=>[],[],0⟩,⟨B0+t,⟨0,.agg,aq true a x.1⟩,c,bsd,g::b0,g⟩],
      ⟨by simp,?_,λe he=>by simp at he;rcases he with rfl|rfl <;> simp,by rw[List.map_cons,List.map_cons,List.map_nil,List.nodup_cons];exact⟨by simpa using hne,by simp⟩,⟨_,List.mem_cons_self ..,rfl,rfl⟩,λz hz=>?_⟩,rfl⟩
    · intro e he
      simp only[List.mem_cons,List.not_mem_nil,or_false]at he
      rcases he with rfl|rfl
      · have h0:∀ (j:Nat) (l':Leaf),[Leaf.bp (B0+t) 0][j]?=some l'->j=0/\l'=.bp (B0+t) 0:=λj l' hj=>by
          cases j with
          |zero=>simp at hj;exact⟨rfl,hj.symm⟩
          |succ j=>simp at hj
        exact { len := rfl
                one:=λu hu=>by simp at hu;subst hu;rfl
                leaf:=λV W st hw hro hpr hb j l' u h3 h4=>by
                  obtain⟨rfl,rfl⟩:=h0 j l' h3
                  simp at h4
                  subst h4
                  obtain⟨q1,q2,q3⟩:=hb (B0+t,g) (List.mem_singleton_self _)
                  exact⟨q1,q2,by rw[q3]⟩
                own:=λj l' h3 h4=>by obtain⟨_,rfl⟩:=h0 j l' h3;exact h4.elim
                sep:=λj j' l1 l2 h3 h4=>by obtain⟨_,rfl⟩:=h0 j l1 h3;exact h4.elim
                box:=λhr=>absurd hr (by show ¬ B0<=t;omega) }
      · exact { len := by show (aq true a x.1).length = _; rw [cn, hm.len]
                one:=hm.one
                leaf:=λV W st _ hro _ _ j l u h3 h4=>m1 V W st (λk hk=>.inr ⟨rfl,by rw[hro];exact hk⟩) j l u (hn j) h3 h4
                own:=λj l h3 h4 k hk=>List.mem_cons_of_mem _ (m2 j l (hn j) h3 h4 k hk)
                sep:=λj j' l l' h3 h4 h5 h6=>m3 j j' l l' (hn j) (hn j') h3 h4 h5 h6
                box:=λ_=>⟨rfl,List.mem_cons_self ..,λj l h3 h4 hk=>hnd.1 (m2 j l (hn j) h3 h4 g hk),⟨E,hg⟩,List.mem_singleton_self _⟩ }
    · simp only[PK.bx,List.mem_singleton]at hz
      subst hz
      exact⟨rfl,_,List.mem_cons_of_mem _ (List.mem_singleton_self _),rfl,rfl⟩
  |hol a c off =>
    obtain⟨cs,u,b0,b1,E,e,xs,h1,h2,h3,h4,h5,h6⟩:=h
    have hnd':=bz.1 hnd
    have hnd0:b0.Nodup:=bz.2 λk=>by have:=hnd' k;have:=h6 k;omega
    have hnd1:b1.Nodup:=bz.2 λk=>by have:=hnd' k;have:=h6 k;omega
    have hdis:∀ k,k∈b0->k∉b1:=λk hk hk'=>by
      have:=hnd' k;have:=h6 k;have:=List.count_pos_iff.2 hk;have:=List.count_pos_iff.2 hk';omega
    have hin0:∀ k∈b0,k∈b:=λk hk=>List.count_pos_iff.1 (by have:=h6 k;have:=List.count_pos_iff.2 hk;omega)
    have hin1:∀ k∈b1,k∈b:=λk hk=>List.count_pos_iff.1 (by have:=h6 k;have:=List.count_pos_iff.2 hk;omega)
    obtain⟨bsd,m1,m2,m3⟩:=gW (P:=P) (p:=true) h2 hnd0
    have hne:∀ j,j≠c->(some c:Option Nat)≠some (0+j):=λj hj=>by simp;omega
    have hlf:=lk (p:=true) h4
    rw[Nat.sub_zero]at hlf
    have hgd:(aq true a x.1.1).getD c .dead=.own (true&&e.shy) none E e xs:=by rw[List.getD_eq_getElem?_getD,hlf];rfl
    refine⟨[⟨t,⟨0,be a.isAgg,aQ (aq true a x.1.1) c (.own (true&&e.shy) (some (x.1.2,off)) E e xs)⟩,cs,λj=>if j=c then b1 else bsd j,b,0⟩],
      ⟨by simp,?_,by simp,by simp,⟨_,List.mem_singleton_self _,rfl,i9 h1⟩,by simp[PK.bx]⟩,?_⟩
    · intro en he
      simp only[List.mem_singleton]at he
      subst he
      have hcase:∀ (j:Nat) (l:Leaf),(aQ (aq true a x.1.1) c (.own (true&&e.shy) (some (x.1.2,off)) E e xs))[j]?=some l->(j=c/\l=.own (true&&e.shy) (some (x.1.2,off)) E e xs)\/(j≠c/\(aq true a x.1.1)[j]?=some l):=by
        intro j l hj
        rcases aP _ _ _ _ _ hj with ⟨q1,q2,_⟩|⟨q1,q2⟩
        · exact .inl ⟨q1,q2⟩
        · exact .inr ⟨q1,q2⟩
      exact { len := by show (aQ (aq true a x.1.1) c _).length = _; simp only [aQ, List.length_set]; rw [cn, h2.len]
              one:=h2.one
              leaf:=λV W st _ hro _ _ j l u' h7 h8=>by
                have h8:cs[j]?=some u':=h8
                rcases hcase j l h7 with ⟨rfl,rfl⟩|⟨hj,h7⟩
                · rw[h3]at h8
                  simp only[Option.some.injEq]at h8
                  subst h8
                  simp only[if_true]
                  exact⟨hnd1,OwB.shy (p:=true) (h5.carry (λk hk=>.inr ⟨rfl,by rw[hro];exact hk⟩) (λ_ _=>rfl) (λ_ _=>rfl))⟩
                · simp only[if_neg hj]
                  exact m1 V W st (λk hk=>.inr ⟨rfl,by rw[hro];exact hk⟩) j l u' (hne j hj) h7 h8
              own:=λj l h7 h8 k hk=>by
                rcases hcase j l h7 with ⟨rfl,rfl⟩|⟨hj,h7⟩
                · simp only[if_true]at hk;exact hin1 k hk
                · simp only[if_neg hj]at hk;exact hin0 k (m2 j l (hne j hj) h7 h8 k hk)
              sep:=λj j' l l' h7 h8 h9 h10 k hk hk'=>by
                rcases hcase j l h7 with ⟨rfl,rfl⟩|⟨hj,h7⟩ <;> rcases hcase j' l' h9 with ⟨rfl,rfl⟩|⟨hj',h9⟩
                · rfl
                · simp only[if_true]at hk;simp only[if_neg hj']at hk'
                  exact absurd hk (hdis k (m2 j' l' (hne j' hj') h9 h10 k hk'))
                · simp only[if_neg hj]at hk;simp only[if_true]at hk'
                  exact absurd hk' (hdis k (m2 j l (hne j hj) h7 h8 k hk))
                · simp only[if_neg hj]at hk;simp only[if_neg hj']at hk'
                  exact m3 j j' l l' (hne j hj) (hne j' hj') h7 h8 h9 h10 k hk hk'
              box:=λhr=>absurd hr (by show ¬ B0<=t;omega) }
    · show (t,(⟨0,be a.isAgg,aQ (aq true a x.1.1) c (sM x.1.2 off ((aq true a x.1.1).getD c .dead))⟩:bM))::dc (t+1) ps x.2=_
      rw[hgd]
      rfl
theorem se:∀ {ps:List PK} {x:ab ps} {vs:List Value} {bss:List (List Nat)},cW P w ro pr ps x vs bss->vs.length=ps.length
 |[],_,_,_,h=>by rw[h.1];rfl
 |_::_,_,_,_,⟨_,_,_,_,e,_,_,h⟩=>by rw[e,List.length_cons,List.length_cons,se h]
theorem tA:∀ (ps:List PK) (x:ab ps) (vs:List Value) (bss:List (List Nat)) (t:Nat),cW P w ro pr ps x vs bss->bss.flatten.Nodup->t+ps.length<=B0 ->
  ∃ es:List Ent,dc t ps x=es.map (λe=>(e.r,e.c))/\es.flatMap (·.bl)=bss.flatten/\(∀ e∈es,oS P w ro pr (dE t ps vs) e) /\
   (∀ e∈es,(t<=e.r/\e.r<t+ps.length)\/(B0+t<=e.r/\e.r<B0+t+ps.length))/\(es.map (·.r)).Nodup /\
   (∀ (i:Nat) (v:Value),vs[i]?=some v->∃ e∈es,e.r=t+i/\dI e.c.sh v e.cs)/\(∀ z∈dE t ps vs,∃ e∈es,e.r=z.1/\e.g=z.2/\B0<=z.1)
 |[],x,vs,bss,t,⟨e1,e2⟩,_,_=>by
  subst e1;subst e2
  exact⟨[],rfl,rfl,by simp,by simp,by simp,λi v h=>by simp at h,by simp[dE]⟩
 |pk::ps,x,vs,bss,t,⟨v,vs',b,bss',e1,e2,h1,h2⟩,hnd,hB=>by
  subst e1;subst e2
  rw[List.flatten_cons,List.nodup_append]at hnd
  simp only[List.length_cons]at hB
  obtain⟨es1,p1,p2⟩:=zu t (by omega) (ps:=ps) (x:=x) hnd.1 h1
  obtain⟨es2,q1,q2,q3,q4,q5,q6,q7⟩:=tA ps x.2 vs' bss' (t+1) h2 hnd.2.1 (by omega)
  have hfb:dE t (pk::ps) (v::vs')=pk.bx t v++dE (t+1) ps vs':=by cases pk <;> rfl
  refine⟨es1++es2,by rw[p2,q1,List.map_append],by rw[List.flatMap_append,p1.bl,q2,List.flatten_cons],λe he=>?_,λe he=>?_,?_,λi u hi=>?_,λz hz=>?_⟩
  ·rw[hfb]
   rcases List.mem_append.1 he with he|he
   ·exact (p1.ok e he).mono (λz hz=>List.mem_append_left _ hz)
   ·exact (q3 e he).mono (λz hz=>List.mem_append_right _ hz)
  ·simp only[List.length_cons]
   rcases List.mem_append.1 he with he|he
   ·rcases p1.at_ e he with h|h <;> omega
   ·rcases q4 e he with h|h <;> omega
  ·rw[List.map_append,List.nodup_append]
   refine⟨p1.nod,q5,λa ha b' hb' e0=>?_⟩
   subst e0
   obtain⟨e,he,rfl⟩:=List.mem_map.1 ha
   obtain⟨e',he',e1⟩:=List.mem_map.1 hb'
   rcases p1.at_ e he with h|h <;> rcases q4 e' he' with h'|h' <;> omega
  ·cases i with
   |zero =>
    simp at hi
    subst hi
    obtain⟨e,he,h3,h4⟩:=p1.slot
    exact⟨e,List.mem_append_left _ he,by omega,h4⟩
   |succ i =>
    obtain⟨e,he,h3,h4⟩:=q6 i u (by simpa using hi)
    exact⟨e,List.mem_append_right _ he,by omega,h4⟩
  ·rw[hfb]at hz
   rcases List.mem_append.1 hz with hz|hz
   ·obtain⟨h3,e,he,h4,h5⟩:=p1.bxs z hz
    exact⟨e,List.mem_append_left _ he,by rw[h4,h3],h5,by rw[h3];exact Nat.le_add_right _ _⟩
   ·obtain⟨e,he,h4,h5,h6⟩:=q7 z hz
    exact⟨e,List.mem_append_right _ he,h4,h5,h6⟩
def fi (w:World)(ro:Nat->Prop)(ps:List PK)(vs:List Value)(bss:List (List Nat))(nt:Nat):Env:=⟨w,ro,bss.flatten,nt,dE 0 ps vs,dF 0 ps vs⟩
theorem mF:∀ {es:List Ent},(es.flatMap (·.bl)).Nodup->∀ e∈es,∀ e'∈es,∀ k,k∈e.bl->k∈e'.bl->e=e'
 |[],_,e,he,_,_,_,_,_=>by simp at he
 |x::es,hnd,e,he,e',he',k,hk,hk'=>by
  rw[List.flatMap_cons,List.nodup_append]at hnd
  rcases List.mem_cons.1 he with h1|h1 <;> rcases List.mem_cons.1 he' with h2|h2
  ·rw[h1,h2]
  ·rw[h1]at hk
   exact absurd rfl (hnd.2.2 k hk k (List.mem_flatMap.2 ⟨e',h2,hk'⟩))
  ·rw[h2]at hk'
   exact absurd rfl (hnd.2.2 k hk' k (List.mem_flatMap.2 ⟨e,h1,hk⟩))
  ·exact mF hnd.2.1 e h1 e' h2 k hk hk'
theorem vW:∀ {es:List Ent},(es.map (·.r)).Nodup->∀ e∈es,∀ e'∈es,e.r=e'.r->e=e'
 |[],_,e,he,_,_,_=>by simp at he
 |x::es,hnd,e,he,e',he',hr=>by
  rw[List.map_cons,List.nodup_cons]at hnd
  rcases List.mem_cons.1 he with h1|h1 <;> rcases List.mem_cons.1 he' with h2|h2
  ·rw[h1,h2]
  ·exact absurd (List.mem_map.2 ⟨e',h2,by rw[<- hr,h1]⟩) hnd.1
  ·exact absurd (List.mem_map.2 ⟨e,h1,by rw[hr,h2]⟩) hnd.1
  ·exact vW hnd.2 e h1 e' h2 hr
theorem qg:∀ (es:List Ent) (q:Nat),(aA (es.map λe=>(e.r,e.c)) q=bM.none/\es.find? (λe=>e.r==q)=none)\/∃ e∈es,e.r=q/\es.find? (λe=>e.r==q)=some e/\aA (es.map λe=>(e.r,e.c)) q=e.c
 |[],q=>.inl ⟨rfl,rfl⟩
 |e::es,q=>by
  by_cases h:e.r=q
  ·refine .inr ⟨e,List.mem_cons_self ..,h,by simp[h],?_⟩
   simp[aA,ac,h]
  ·have hb:Nat.beq q e.r=false:=by
    cases hb:Nat.beq q e.r with
    |false=>rfl
    |true=>exact absurd (Nat.eq_of_beq_eq_true hb).symm h
   have e1:aA ((e::es).map λe=>(e.r,e.c)) q=aA (es.map λe=>(e.r,e.c)) q:=by simp[aA,ac,hb]
   have e2:(e::es).find? (λe=>e.r==q)=es.find? (λe=>e.r==q):=by simp[h]
   rw[e1,e2]
   rcases qg es q with h1|⟨e',h1,h2,h3,h4⟩
   ·exact .inl h1
   ·exact .inr ⟨e',List.mem_cons_of_mem _ h1,h2,h3,h4⟩
theorem tB:∀ {ps:List PK} {vs:List Value} {t:Nat} {z:Nat×Value},z∈dF t ps vs->∃ i,z.1=t+i/\vs[i]?=some z.2
 |[],_,_,_,h=>by simp[dF]at h
 |pk::ps,[],_,_,h=>by cases pk <;> simp[dF]at h
 |pk::ps,v::vs,t,z,h=>by
  have:z=(t,v)\/z∈dF (t+1) ps vs:=by cases pk <;> simp[dF]at h <;> first|exact h|exact .inr h
  rcases this with rfl|h
  ·exact⟨0,rfl,rfl⟩
  ·obtain⟨i,h1,h2⟩:=tB h
   exact⟨i+1,by omega,by simpa using h2⟩
theorem tC {ps:List PK}{x:ab ps}{vs:List Value}{bss:List (List Nat)}{nt:Nat}(h:cW P w ro (λk=>k<w.heap.size/\k∉bss.flatten) ps x vs bss)(hnd:bss.flatten.Nodup)
  (hnt:ps.length<=nt) (hB:nt<=GH):Rel P (fi w ro ps vs bss nt) (aA (dc 0 ps x)) { tmps:=vs.toArray++Array.replicate (nt-vs.length) undef,defers:=[] } w:=by
 have hlen:=se h
 have hGB:GH<=B0:=by decide
 obtain⟨es,q1,q2,q3,q4,q5,q6,q7⟩:=tA ps x vs bss 0 h hnd (by omega)
 rw[q1]
 have hat:=qg es
 have huniq:∀ e∈es,∀ e'∈es,e.r=e'.r->e=e':=by
  intro e he e' he' hr
  exact vW q5 e he e' he' hr
 rw[<- q2]at hnd
 have hblown:∀ e∈es,∀ k∈e.bl,k∈bss.flatten:=λe he k hk=>by rw[<- q2];exact List.mem_flatMap.2 ⟨e,he,hk⟩
 have hE:∀ q,(aA (es.map λe=>(e.r,e.c)) q=bM.none/\es.find? (λe=>e.r==q)=none)\/∃ e∈es,e.r=q/\es.find? (λe=>e.r==q)=some e/\aA (es.map λe=>(e.r,e.c)) q=e.c:=hat
 have hbox:∀ q,live (aA (es.map λe=>(e.r,e.c))) q->∃ e∈es,e.r=q/\B0<=e.r/\es.find? (λe=>e.r==q)=some e:=by
  rintro q ⟨h1,h2⟩
  rcases hE q with ⟨h3,_⟩|⟨e,h3,h4,h5,h6⟩
  ·rw[h3]at h2;cases h2
  ·exact⟨e,h3,h4,by rw[h4];exact h1,h5⟩
 let β:Nat->Nat:=λq=>match es.find? (λe=>e.r==q) with|some e=>e.g|none=>0
 let cs:Nat->List Value:=λq=>match es.find? (λe=>e.r==q) with|some e=>e.cs|none=>[]
 let bs:Nat->Nat->List Nat:=λq j=>match es.find? (λe=>e.r==q) with|some e=>e.bs j|none=>[]
 have hfbx:∀ z∈dE 0 ps vs,B0<=z.1/\(aA (es.map λe=>(e.r,e.c)) z.1).sh=.agg/\β z.1=z.2:=by
  intro z hz
  obtain⟨e,he,h1,h2,h3⟩:=q7 z hz
  refine⟨h3,?_⟩
  rcases hE z.1 with ⟨_,h4⟩|⟨e',h4,h5,h6,h7⟩
  ·exfalso
   rw[List.find?_eq_none]at h4
   exact h4 e he (by simp[h1])
  ·have:e'=e:=huniq e' h4 e he (by rw[h5,h1])
   subst this
   rw[h7]
   exact⟨((q3 e' he).box (by rw[h1];exact h3)).1,by simp only[β,h6];exact h2⟩
 refine⟨{ β:=β,cs:=cs,bs:=bs,nw:=λ_=>False },?_⟩
 have hprot:(fi w ro ps vs bss nt).prot=λk=>k<w.heap.size/\k∉bss.flatten:=rfl
 exact {
  nt:=by show (vs.toArray++Array.replicate (nt-vs.length) undef).size=nt;simp;omega
  df:=rfl
  slots:=λt ht=>by
   show dI _ ((vs.toArray++Array.replicate (nt-vs.length) undef).getD t undef) (cs t)
   by_cases hq:t<ps.length
   ·have hv:=List.getElem?_eq_getElem (show t<vs.length by omega)
    have:(vs.toArray++Array.replicate (nt-vs.length) undef).getD t undef=vs[t]:=by
     rw[Array.getD_eq_getD_getElem?,Array.getElem?_append_left (by simp;omega)]
     simp[hv]
    rw[this]
    obtain⟨e,he,h1,h2⟩:=q6 t _ hv
    rw[Nat.zero_add]at h1
    rcases hE t with ⟨_,h4⟩|⟨e',h4,h5,h6,h7⟩
    ·exfalso
     rw[List.find?_eq_none]at h4
     exact h4 e he (by simp[h1])
    ·have:e'=e:=huniq e' h4 e he (by rw[h5,h1])
     subst this
     rw[h7]
     simp only[cs,h6]
     exact h2
   ·rcases hE t with ⟨h3,h4⟩|⟨e',h4,h5,h6,h7⟩
    ·rw[h3];simp only[cs,h4];rfl
    ·rcases q4 e' h4 with h8|h8 <;> omega
  boxes:=λb hb=>by
   rcases hE b with ⟨h3,h4⟩|⟨e',h4,h5,h6,h7⟩
   ·rw[h3];exact .inl ⟨rfl,rfl⟩
   ·obtain⟨g1,g2,g3,⟨E,g4⟩,g5⟩:=(q3 e' h4).box (by rw[h5];exact hb)
    rw[h7]
    exact .inr ⟨g1,E,by simp only[β,cs,h6];exact g4⟩
  len:=λq=>by
   rcases hE q with ⟨h3,h4⟩|⟨e',h4,h5,h6,h7⟩
   ·rw[h3];simp only[cs,h4];rfl
   ·rw[h7];simp only[cs,h6];exact (q3 e' h4).len
  one:=λq u hu=>by
   have hu:u∈cs q:=hu
   rcases hE q with ⟨h3,h4⟩|⟨e',h4,h5,h6,h7⟩
   ·simp only[cs,h4]at hu;simp at hu
   ·simp only[cs,h6]at hu;exact (q3 e' h4).one u hu
  leaf:=λq j l v hl hv=>by
   have hv:(cs q)[j]?=some v:=hv
   rcases hE q with ⟨h3,h4⟩|⟨e',h4,h5,h6,h7⟩
   ·rw[h3]at hl;simp[bM.none]at hl
   ·rw[h7]at hl
    simp only[cs,h6]at hv
    show aJ P _ _ _ w (bs q j) l v
    simp only[bs,h6]
    exact (q3 e' h4).leaf (fi w ro ps vs bss nt) _ _ rfl rfl rfl hfbx j l v hl hv
  ownb:=λq j l hl ho k hk=>by
   have hk:k∈bs q j:=hk
   rcases hE q with ⟨h3,h4⟩|⟨e',h4,h5,h6,h7⟩
   ·rw[h3]at hl;simp[bM.none]at hl
   ·rw[h7]at hl
    simp only[bs,h6]at hk
    have hkb:=(q3 e' h4).own j l hl ho k hk
    refine⟨id,λhp=>hp.2 (hblown e' h4 k hkb),λb hb e0=>?_⟩
    obtain⟨e2,g1,g2,g3,g4⟩:=hbox b hb
    have hgb:=(q3 e2 g1).box g3
    have e0:β b=k:=e0
    simp only[β,g4]at e0
    have:=mF hnd e' h4 e2 g1 k hkb (by rw[<- e0];exact hgb.2.1)
    subst this
    exact hgb.2.2.1 j l hl ho (by rw[e0];exact hk)
  sep:=λq j l q' j' l' hl ho hl' ho' k hk hk'=>by
   have hk:k∈bs q j:=hk
   have hk':k∈bs q' j':=hk'
   rcases hE q with ⟨h3,h4⟩|⟨e1,h4,h5,h6,h7⟩
   ·rw[h3]at hl;simp[bM.none]at hl
   ·rcases hE q' with ⟨h3',h4'⟩|⟨e2,h4',h5',h6',h7'⟩
    ·rw[h3']at hl';simp[bM.none]at hl'
    ·rw[h7]at hl;rw[h7']at hl'
     simp only[bs,h6]at hk
     simp only[bs,h6']at hk'
     have:=mF hnd e1 h4 e2 h4' k ((q3 e1 h4).own j l hl ho k hk) ((q3 e2 h4').own j' l' hl' ho' k hk')
     subst this
     exact⟨by rw[<- h5,<- h5'],(q3 e1 h4).sep j j' l l' hl ho hl' ho' k hk hk'⟩
  box:=λb hb=>by
   obtain⟨e2,g1,g2,g3,g4⟩:=hbox b hb
   have hgb:=(q3 e2 g1).box g3
   refine⟨id,λhp=>hp.2 ?_⟩
   show β b∈_
   simp only[β,g4]
   exact hblown e2 g1 _ hgb.2.1
  inj:=λb b' hb hb' e0=>by
   obtain⟨e1,g1,g2,g3,g4⟩:=hbox b hb
   obtain⟨e2,g1',g2',g3',g4'⟩:=hbox b' hb'
   have e0:β b=β b':=e0
   simp only[β,g4,g4']at e0
   have:=mF hnd e1 g1 e2 g1' e1.g ((q3 e1 g1).box g3).2.1 (by rw[e0];exact ((q3 e2 g1').box g3').2.1)
   subst this
   rw[<- g2,<- g2']
  nwlt:=λk hk=>hk.elim
  os:=rfl,tape:=rfl,output:=rfl,size:=Nat.le_refl _,keep:=λ_ _=>rfl
  fixb:=λz hz=>by
   obtain⟨h1,h2,h3⟩:=hfbx z hz
   exact⟨⟨h1,h2⟩,h3⟩
  fixt:=λz hz=>by
   obtain⟨i,h1,h2⟩:=tB hz
   rw[Nat.zero_add]at h1
   show (vs.toArray++Array.replicate (nt-vs.length) undef).getD z.1 undef=z.2
   rw[h1,Array.getD_eq_getD_getElem?,Array.getElem?_append_left (by simpa using (List.getElem?_eq_some_iff.1 h2).1)]
   simp[h2] }
end
end Go.Proofs.YtmcbmojdeikcdaaGreatEv
namespace Go.Proofs.YtmcbmojdeikcdaaGreatEv
open Go Go.RowKit
section
variable {P:Program} {V:Env} {W:Wit} {Γ:List Ctr} {T:TypeId->TI} {R:Type} {st:St} {a:Act} {w:World} {ro:Nat->Prop}
theorem zv (hT:TOk P T)(h:ao P V W st a w)(x:ResultVar)(hx:nQ st T x≠.off) :
  ∃ v cs,(match x with|.tmp t=>(pure (a.tmps.getD t undef):Sem Value)|.cell b t=>(do loadVar t (<- asAddr (a.tmps.getD b undef)):Sem Value)).run P w=.ok v w /\
   dI (nQ st T x) v cs/\aC P V W st w (tE st T x) cs:=by
 cases x with
 |tmp t =>
  obtain⟨cs,h1,h2⟩:=cB h (.tmp t)
  exact⟨_,cs,rfl,h1,h2⟩
 |cell t ty =>
  simp only[nQ]at hx ⊢
  split at hx
  ·rename_i b off hb
   cases hc:decide ((st b).sh=.agg)&&Nat.ble (off+(T ty).cells) (st b).ls.length&&!Nat.beq (T ty).cells 0 with
   |false=>rw[hc]at hx;exact absurd rfl hx
   |true =>
    simp only[hb,hc,cond_true,tE]
    simp only[Bool.and_eq_true,decide_eq_true_eq,Bool.not_eq_true']at hc
    obtain⟨⟨h1,h2⟩,h3⟩:=hc
    have h2:off+(T ty).cells<=(st b).ls.length:=Nat.le_of_ble_eq_true h2
    have hnn:T ty≠.none:=by
     intro e
     rw[e]at h3
     simp[TI.cells]at h3
    obtain⟨hp,_,_,_,_⟩:=bk h (.tmp t) (by rw[hb];simp)
    rw[hb]at hp
    obtain⟨hB,hag,hv⟩:=hp
    have hv:a.tmps.getD t undef=.pointer (some ⟨W.β b,off,none⟩):=hv
    rcases h.boxes b hB with ⟨h8,_⟩|⟨_,E,h8⟩
    ·rw[hag]at h8;cases h8
    ·have hcell:cE w (W.β b) 0 (W.cs b):=λi v hv=>by
      rw[Nat.zero_add,cell_of_row w (W.β b) i _ E (0,0) h8]
      simpa using hv
     have hlen:=h.len b
     have hc2:=hcell.sub off (T ty).cells
     rw[Nat.zero_add]at hc2
     obtain⟨v,hrun,hsh⟩:=mQ (hT ty) hnn hc2 (by simp;omega)
     refine⟨v,_,?_,hsh,((e9 h b).drop off).take _⟩
     simp only[hv]
     simpa[asAddr]using hrun
  ·exact absurd rfl hx
def mg (a:Act):ResultVar->Sem Value
 |.tmp t=>pure (a.tmps.getD t undef)
 |.cell b t=>do loadVar t (<- asAddr (a.tmps.getD b undef))
def mh (P:Program)(a:Act)(w:World):List ResultVar->List Value->Prop
 |[],vs=>vs=[]
 |x::xs,vs=>∃ v vs',vs=v::vs'/\(mg a x).run P w=.ok v w/\mh P a w xs vs'
theorem qh:∀ (l:List ResultVar) (vs:List Value),mh P a w l vs->(l.mapM (mg a)).run P w=.ok vs w
 |[],_,h=>by rw[show _=_ from h];rfl
 |x::l,_,⟨v,vs',e,h1,h2⟩=>by subst e;simp[List.mapM_cons,h1,qh l vs' h2]
theorem yB (b:Bool):be b≠.off:=by cases b <;> simp[be]
def RK.isBox:RK->Bool
 |.box _=>true
 |_=>false
theorem sf (hV:ax V)(hT:TOk P T)(h:ao P V W st a w)(hro:V.ro0=ro){fx:List Nat}:∀ (rs:List RK) (vars:List ResultVar) (y:cq (ak rs)),jd st T fx rs vars=some y ->
  ∀ {G:Nat->Prop},(∀ k,bi V W y.p y.frz k->G k) ->
  ∃ (us:List Value) (rbs:List (List Nat)) (bx:List Nat),mh P a w vars us/\kx w G ro rs y.val us rbs/\(∀ k,rbs.flatten.count k=(aU W y.kill).count k+(bx.map W.β).count k) /\
   (∀ b∈bx,live st b/\fx.any (Nat.beq b)=false)/\bx.length=rs.countP RK.isBox/\(∀ z∈y.frz,aB st z)/\∀ z∈y.kill,aB st z
 |[],[],y,hr,G,hG=>by
  simp only[jd,Option.some.injEq]at hr
  subst hr
  exact⟨[],[],[],rfl,⟨rfl,rfl⟩,λk=>by simp[aU],by simp,rfl,by simp,by simp⟩
 |[],_::_,_,hr,_,_=>by simp[jd]at hr
 |_::_,[],_,hr,_,_=>by simp[jd]at hr
 |r::rs,x::vars,y,hr,G,hG=>by
  simp only[jd]at hr
  cases hsh:decide (nQ st T x=r.sh) with
  |false=>simp[hsh]at hr
  |true =>
   simp only[hsh,cond_true]at hr
   have hsh:=of_decide_eq_true hsh
   split at hr
   ·rename_i y1 y2 hy1 hy2
    simp only[Option.some.injEq]at hr
    subst hr
    obtain⟨v,cs1,hrun,hs1,hl1⟩:=zv hT h x (by rw[hsh];cases r <;> simp only[RK.sh] <;> first|exact yB _|simp)
    rw[hsh]at hs1
    have hG1:∀ k,bi V W y1.p y1.frz k->G k:=λk hk=>hG k (dr.1 k hk)
    have hG2:∀ k,bi V W y2.p y2.frz k->G k:=λk hk=>hG k (dr.2 k hk)
    obtain⟨us,rbs,bx,i1,i2,i3,i4,i5,i6,i7⟩:=sf hV hT h hro rs vars y2 hy2 hG2
    have hrun':(mg a x).run P w=.ok v w:=by cases x <;> exact hrun
    have fin:∀ (b:List Nat) (bx1:List Nat),xz w G ro r y1.val v b->(∀ k,b.count k=(aU W y1.kill).count k+(bx1.map W.β).count k)->(∀ b∈bx1,live st b/\fx.any (Nat.beq b)=false)->bx1.length=(if r.isBox then 1 else 0)->(∀ z∈y1.frz,aB st z)->(∀ z∈y1.kill,aB st z) ->
      ∃ (us:List Value) (rbs:List (List Nat)) (bx:List Nat),mh P a w (x::vars) us/\kx w G ro (r::rs) (y1.val,y2.val) us rbs/\(∀ k,rbs.flatten.count k=(aU W (y1.kill++y2.kill)).count k+(bx.map W.β).count k) /\
       (∀ b∈bx,live st b/\fx.any (Nat.beq b)=false)/\bx.length=(r::rs).countP RK.isBox/\(∀ z∈y1.frz++y2.frz,aB st z)/\∀ z∈y1.kill++y2.kill,aB st z:=by
     intro b bx1 f1 f2 f3 f4 f5 f6
     refine⟨v::us,b::rbs,bx1++bx,⟨v,us,rfl,hrun',i1⟩,⟨v,us,b,rbs,rfl,rfl,f1,i2⟩,λk=>?_,λz hz=>(List.mem_append.1 hz).elim (f3 z) (i4 z),?_,λz hz=>(List.mem_append.1 hz).elim (f5 z) (i6 z),λz hz=>(List.mem_append.1 hz).elim (f6 z) (i7 z)⟩
     ·rw[List.flatten_cons,List.count_append,f2 k,i3 k,dm,List.count_append,List.map_append,List.count_append]
      omega
     ·rw[List.length_append,f4,i5,List.countP_cons]
      cases r.isBox <;> simp <;> omega
    cases r with
    |v b =>
     simp only[qv]at hy1
     obtain⟨g1,g2,g3⟩:=dn (pos:=0) h hl1 hy1
     exact fin (aU W y1.kill) [] ⟨cs1,fC hs1,g1.mono hG1⟩ (λk=>by simp) (by simp) rfl g2 g3
    |bv b =>
     simp only[qv,Option.map_eq_some_iff]at hy1
     obtain⟨⟨p,z⟩,hz,rfl⟩:=hy1
     have g1:=dU h hl1 hz
     refine fin [] [] ⟨rfl,cs1,fC hs1,g1.mono λk hk=>?_⟩ (λk=>by simp[aU]) (by simp) rfl (λz hz=>dK hl1 hz) (by simp)
     rcases hk with (hk|⟨_,hk⟩)|hk
     ·exact .inl (hG1 k (.inl (.inl hk)))
     ·exact .inr (by rw[<- hro];exact hk)
     ·exact .inl (hG1 k (.inr hk))
    |box b =>
     simp only[qv]at hy1
     split at hy1
     ·rename_i b0 hls
      cases hfx:!(fx.any (Nat.beq b0)) with
      |false=>rw[hfx]at hy1;cases hy1
      |true =>
       rw[hfx]at hy1
       simp only[cond_true]at hy1
       have hs1:cs1=[v]:=hs1
       subst hs1
       rw[hls]at hl1
       obtain⟨hB,hag,hval⟩:=hl1.1.1
       obtain⟨g1,g2,g3⟩:=dn (pos:=0) h (e9 h b0) hy1
       rcases h.boxes b0 hB with ⟨h8,_⟩|⟨_,E,h8⟩
       ·rw[hag]at h8;cases h8
       ·exact fin (W.β b0::aU W y1.kill) [b0] ⟨W.β b0,W.cs b0,E,_,hval,h8,g1.mono hG1,rfl⟩ (λk=>by
         rw[List.count_cons,List.map_cons,List.map_nil,List.count_cons,List.count_nil];omega) (λb' hb'=>by
         simp at hb';subst hb';exact⟨⟨hB,hag⟩,by simpa using hfx⟩) rfl g2 g3
     ·cases hy1
   ·cases hr
theorem ll (hV:ax V)(h:ao P V W st a w){w0:World}{pr:Nat->Prop}(hnt:V.nt<=GH):∀ (ps:List PK) (x:ab ps) (vs:List Value) (bss:List (List Nat)) (t:Nat) (o:cq (aj ps)),cW P w0 ro pr ps x vs bss->gj st t ps=some o->t+ps.length<=V.nt ->
  (∀ z∈dF t ps vs,a.tmps.getD z.1 undef=z.2)->(∀ z∈dE t ps vs,live st z.1/\W.β z.1=z.2)->∀ {G:Nat->Prop},(∀ k,bi V W o.p o.frz k->G k) ->
  ∃ oss,dD w G ps o.val vs oss/\(∀ k,oss.flatten.count k=(aU W o.kill).count k+((bw t ps).map W.β).count k)/\(∀ z∈o.frz,aB st z)/\(∀ z∈o.kill,aB st z)/\∀ b∈bw t ps,live st b
 |[],x,vs,bss,t,o,⟨e1,e2⟩,ho,_,_,_,G,hG=>by
  simp only[gj,Option.some.injEq]at ho
  subst ho;subst e1
  exact⟨[],trivial,λk=>by simp[aU,bw],by simp,by simp,by simp[bw]⟩
 |pk::ps,x,vs,bss,t,o,⟨v,vs',b,bss',e1,e2,h1,h2⟩,ho,ht,hft,hfb,G,hG=>by
  subst e1;subst e2
  simp only[List.length_cons]at ht
  have other:∀ (o':cq (aj ps)),gj st (t+1) ps=some o'->dF t (pk::ps) (v::vs')=dF (t+1) ps vs'->dE t (pk::ps) (v::vs')=dE (t+1) ps vs'->(∀ k,bi V W o'.p o'.frz k->G k) ->
    ∃ oss,dD w G ps o'.val vs' oss/\(∀ k,oss.flatten.count k=(aU W o'.kill).count k+((bw (t+1) ps).map W.β).count k)/\(∀ z∈o'.frz,aB st z)/\(∀ z∈o'.kill,aB st z)/\∀ b∈bw (t+1) ps,live st b:=by
   intro o' ho' e1 e2 hG'
   exact ll hV h hnt ps x.2 vs' bss' (t+1) o' h2 ho' (by omega) (λz hz=>hft z (by rw[e1];exact hz)) (λz hz=>hfb z (by rw[e2];exact hz)) hG'
  cases pk with
  |io b =>
   simp only[gj]at ho
   split at ho
   ·rename_i y1 y2 hy1 hy2
    simp only[Option.some.injEq]at ho
    subst ho
    obtain⟨oss,i1,i2,i3,i4,i5⟩:=ll hV h hnt ps x.2 vs' bss' (t+1) y2 h2 hy2 (by omega) (λz hz=>hft z (List.mem_cons_of_mem _ hz)) (λz hz=>hfb z hz) (λk hk=>hG k (dr.2 k hk))
    cases hb:decide ((ar st (.tmp t)).1=be b.isAgg) with
    |false=>rw[hb]at hy1;cases hy1
    |true =>
     rw[hb]at hy1
     simp only[cond_true]at hy1
     obtain⟨cs,h3,h4⟩:=cB h (.tmp t)
     rw[of_decide_eq_true hb]at h3
     have hv:a.eval (.tmp t)=v:=hft (t,v) (List.mem_cons_self ..)
     rw[hv]at h3
     obtain⟨g1,g2,g3⟩:=dn (pos:=0) h h4 hy1
     refine⟨aU W y1.kill::oss,⟨?_,i1⟩,λk=>?_,λz hz=>(List.mem_append.1 hz).elim (g2 z) (i3 z),λz hz=>(List.mem_append.1 hz).elim (g3 z) (i4 z),i5⟩
     ·unfold mB
      rw[if_neg (by simp)]
      exact⟨cs,fC h3,g1.mono (λk hk=>hG k (dr.1 k hk))⟩
     ·rw[List.flatten_cons,List.count_append,i2 k,dm,List.count_append]
      show _=_+((bw (t+1) ps).map W.β).count k
      omega
   ·cases ho
  |iop b =>
   simp only[gj]at ho
   split at ho
   ·rename_i y1 y2 hy1 hy2
    simp only[Option.some.injEq]at ho
    subst ho
    obtain⟨oss,i1,i2,i3,i4,i5⟩:=ll hV h hnt ps x.2 vs' bss' (t+1) y2 h2 hy2 (by omega) (λz hz=>hft z (List.mem_cons_of_mem _ hz)) (λz hz=>hfb z (List.mem_cons_of_mem _ hz)) (λk hk=>hG k (dr.2 k hk))
    obtain⟨g,c,E,b0,hv,_,_,_⟩:=h1
    subst hv
    obtain⟨hlv,hβ⟩:=hfb (B0+t,sd (.pointer (some ⟨g,0,none⟩))) (List.mem_cons_self ..)
    have hβ:W.β (B0+t)=g:=hβ
    obtain⟨g1,g2,g3⟩:=dn (pos:=0) h (e9 h (B0+t)) hy1
    rcases h.boxes (B0+t) hlv.1 with ⟨h8,_⟩|⟨_,E',h8⟩
    ·have:=hlv.2;rw[h8]at this;cases this
    ·refine⟨(g::aU W y1.kill)::oss,⟨?_,i1⟩,λk=>?_,λz hz=>(List.mem_append.1 hz).elim (g2 z) (i3 z),λz hz=>(List.mem_append.1 hz).elim (g3 z) (i4 z),λb' hb'=>?_⟩
     ·unfold mB
      rw[if_pos rfl]
      exact⟨g,W.cs (B0+t),E',_,rfl,by rw[<- hβ];exact h8,g1.mono (λk hk=>hG k (dr.1 k hk)),rfl⟩
     ·rw[List.flatten_cons,List.count_append,i2 k,dm,List.count_append,List.count_cons]
      show _=_+(W.β (B0+t)::(bw (t+1) ps).map W.β).count k
      rw[List.count_cons,hβ]
      omega
     ·rcases List.mem_cons.1 hb' with rfl|hb'
      ·exact hlv
      ·exact i5 b' hb'
   ·cases ho
  |rd b =>
   obtain⟨oss,i1,i2,i3,i4,i5⟩:=other o ho rfl rfl hG
   exact⟨[]::oss,⟨rfl,i1⟩,λk=>by rw[List.flatten_cons,List.nil_append];exact i2 k,i3,i4,i5⟩
  |own b =>
   obtain⟨oss,i1,i2,i3,i4,i5⟩:=other o ho rfl rfl hG
   exact⟨[]::oss,⟨rfl,i1⟩,λk=>by rw[List.flatten_cons,List.nil_append];exact i2 k,i3,i4,i5⟩
  |rref b =>
   obtain⟨oss,i1,i2,i3,i4,i5⟩:=other o ho rfl rfl hG
   exact⟨[]::oss,⟨rfl,i1⟩,λk=>by rw[List.flatten_cons,List.nil_append];exact i2 k,i3,i4,i5⟩
  |rref2 b =>
   obtain⟨oss,i1,i2,i3,i4,i5⟩:=other o ho rfl rfl hG
   exact⟨[]::oss,⟨rfl,i1⟩,λk=>by rw[List.flatten_cons,List.nil_append];exact i2 k,i3,i4,i5⟩
  |fn As B =>
   obtain⟨oss,i1,i2,i3,i4,i5⟩:=other o ho rfl rfl hG
   exact⟨[]::oss,⟨rfl,i1⟩,λk=>by rw[List.flatten_cons,List.nil_append];exact i2 k,i3,i4,i5⟩
  |clo f cs =>
   obtain⟨oss,i1,i2,i3,i4,i5⟩:=other o ho rfl rfl hG
   exact⟨[]::oss,⟨rfl,i1⟩,λk=>by rw[List.flatten_cons,List.nil_append];exact i2 k,i3,i4,i5⟩
  |hol b c off =>
   obtain⟨oss,i1,i2,i3,i4,i5⟩:=other o ho rfl rfl hG
   exact⟨[]::oss,⟨rfl,i1⟩,λk=>by rw[List.flatten_cons,List.nil_append];exact i2 k,i3,i4,i5⟩
end
end Go.Proofs.YtmcbmojdeikcdaaGreatEv
namespace Go.Proofs.YtmcbmojdeikcdaaGreatEv
open Go Go.RowKit
section
variable {P:Program} {Γ:List Ctr} {T:TypeId->TI} {w:World} {ro:Nat->Prop}
theorem sJ {fn:Func}{a:Act}{w:World}{vals:List Value}(h:mh P a w fn.results.toList vals):(results fn a.tmps).run P w=.ok (if h:vals.toArray.size=1 then vals.toArray[0] else .tuple vals.toArray) w:=by
 have h1:=qh _ _ h
 have e:results fn a.tmps=(fn.results.mapM (mg a) >>= λvs=>pure (if h:vs.size=1 then vs[0] else .tuple vs)):=by
  unfold results
  congr 1
 have h2:(fn.results.mapM (mg a)).run P w=.ok vals.toArray w:=by
  rw[Array.mapM_eq_mapM_toList]
  simp[h1]
 rw[e]
 simp only[Sem.run_bind,h2,Result.andThen_ok,Sem.run_pure]
theorem zw (us:List Value):qD us (if h:us.toArray.size=1 then us.toArray[0] else .tuple us.toArray):=by
 match us with
 |[]=>rfl
 |[u]=>rfl
 |u::u'::us =>
  rw[dif_neg (by simp)]
  rfl
theorem qi:∀ (ps:List PK) (t:Nat),(bw t ps).Nodup/\∀ b∈bw t ps,B0+t<=b
 |[],t=>⟨List.nodup_nil,by simp[bw]⟩
 |pk::ps,t=>by
  obtain⟨h1,h2⟩:=qi ps (t+1)
  have h3:∀ b∈bw (t+1) ps,B0+t<=b:=λb hb=>by have:=h2 b hb;omega
  cases pk with
  |iop a =>
   refine⟨List.nodup_cons.2 ⟨λhm=>?_,h1⟩,λb hb=>?_⟩
   ·have:=h2 _ hm;omega
   ·rcases List.mem_cons.1 hb with rfl|hb
    ·exact Nat.le_refl _
    ·exact h3 b hb
  |_=>exact⟨h1,h3⟩
theorem zx {rs:List RK}(h:oW rs=true):rs.countP RK.isBox<=1:=by
 unfold oW at h
 split at h
 ·simp[RK.isBox]
 ·rw[List.countP_eq_zero.2]
  ·exact Nat.zero_le _
  ·intro r hr
   rw[List.all_eq_true]at h
   have:=h r hr
   cases r <;> simp[RK.isV,RK.isBox]at this ⊢
theorem qj {β:Nat->Nat}:∀ {bs:List Nat},bs.Nodup->(∀ b∈bs,∀ b'∈bs,β b=β b'->b=b')->(bs.map β).Nodup
 |[],_,_=>List.nodup_nil
 |b::bs,hn,hi=>by
  rw[List.nodup_cons]at hn
  rw[List.map_cons,List.nodup_cons]
  refine⟨λhm=>?_,qj hn.2 (λx hx y hy=>hi x (List.mem_cons_of_mem _ hx) y (List.mem_cons_of_mem _ hy))⟩
  obtain⟨b',hb',e⟩:=List.mem_map.1 hm
  have:=hi b' (List.mem_cons_of_mem _ hb') b (List.mem_cons_self ..) e
  exact hn.1 (by rw[<- this];exact hb')
theorem vX (hT:TOk P T){c:Ctr}(hrs:oW c.rs=true){vs:List Value}{bss:List (List Nat)}{fn:Func}{nt:Nat}(hV:ax (fi w ro c.ps vs bss nt)){x:ab c.ps}{pr:Nat->Prop}(hargs:cW P w ro pr c.ps x vs bss)(hpl:c.ps.length<=nt){ex:Ex}{s1:St}{y:ak c.rs×aj c.ps}
  (hfin:d5 T c.ps c.rs c.fresh fn.results.toList ex s1=some y) {a:Act} {w':World} (hr:Rel P (fi w ro c.ps vs bss nt) s1 a w') :
  (ex=.normal\/ex=.ret)/\∃ v,(results fn a.tmps).run P w'=.ok v w'/\Post c w ro vs bss y (.returned v) w':=by
 obtain⟨W,hr⟩:=hr
 have hex:ex=.normal\/ex=.ret:=by
  cases ex with
  |normal=>exact .inl rfl
  |ret=>exact .inr rfl
  |exit id=>cases hfin
 refine⟨hex,?_⟩
 have hfin:finR T c.ps c.rs c.fresh fn.results.toList s1=some y:=by
  rcases hex with rfl|rfl <;> exact hfin
 unfold finR at hfin
 split at hfin
 ·rename_i yr yo hyr hyo
  cases hchk:aX (yr.kill++yo.kill)&&db (yr.frz++yo.frz) (yr.kill++yo.kill)&&(!c.fresh||!(yr.p||yo.p)) with
  |false=>rw[hchk]at hfin;cases hfin
  |true =>
   rw[hchk]at hfin
   simp only[cond_true,Option.some.injEq]at hfin
   subst hfin
   simp only[Bool.and_eq_true]at hchk
   obtain⟨⟨hdis,hap⟩,hfp⟩:=hchk
   let N:Nat->Prop:=λk=>W.nw k\/∃ z∈yr.frz++yo.frz,k∈W.bs z.1 z.2
   have hG:∀ (p:Bool) (frz:List (Nat×Nat)),(p=true->(yr.p||yo.p)=true)->(∀ z∈frz,z∈yr.frz++yo.frz)->∀ k,bi (fi w ro c.ps vs bss nt) W p frz k->N k\/(c.fresh=false/\ro k):=by
    intro p frz hp hz k hk
    rcases hk with (hk|⟨hq,hk⟩)|⟨z,hz',hk⟩
    ·exact .inl (.inl hk)
    ·refine .inr ⟨?_,hk⟩
     rw[hp hq]at hfp
     simpa using hfp
    ·exact .inl (.inr ⟨z,hz z hz',hk⟩)
   obtain⟨us,rbs,bx,r1,r2,r3,r4,r5,r6,r7⟩:=sf hV hT hr rfl c.rs fn.results.toList yr hyr (G:=λk=>N k\/(c.fresh=false/\ro k)) (hG yr.p yr.frz (by intro h;simp[h]) (λz hz=>List.mem_append_left _ hz))
   obtain⟨oss,o1,o2,o3,o4,o5⟩:=ll hV hr hV.nt c.ps x vs bss 0 yo hargs hyo (by rw[Nat.zero_add];exact hpl) (λz hz=>hr.fixt z hz) (λz hz=>hr.fixb z hz) (G:=λk=>N k\/(c.fresh=false/\ro k)) (hG yo.p yo.frz (by intro h;simp[h]) (λz hz=>List.mem_append_right _ hz))
   have hkpl:∀ z∈yr.kill++yo.kill,aB s1 z:=λz hz=>(List.mem_append.1 hz).elim (r7 z) (o4 z)
   have hfpl:∀ z∈yr.frz++yo.frz,aB s1 z:=λz hz=>(List.mem_append.1 hz).elim (r6 z) (o3 z)
   have hfr:∀ k,k<w'.heap.size->¬ (fi w ro c.ps vs bss nt).prot k->oH w w' bss.flatten k:=by
    intro k hk hp
    refine⟨hk,?_⟩
    by_cases hlt:k<w.heap.size
    ·right
     apply Classical.byContradiction
     intro hn
     exact hp ⟨hlt,hn⟩
    ·exact .inl (by omega)
   have hNF:∀ k,N k->oH w w' bss.flatten k:=by
    rintro k (hk|⟨z,hz,hk⟩)
    ·exact hfr k (hr.nwlt k hk).1 (hr.nwlt k hk).2
    ·obtain⟨l,h7,h8⟩:=hfpl z hz
     exact hfr k (hr.own_lt h7 h8 k hk) (hr.ownb z.1 z.2 l h7 h8 k hk).2.1
   have hbxl:∀ b∈bx++bw 0 c.ps,live s1 b:=λb hb=>(List.mem_append.1 hb).elim (λhb=>(r4 b hb).1) (o5 b)
   have hbxn:(bx++bw 0 c.ps).Nodup:=by
    rw[List.nodup_append]
    refine⟨?_,(qi c.ps 0).1,λb hb b' hb' e=>?_⟩
    ·have:=zx hrs
     rw[<- r5]at this
     match bx,this with
     |[],_=>exact List.nodup_nil
     |[b],_=>simp
    ·subst e
     have:=List.any_eq_false.1 (r4 b hb).2 b hb'
     simp at this
   have hmapn:=qj (β:=W.β) hbxn (λb hb b' hb' e=>hr.inj b b' (hbxl b hb) (hbxl b' hb') e)
   have hcnt:∀ k,(oss.flatten++rbs.flatten).count k=(aU W (yr.kill++yo.kill)).count k+((bx++bw 0 c.ps).map W.β).count k:=λk=>by
    rw[List.count_append,o2 k,r3 k,dm,List.count_append,List.map_append,List.count_append]
    omega
   have hbn:=bz.1 (fP hr hdis hkpl)
   have hcase:∀ k∈oss.flatten++rbs.flatten,(∃ z∈yr.kill++yo.kill,k∈W.bs z.1 z.2)\/∃ b,live s1 b/\W.β b=k:=λk hk=>by
    have h5:=List.count_pos_iff.2 hk
    rw[hcnt k]at h5
    by_cases h6:k∈aU W (yr.kill++yo.kill)
    ·exact .inl (fv.1 h6)
    ·have:=List.count_eq_zero.2 h6
     obtain⟨b,hb,e⟩:=List.mem_map.1 (List.count_pos_iff.1 (show 0<((bx++bw 0 c.ps).map W.β).count k by omega))
     exact .inr ⟨b,hbxl b hb,e⟩
   refine⟨_,sJ r1,_,us,N,oss,rbs,rfl,zw us,hr.size,hr.os,hr.tape,hr.output,λk h1 h2=>hr.keep k ⟨h1,h2⟩,hNF,o1,r2,bz.2 λk=>?_,λk hk=>?_⟩
   ·rw[hcnt k]
    have h5:=hbn k
    have h6:=bz.1 hmapn k
    by_cases h7:k∈(bx++bw 0 c.ps).map W.β
    ·have:(aU W (yr.kill++yo.kill)).count k=0:=List.count_eq_zero.2 λhm=>by
      obtain⟨b,hb,e⟩:=List.mem_map.1 h7
      obtain⟨z,hz,hkz⟩:=fv.1 hm
      obtain⟨l,hl,ho⟩:=hkpl z hz
      exact (hr.ownb z.1 z.2 l hl ho k hkz).2.2 b (hbxl b hb) e
     omega
    ·have:=List.count_eq_zero.2 h7
     omega
   ·rcases hcase k hk with ⟨z,hz,hkz⟩|⟨b,hb,e⟩
    ·obtain⟨l,hl,ho⟩:=hkpl z hz
     have h9:=hr.ownb z.1 z.2 l hl ho k hkz
     refine⟨hfr k (hr.own_lt hl ho k hkz) h9.2.1,?_⟩
     rintro (hn|⟨z',hz',hkz'⟩)
     ·exact h9.1 hn
     ·obtain⟨l',hl',ho'⟩:=hfpl z' hz'
      obtain⟨e1,e2⟩:=hr.sep z.1 z.2 l z'.1 z'.2 l' hl ho hl' ho' k hkz hkz'
      exact mz hap z' hz' (by rw[show z'=z from Prod.ext e1.symm e2.symm];exact hz)
    ·subst e
     have h9:=hr.box b hb
     refine⟨hfr _ (hr.box_lt hb) h9.2,?_⟩
     rintro (hn|⟨z',hz',hkz'⟩)
     ·exact h9.1 hn
     ·obtain⟨l',hl',ho'⟩:=hfpl z' hz'
      exact (hr.ownb z'.1 z'.2 l' hl' ho' _ hkz').2.2 b hb rfl
 ·cases hfin
theorem iX:∀ {ps:List PK} {vs:List Value} {t:Nat} {z:Nat×Value},z∈dF t ps vs->z.1∈fk t ps
 |[],_,_,_,h=>by simp[dF]at h
 |pk::ps,[],_,_,h=>by cases pk <;> simp[dF]at h
 |pk::ps,v::vs,t,z,h=>by
  cases pk <;> simp only[dF,fk,List.mem_cons]at h ⊢ <;> first
   |exact iX h
   |exact h.imp (λe=>by rw[e]) iX
theorem iY:∀ {ps:List PK} {vs:List Value} {t:Nat} {z:Nat×Nat},z∈dE t ps vs->z.1∈bw t ps
 |[],_,_,_,h=>by simp[dE]at h
 |pk::ps,[],_,_,h=>by cases pk <;> simp[dE]at h
 |pk::ps,v::vs,t,z,h=>by
  cases pk <;> simp only[dE,bw,List.mem_cons]at h ⊢ <;> first
   |exact iY h
   |exact h.imp (λe=>by rw[e]) iY
theorem nL {f:FuncId}{fn:Func}{c:Code}(hf:P.funcs[f]?=some fn)(hn:(fn.name== "runtime.NumGoroutine")=false) (hb:fn.body=some c):kq P f:=by
 intro args w
 have hn':fn.name≠ "runtime.NumGoroutine" := by simpa using hn
 simp[callFunc,hf,hn',hb]
theorem dY (hT:TOk P T)(hΓ:∀ c∈Γ,ag P c)(hmix:P.follows .mixedOrders=true){c:Ctr}{fn:Func}(hf:P.funcs[c.f]?=some fn)(hn:(fn.name== "runtime.NumGoroutine")=false)
  {L:List (Nat×List (Nat×List Coe))} {fuel:Nat} (hb:fn.body.isSome=true) (hden:∀ x,evF Γ T L fuel fn c.ps c.rs c.fresh x=c.den x):ag P c:=by
 obtain⟨code,hb⟩:=Option.isSome_iff_exists.1 hb
 refine⟨nL hf hn hb,λw ro x vs bss y hargs hro hnd hy=>?_⟩
 rw[<- hden]at hy
 unfold evF at hy
 simp only[hb]at hy
 cases hchk:dp fn.ntmps (fk 0 c.ps) code&&Nat.ble c.ps.length fn.ntmps&&Nat.ble fn.ntmps GH&&oW c.rs&&cX L (bw 0 c.ps) code with
 |false=>simp[hchk]at hy
 |true =>
  simp only[hchk,cond_true]at hy
  simp only[Bool.and_eq_true]at hchk
  obtain⟨⟨⟨⟨h1,h2⟩,h3⟩,h4⟩,h5⟩:=hchk
  have h2:=Nat.le_of_ble_eq_true h2
  have h3:=Nat.le_of_ble_eq_true h3
  have hV:ax (fi w ro c.ps vs bss fn.ntmps):=⟨λk hk=>hro k hk,h3⟩
  have hrel:=tC (P:=P) (ro:=ro) hargs hnd h2 h3
  refine calls_of_wp hf hb ?_
  rw[List.size_toArray]
  refine qF hV hT hΓ hmix (λz hz=>iY hz) (nt:=fn.ntmps) (fix:=fk 0 c.ps) rfl (λz hz=>iX hz) code h1 h5 _ _ y _ hy (λex s1 hfin a' w' hr=>?_) _ _ hrel
  obtain⟨hex,v,hrun,hpost⟩:=vX hT h4 hV hargs h2 hfin hr
  have hdf:a'.defers=[]:=by obtain⟨W,hr⟩:=hr;exact hr.df
  rcases hex with rfl|rfl <;> exact⟨hdf,v,hrun,hpost⟩
end
end Go.Proofs.YtmcbmojdeikcdaaGreatEv
namespace Go.Proofs.YtmcbmojdeikcdaaGreatEv
open Go Go.RowKit
section
variable {P:Program}
def szB (P:Program)(t:TypeId)(n:Nat):Bool :=
 match P.info? t with
 |some i=>Nat.beq i.size n
 |none=>false
theorem eZ {t:TypeId}{n:Nat}(h:szB P t n=true):bH P t n:=by
 unfold szB at h
 unfold bH
 split at h
 ·rename_i i hi
  rw[hi]
  simp only[Option.map_some]
  rw[Nat.eq_of_beq_eq_true h]
 ·cases h
def sg (P:Program)(t:TypeId)(agg:Bool):Bool :=
 match P.underlying t with
 |some (.struct _)|some (.array _ _)=>agg
 |some _=>!agg
 |none=>false
theorem pC {t:TypeId}{agg:Bool}(h:sg P t agg=true):(P.underlying t).map (λd=>match d with|.struct _|.array _ _=>true|_=>false)=some agg:=by
 unfold sg at h
 split at h
 ·rename_i hu;rw[hu];simp[h]
 ·rename_i hu;rw[hu];simp[h]
 ·rename_i d h1 h2 hu
  rw[hu]
  simp only[Option.map_some,Option.some.injEq]
  cases agg with
  |true=>cases h
  |false =>
   cases d <;> first|rfl|(exact absurd hu (h1 _))|(exact absurd hu (h2 _ _))
 ·cases h
theorem yC {t:TypeId}{agg:Bool}(h:(P.underlying t).map (λd=>match d with|.struct _|.array _ _=>true|_=>false)=some agg)(w:World):(isAgg t).run P w=.ok agg w:=by
 unfold isAgg
 cases hd':P.underlying t with
 |none=>simp[hd']at h
 |some dd =>
  rw[hd']at h
  simp only[Option.map_some,Option.some.injEq]at h
  subst h
  rw[Sem.run_bind,run_underlying hd' w]
  cases dd <;> rfl
def ky (P:Program)(f:Field)(off:Nat)(b:Ty):Bool:=(f.name != "_")&&Nat.beq f.offset off&&szB P f.type b.cells&&sg P f.type b.isAgg
def eqF (P:Program)(g:Ty->TypeId->Bool):List Field->Nat->Ty->Bool
 |[],_,_=>false
 |[f],off,b=>ky P f off b&&g b f.type
 |f::fs,off,.pair b c=>ky P f off b&&g b f.type&&eqF P g fs (off+b.cells) c
 |_,_,_=>false
def eqT (P:Program):Nat->Ty->TypeId->Bool
 |0,_,_=>false
 |n+1,a,t=>match a with
  |.int k=>(match P.underlying t with|some (.int k')=>decide (k'=k)|_=>false)
  |.bool=>(match P.underlying t with|some .bool=>true|_=>false)
  |.str=>(match P.underlying t with|some .string=>true|_=>false)
  |.pair b c=>(match P.underlying t with|some (.struct fs)=>!P.stoodInHeld t&&eqF P (eqT P n) fs.toList 0 (.pair b c)|_=>false)
  |_=>false
theorem xj:∀ (b:Ty),b.isAgg=false->b.cells=1
 |.int _,_=>rfl
 |.bool,_=>rfl
 |.str,_=>rfl
 |.list _ _ _,_=>rfl
 |.hdr,_=>rfl
 |.unit,h=>by cases h
 |.pair _ _,h=>by cases h
theorem lm {f:Field}{off:Nat}{b:Ty}(h:ky P f off b=true){xs p c s:List Value}(hx:xs=p++c++s)(hp:p.length=off)(hc:c.length=b.cells)(w:World) :
  ∃ v,(part f.type xs.toArray f.offset).run P w=.ok v w/\cV b.isAgg v c:=by
 unfold ky at h
 simp only[Bool.and_eq_true]at h
 obtain⟨⟨⟨_,h2⟩,h3⟩,h4⟩:=h
 have h2:=Nat.eq_of_beq_eq_true h2
 have hagg:=yC (pC h4) w
 have hsz:=cZ (eZ h3) w
 have hdrop:(xs.drop off).take b.cells=c:=by
  rw[hx,List.append_assoc,<- hp,List.drop_left,<- hc,List.take_left]
 cases hb:b.isAgg with
 |true =>
  rw[hb]at hagg
  refine⟨.agg c.toArray,?_,rfl⟩
  have e:xs.toArray.extract off (off+b.cells)=c.toArray:=by
   rw[List.extract_toArray,List.extract_eq_take_drop,Nat.add_sub_cancel_left,hdrop]
  simp only[part,Sem.run_bind,hagg,Result.andThen_ok,if_true,hsz,Sem.run_pure,h2,e]
 |false =>
  rw[hb]at hagg
  have h1:=xj b hb
  rw[h1]at hc
  match c,hc with
  |[v],_ =>
   refine⟨v,?_,rfl⟩
   have e:xs.toArray[off]?=some v:=by
    simp only[List.getElem?_toArray]
    rw[hx,List.append_assoc,List.getElem?_append_right (by omega)]
    simp[hp]
   simp only[part,Sem.run_bind,hagg,Result.andThen_ok,Bool.false_eq_true,if_false,h2,e,Sem.run_pure]
def xC (P:Program)(d:Nat)(b:Ty)(t:TypeId):Prop:=∀ (w:World) (G:Nat->Prop) (x y:b.den) (vx vy:Value) (cx cy:List Value),cV b.isAgg vx cx->Rd w G b x cx->cV b.isAgg vy cy->Rd w G b y cy ->
 (Op.equalIn d t vx vy).run P w=.ok (b.eqv x y) w
theorem vY {d:Nat}{g:Ty->TypeId->Bool}(hg:∀ b t,g b t=true->xC P d b t):∀ (fs:List Field) (off:Nat) (b:Ty),eqF P g fs off b=true->∀ (w:World) (G:Nat->Prop) (x y:b.den) (px cx py cy:List Value),
  px.length=off->py.length=off->Rd w G b x cx->Rd w G b y cy->(Op.eqFields d (px++cx).toArray (py++cy).toArray fs).run P w=.ok (b.eqv x y) w
 |[],_,_,h=>by simp[eqF]at h
 |[f],off,b,h=>by
  intro w G x y px cx py cy hpx hpy hx hy
  simp only[eqF,Bool.and_eq_true]at h
  obtain⟨v1,h1,h2⟩:=lm h.1 (xs:=px++cx) (p:=px) (c:=cx) (s:=[]) (by simp) hpx hx.len w
  obtain⟨v2,h3,h4⟩:=lm h.1 (xs:=py++cy) (p:=py) (c:=cy) (s:=[]) (by simp) hpy hy.len w
  have h5:=hg b f.type h.2 w G x y v1 v2 cx cy h2 hx h4 hy
  have hn:f.name≠ "_" := by
   have:=h.1
   unfold ky at this
   simp only[Bool.and_eq_true]at this
   simpa using this.1.1.1
  simp only[Op.eqFields,if_pos hn,Sem.run_bind,h1,h3,h5,Result.andThen_ok]
  cases b.eqv x y <;> simp
 |f::f'::fs,off,.pair b c,h=>by
  intro w G x y px cx py cy hpx hpy hx hy
  simp only[eqF,Bool.and_eq_true]at h
  obtain⟨⟨hf,hgb⟩,hrest⟩:=h
  obtain⟨c1,c2,rfl,hx1,hx2⟩:=hx
  obtain⟨d1,d2,rfl,hy1,hy2⟩:=hy
  obtain⟨v1,h1,h2⟩:=lm hf (xs:=px++(c1++c2)) (p:=px) (c:=c1) (s:=c2) (by simp) hpx hx1.len w
  obtain⟨v2,h3,h4⟩:=lm hf (xs:=py++(d1++d2)) (p:=py) (c:=d1) (s:=d2) (by simp) hpy hy1.len w
  have h5:=hg b f.type hgb w G x.1 y.1 v1 v2 c1 d1 h2 hx1 h4 hy1
  have h6:=vY hg (f'::fs) (off+b.cells) c hrest w G x.2 y.2 (px++c1) c2 (py++d1) d2 (by simp[hpx,hx1.len]) (by simp[hpy,hy1.len]) hx2 hy2
  rw[List.append_assoc,List.append_assoc]at h6
  have hn:f.name≠ "_" := by
   unfold ky at hf
   simp only[Bool.and_eq_true]at hf
   simpa using hf.1.1.1
  rw[Op.eqFields]
  simp only[if_pos hn,Sem.run_bind,h1,h3,h5,Result.andThen_ok]
  show _=Result.ok (b.eqv x.1 y.1&&c.eqv x.2 y.2) w
  cases b.eqv x.1 y.1 with
  |false=>simp
  |true=>simpa using h6
 |f::f'::fs,off,.int _,h=>by simp[eqF]at h
 |f::f'::fs,off,.bool,h=>by simp[eqF]at h
 |f::f'::fs,off,.str,h=>by simp[eqF]at h
 |f::f'::fs,off,.unit,h=>by simp[eqF]at h
 |f::f'::fs,off,.list _ _ _,h=>by simp[eqF]at h
 |f::f'::fs,off,.hdr,h=>by simp[eqF]at h
theorem qk (x y:ByteArray):(x==y)=decide (x=y):=by
 rw[beq_toListBytes]
 by_cases h:x=y
 ·subst h;simp
 ·rw[decide_eq_false h]
  cases hb:(x.toList==y.toList) with
  |false=>rfl
  |true =>
   exfalso
   apply h
   have:=eq_of_beq hb
   rw[ByteArray.toList_eq,ByteArray.toList_eq]at this
   apply ByteArray.ext
   exact Array.ext' this
theorem vZ:∀ (n:Nat) (a:Ty) (t:TypeId),eqT P n a t=true->∀ d,n<=d->xC P d a t
 |0,_,_,h=>by simp[eqT]at h
 |n+1,a,t,h=>by
  intro d hd
  obtain⟨d,rfl⟩:∃ d',d=d'+1:=⟨d-1,by omega⟩
  intro w G x y vx vy cx cy hvx hx hvy hy
  cases a with
  |int k =>
   simp only[eqT]at h
   split at h
   ·rename_i k' hu
    have hk:=of_decide_eq_true h
    subst hk
    have hx:cx=[.int k' x]:=hx
    have hy:cy=[.int k' y]:=hy
    have hvx:cx=[vx]:=hvx
    have hvy:cy=[vy]:=hvy
    rw[hx]at hvx;rw[hy]at hvy
    simp at hvx hvy
    subst hvx;subst hvy
    simp[Op.equalIn,run_underlying hu,Ty.eqv]
    rfl
   ·cases h
  |bool =>
   simp only[eqT]at h
   split at h
   ·rename_i hu
    have hx:cx=[.bool x]:=hx
    have hy:cy=[.bool y]:=hy
    have hvx:cx=[vx]:=hvx
    have hvy:cy=[vy]:=hvy
    rw[hx]at hvx;rw[hy]at hvy
    simp at hvx hvy
    subst hvx;subst hvy
    simp[Op.equalIn,run_underlying hu,Ty.eqv]
   ·cases h
  |str =>
   simp only[eqT]at h
   split at h
   ·rename_i hu
    have hx:cx=[.string x]:=hx
    have hy:cy=[.string y]:=hy
    have hvx:cx=[vx]:=hvx
    have hvy:cy=[vy]:=hvy
    rw[hx]at hvx;rw[hy]at hvy
    simp at hvx hvy
    subst hvx;subst hvy
    have:=qk x y
    simp[Op.equalIn,run_underlying hu,Ty.eqv,this]
   ·cases h
  |pair b c =>
   simp only[eqT]at h
   split at h
   ·rename_i fs hu
    simp only[Bool.and_eq_true,Bool.not_eq_true']at h
    have hf:P.fieldsOf t=fs:=by simp[Program.fieldsOf,hu]
    have hvx:vx=.agg cx.toArray:=hvx
    have hvy:vy=.agg cy.toArray:=hvy
    subst hvx;subst hvy
    rw[run_equalIn_struct (P:=P) w d t _ _ (by rw[hf];exact hu) h.1,hf]
    have:=vY (P:=P) (λb t hb=>vZ n b t hb d (by omega)) fs.toList 0 (.pair b c) h.2 w G x y [] cx [] cy rfl rfl hx hy
    simpa using this
   ·cases h
  |unit=>simp[eqT]at h
  |hdr=>simp[eqT]at h
  |list m E e=>simp[eqT]at h
theorem yD {t:TypeId}{a:Ty}(h:eqT P 64 a t=true)(ha:a.isAgg=true):EqAt P t a:=by
 intro _ w G x y cx cy hx hy
 have:=vZ 64 a t h Op.maxDepth (by decide) w G x y (.agg cx.toArray) (.agg cy.toArray) cx cy (by rw[ha];rfl) hx (by rw[ha];rfl) hy
 exact this
def uI:Value->Value->Bool
 |.int k n,.int k' n'=>decide (k=k')&&decide (n=n')
 |.bool b,.bool b'=>b==b'
 |.string s,.string s'=>decide (s.toList=s'.toList)
 |.slice none 0 0,.slice none 0 0=>true
 |.pointer none,.pointer none=>true
 |.nilFunc,.nilFunc=>true
 |_,_=>false
def jT:List Value->List Value->Bool
 |[],[]=>true
 |v::vs,u::us=>uI v u&&jT vs us
 |_,_=>false
theorem xk {v u:Value}(h:uI v u=true):v=u:=by
 unfold uI at h
 split at h
 ·simp only[Bool.and_eq_true,decide_eq_true_eq]at h
  rw[h.1,h.2]
 ·rw[eq_of_beq h]
 ·rename_i s s'
  have:s=s':=by
   have h1:=qk s s'
   rw[beq_toListBytes,of_decide_eq_true h]at h1
   simpa using h1.symm
  rw[this]
 ·rfl
 ·rfl
 ·rfl
 ·cases h
theorem ln:∀ {vs us:List Value},jT vs us=true->vs=us
 |[],[],_=>rfl
 |v::vs,u::us,h=>by
  simp only[jT,Bool.and_eq_true]at h
  rw[xk h.1,ln h.2]
 |[],_::_,h=>by simp[jT]at h
 |_::_,[],h=>by simp[jT]at h
def zB (P:Program)(t:TypeId)(agg:Bool)(cs:List Value):Bool :=
 match P.info? t with
 |some i=>match i.zero with
  |some (.agg xs)=>agg&&jT xs.toList cs
  |some v=>!agg&&jT [v] cs
  |none=>false
 |none=>false
theorem wa {t:TypeId}{cs:List Value}(h:zB P t true cs=true):dC P t (.agg cs.toArray):=by
 unfold zB at h
 unfold dC
 split at h
 ·rename_i i hi
  rw[hi]
  split at h
  ·rename_i xs hz
   simp only[Bool.true_and]at h
   rw[Option.map_some,hz,<- ln h,Array.toArray_toList]
  ·cases h
  ·cases h
 ·cases h
theorem kz {t:TypeId}{v:Value}(h:zB P t false [v]=true):dC P t v:=by
 unfold zB at h
 unfold dC
 split at h
 ·rename_i i hi
  rw[hi]
  split at h
  ·cases h
  ·rename_i u _ hz
   simp only[Bool.not_false,Bool.true_and]at h
   have:=ln h
   simp only[List.cons.injEq,and_true]at this
   rw[Option.map_some,hz,this]
  ·cases h
 ·cases h
def jc (P:Program)(n:Nat):List Field->List (Nat×Nat×Bool)->Bool
 |[],[]=>true
 |f::fs,(off,k,agg)::xs=>Nat.beq f.offset off&&szB P f.type k&&sg P f.type agg&&Nat.blt 0 k&&Nat.ble (off+k) n&&(agg||Nat.beq k 1)&&jc P n fs xs
 |_,_=>false
def isU8:Ty->Bool
 |.int .u8=>true
 |_=>false
def u8B (P:Program)(E:TypeId):Bool :=
 match P.underlying E with
 |some (.int .u8)=>true
 |_=>false
def tiB (P:Program)(t:TypeId):TI->Bool
 |.int k=>(match P.underlying t with|some (.int k')=>decide (k'=k)|_=>false)&&szB P t 1&&zB P t false [.int k 0]
 |.bool=>(match P.underlying t with|some .bool=>true|_=>false)&&szB P t 1&&zB P t false [.bool false]
 |.str=>(match P.underlying t with|some .string=>true|_=>false)&&szB P t 1&&zB P t false [.string ByteArray.empty]
 |.slice E e bytes=>(match P.underlying t with|some (.slice E')=>Nat.beq E' E|_=>false)&&szB P t 1&&zB P t false [.slice none 0 0]&&Nat.blt 0 e.cells&&Nat.blt 0 bytes &&
  szB P E e.cells&&(match P.info? E with | some i=>Nat.beq i.bytes bytes&&(match i.zero with | some z=>jT z.cells.toList (zeroCells e) | none=>false) | none=>false)&&(!isU8 e||u8B P E)
 |.arr e n=>(match P.underlying t with|some (.array m E)=>Nat.beq m n&&szB P E e.cells&&sg P E e.isAgg|_=>false)&&Nat.blt 0 e.cells&&szB P t (n*e.cells)&&zB P t true (List.replicate n (zeroCells e)).flatten
 |.struct a flds=>(match P.underlying t with | some (.struct fs)=>jc P a.cells fs.toList flds | _=>false)&&szB P t a.cells&&zB P t true (zeroCells a)&&a.isAgg&&(!a.flat||eqT P 64 a t)&&!P.eqGuardType P.depth t
 |.ptr=>(match P.underlying t with|some (.pointer _)=>true|_=>false)&&szB P t 1&&zB P t false [.pointer none]
 |.fn=>(match P.underlying t with|some (.func _ _ _)=>true|_=>false)&&szB P t 1&&zB P t false [.nilFunc]
 |.none=>true
theorem oT {n:Nat}:∀ {fs:List Field} {xs:List (Nat×Nat×Bool)},jc P n fs xs=true ->
  fs.mapM (λf=>(P.info? f.type).map λi=>(f.offset,i.size))=some (xs.map λx=>(x.1,x.2.1)) /\
  ∀ (i off k:Nat) (agg:Bool),xs[i]?=some (off,k,agg)->(agg=false->k=1)/\∃ f:Field,fs[i]?=some f/\f.offset=off/\0<k/\off+k<=n/\bH P f.type k /\
   (P.underlying f.type).map (λd=>match d with|.struct _|.array _ _=>true|_=>false)=some agg
 |[],[],_=>⟨rfl,λi off k agg h=>by simp at h⟩
 |[],_::_,h=>by simp[jc]at h
 |_::_,[],h=>by simp[jc]at h
 |f::fs,(off,k,agg)::xs,h=>by
  simp only[jc,Bool.and_eq_true,Bool.or_eq_true]at h
  obtain⟨⟨⟨⟨⟨⟨h1,h2⟩,h3⟩,h4⟩,h5⟩,h6⟩,h7⟩:=h
  have h1:=Nat.eq_of_beq_eq_true h1
  have hsz:=eZ h2
  obtain⟨h8,h9⟩:=oT h7
  constructor
  ·unfold bH at hsz
   cases hi:P.info? f.type with
   |none=>rw[hi]at hsz;cases hsz
   |some i =>
    rw[hi]at hsz
    simp only[Option.map_some,Option.some.injEq]at hsz
    simp[List.mapM_cons,hi,h8,hsz,h1]
  ·intro i off' k' agg' hx
   cases i with
   |zero =>
    simp at hx
    obtain⟨rfl,rfl,rfl⟩:=hx
    refine⟨λha=>?_,f,rfl,h1,by simpa[Nat.blt_eq]using h4,Nat.le_of_ble_eq_true h5,hsz,pC h3⟩
    rcases h6 with h6|h6
    ·rw[ha]at h6;cases h6
    ·exact Nat.eq_of_beq_eq_true h6
   |succ i =>
    obtain⟨q1,f',q2,q3⟩:=h9 i off' k' agg' (by simpa using hx)
    exact⟨q1,f',by simpa using q2,q3⟩
theorem zy {t:TypeId}{i:TI}(h:tiB P t i=true):nv P t i:=by
 cases i with
 |none=>trivial
 |int k =>
  simp only[tiB,Bool.and_eq_true]at h
  obtain⟨⟨h1,h2⟩,h3⟩:=h
  split at h1
  ·rename_i k' hu
   rw[of_decide_eq_true h1]at hu
   exact⟨hu,eZ h2,kz h3⟩
  ·cases h1
 |bool =>
  simp only[tiB,Bool.and_eq_true]at h
  obtain⟨⟨h1,h2⟩,h3⟩:=h
  split at h1
  ·rename_i hu;exact⟨hu,eZ h2,kz h3⟩
  ·cases h1
 |str =>
  simp only[tiB,Bool.and_eq_true]at h
  obtain⟨⟨h1,h2⟩,h3⟩:=h
  split at h1
  ·rename_i hu;exact⟨hu,eZ h2,kz h3⟩
  ·cases h1
 |ptr =>
  simp only[tiB,Bool.and_eq_true]at h
  obtain⟨⟨h1,h2⟩,h3⟩:=h
  split at h1
  ·rename_i e hu;exact⟨⟨e,hu⟩,eZ h2,kz h3⟩
  ·cases h1
 |fn =>
  simp only[tiB,Bool.and_eq_true]at h
  obtain⟨⟨h1,h2⟩,h3⟩:=h
  split at h1
  ·rename_i x y z hu;exact⟨⟨x,y,z,hu⟩,eZ h2,kz h3⟩
  ·cases h1
 |slice E e bytes =>
  simp only[tiB,Bool.and_eq_true]at h
  obtain⟨⟨⟨⟨⟨⟨⟨h1,h2⟩,h3⟩,h4⟩,h5⟩,h6⟩,h7⟩,h8u⟩:=h
  have hu8:e=.int .u8->P.underlying E=some (.int .u8):=by
   intro he
   subst he
   have h8u:u8B P E=true:=by simpa[isU8]using h8u
   unfold u8B at h8u
   split at h8u
   ·rename_i hq;exact hq
   ·cases h8u
  split at h1
  ·rename_i E' hu
   rw[Nat.eq_of_beq_eq_true h1]at hu
   split at h7
   ·rename_i ti hti
    simp only[Bool.and_eq_true]at h7
    obtain⟨h8,h9⟩:=h7
    split at h9
    ·rename_i z hz
     have hsz:=eZ h6
     unfold bH at hsz
     rw[hti]at hsz
     simp only[Option.map_some,Option.some.injEq]at hsz
     exact⟨hu,eZ h2,kz h3,by simpa[Nat.blt_eq]using h4,⟨by simpa[Nat.blt_eq]using h5,hu8⟩,ti,z,hti,hsz,Nat.eq_of_beq_eq_true h8,hz,ln h9⟩
    ·cases h9
   ·cases h7
  ·cases h1
 |arr e n =>
  simp only[tiB,Bool.and_eq_true]at h
  obtain⟨⟨⟨h1,h2⟩,h3⟩,h4⟩:=h
  split at h1
  ·rename_i m E hu
   simp only[Bool.and_eq_true]at h1
   obtain⟨⟨h5,h6⟩,h7⟩:=h1
   rw[Nat.eq_of_beq_eq_true h5]at hu
   exact⟨⟨E,hu,eZ h6,pC h7⟩,by simpa[Nat.blt_eq]using h2,eZ h3,wa h4⟩
  ·cases h1
 |struct a flds =>
  simp only[tiB,Bool.and_eq_true,Bool.or_eq_true,Bool.not_eq_true']at h
  obtain⟨⟨⟨⟨⟨h1,h2⟩,h3⟩,h4⟩,h5⟩,h6⟩:=h
  split at h1
  ·rename_i fs hu
   obtain⟨h7,h8⟩:=oT h1
   refine⟨⟨fs,hu,h7,λi off n agg hx=>?_⟩,eZ h2,wa h3,?_,h6⟩
   ·obtain⟨q1,f,q2,q3⟩:=h8 i off n agg hx
    exact⟨q1,f,by simpa using q2,q3⟩
   ·intro hf
    rcases h5 with h5|h5
    ·rw[hf]at h5;cases h5
    ·exact yD h5 h4 hf
  ·cases h1
def tlB (P:Program):List (TypeId×TI)->Bool
 |[]=>true
 |x::l=>tiB P x.1 x.2&&tlB P l
theorem jv:∀ {l:List (TypeId×TI)},tlB P l=true->TOk P (gF l):=by
 intro l h
 refine rE ?_
 induction l with
 |nil=>simp
 |cons x l ih =>
  simp only[tlB,Bool.and_eq_true]at h
  intro y hy
  rcases List.mem_cons.1 hy with rfl|hy
  ·exact zy h.1
  ·exact ih h.2 y hy
end
end Go.Proofs.YtmcbmojdeikcdaaGreatEv
namespace Go.Proofs.YtmcbmojdeikcdaaGreatEv
open Go Go.RowKit
section
variable {P:Program} {T:TypeId->TI}
theorem ql (hT:TOk P T)(hmix:P.follows .mixedOrders=true){f:FuncId}{fn:Func}(hf:P.funcs[f]?=some fn)(hn:(fn.name== "runtime.NumGoroutine")=false) {E:TypeId} {e:Ty} {rs:List RK} {fresh:Bool}
  {den:ab [PK.rd (.list false E e)]->Option (ak rs×aj [PK.rd (.list false E e)])} {R0 A B C:Code} {rid:Nat} {o0 o1:Oper} {d0 q t t':Nat} {x0:Operand} {L:List (Nat×List (Nat×List Coe))} {K:Nat}
  (hb:fn.body=some (.seq R0 (.seq (.seq (.region rid #[o0,o1] false) (.cond (.tmp q) A B)) C))) (hg0:o0.guard=none) (hop0:o0.op=.move x0) (hop1:o1.op=.binOp .eql t (.tmp d0) (.const (.slice none 0 0)) t') (hg1:o1.guard=none) (hd1:o1.dst=some q)
  {E':TypeId} (ht:P.underlying t=some (.slice E'))
  (hchk:(dp fn.ntmps [] (.seq R0 (.seq (.seq (.region rid #[o0,o1] false) (.cond (.tmp q) A B)) C))&&Nat.ble 1 fn.ntmps&&Nat.ble fn.ntmps GH&&oW rs&&cX L [] (.seq R0 (.seq (.seq (.region rid #[o0,o1] false) (.cond (.tmp q) A B)) C)))=true)
  {S1:ab [PK.rd (.list false E e)]->St}
  (hpre:∀ x,evK [] T L K R0 (aA (dc 0 [PK.rd (.list false E e)] x)) (qJ (λs _=>act [] T o0 s (λU=>some (ac U s))) (λ_ _=>none))=some (S1 x))
  (hleaf:∀ x,one (S1 x) (.tmp d0)=.ro true E e x.1)
  (hF:∀ x,evK [] T L K (.seq (.cond (.tmp q) A B) C) (ac (ce (S1 x) [] q .one [.bool false]) (S1 x)) (d5 T [PK.rd (.list false E e)] rs fresh fn.results.toList)=den x)
  (hTr:∀ x y,x.1=[]->den x=some y->evK [] T L K (.seq (.cond (.tmp q) A B) C) (ac (ce (S1 x) [] q .one [.bool true]) (S1 x)) (d5 T [PK.rd (.list false E e)] rs fresh fn.results.toList)=some y) :
  ag P ⟨f,[PK.rd (.list false E e)],rs,fresh,den⟩:=by
 refine⟨nL hf hn hb,λw ro x vs bss y hargs hro hnd hy=>?_⟩
 simp only[Bool.and_eq_true]at hchk
 obtain⟨⟨⟨⟨h1,h2⟩,h3⟩,h4⟩,h5⟩:=hchk
 have h2:=Nat.le_of_ble_eq_true h2
 have h3:=Nat.le_of_ble_eq_true h3
 have hV:ax (fi w ro [PK.rd (.list false E e)] vs bss fn.ntmps):=⟨λk hk=>hro k hk,h3⟩
 have hrel:=tC (P:=P) (ro:=ro) hargs hnd h2 h3
 have hnoΓ:∀ c∈([]:List Ctr),ag P c:=by simp
 have hfb:∀ z∈(fi w ro [PK.rd (.list false E e)] vs bss fn.ntmps).fixb,z.1∈([]:List Nat):=λz hz=>iY (ps:=[PK.rd (.list false E e)]) hz
 have hft:∀ z∈(fi w ro [PK.rd (.list false E e)] vs bss fn.ntmps).fixt,z.1∈([]:List Nat):=λz hz=>iX (ps:=[PK.rd (.list false E e)]) hz
 simp only[dp,Bool.and_eq_true]at h1
 simp only[cX,Bool.and_eq_true]at h5
 obtain⟨hc0,⟨hcr,hcc⟩,hcC⟩:=h1
 obtain⟨hl0,⟨_,hlc⟩,hlC⟩:=h5
 refine calls_of_wp hf hb ?_
 rw[List.size_toArray]
 generalize hQd:bodyPost P fn (Post ⟨f,[PK.rd (.list false E e)],rs,fresh,den⟩ w ro vs bss y)=Q
 have hQ:∀ ex s1,d5 T [PK.rd (.list false E e)] rs fresh fn.results.toList ex s1=some y->∀ a w',Rel P (fi w ro [PK.rd (.list false E e)] vs bss fn.ntmps) s1 a w'->Q (exOf ex) a w':=by
  intro ex s1 hfin a' w' hr
  obtain⟨hex,v,hrun,hpost⟩:=vX (c:=⟨f,[PK.rd (.list false E e)],rs,fresh,den⟩) hT h4 hV hargs h2 hfin hr
  have hdf:a'.defers=[]:=by obtain⟨W,hr⟩:=hr;exact hr.df
  subst hQd
  rcases hex with rfl|rfl <;> exact⟨hdf,v,hrun,hpost⟩
 have hrest:∀ (b:Bool),evK [] T L K (.seq (.cond (.tmp q) A B) C) (ac (ce (S1 x) [] q .one [.bool b]) (S1 x)) (d5 T [PK.rd (.list false E e)] rs fresh fn.results.toList)=some y ->
   ∀ a w',Rel P (fi w ro [PK.rd (.list false E e)] vs bss fn.ntmps) (ac (ce (S1 x) [] q .one [.bool b]) (S1 x)) a w'->(Code.cond (.tmp q) A B).wp P (Exit.then (C.wp P Q) Q) a w':=by
  intro b hev a w' hr
  refine qF hV hT hnoΓ hmix hfb (nt:=fn.ntmps) (fix:=[]) rfl hft (.cond (.tmp q) A B) (by simp only[dp,Bool.and_eq_true];exact hcc) (by simp only[cX,Bool.and_eq_true];exact hlc) _ _ y _ hev (λex s1 h6 a w' hr=>?_) a w' hr
  cases ex with
  |normal=>exact qF hV hT hnoΓ hmix hfb (nt:=fn.ntmps) (fix:=[]) rfl hft C hcC hlC s1 _ y Q h6 hQ a w' hr
  |exit id'=>exact hQ (.exit id') s1 h6 a w' hr
  |ret=>exact hQ .ret s1 h6 a w' hr
 have hopk:∀ (i:Nat) (o:Oper),(#[o0,o1]:Array Oper)[i]?=some o->ki fn.ntmps [] #[o0,o1] o=true:=λi o hi=>by
  simp only[List.all_eq_true]at hcr
  exact hcr o (by simpa using Array.mem_of_getElem? hi)
 refine wp_seq (qF hV hT hnoΓ hmix hfb (nt:=fn.ntmps) (fix:=[]) rfl hft R0 hc0 hl0 _ _ (S1 x) _ (hpre x) (λex s0 h6 a w' hr=>?_) _ _ hrel)
 cases ex with
 |exit id'=>cases h6
 |ret=>cases h6
 |normal =>
  have h6:act [] T o0 s0 (λU=>some (ac U s0))=some (S1 x):=h6
  rw[rR]at h6
  obtain⟨U,hU,h6⟩:=Option.bind_eq_some_iff.1 h6
  simp only[Option.some.injEq]at h6
  refine wp_seq (wp_seq (wp_region ?_))
  have hrange:List.range (#[o0,o1]:Array Oper).size=[0,1]:=rfl
  rw[hrange,wpOps_cons]
  refine uF hV hT hnoΓ (ops:=#[o0,o1]) (i:=0) (o:=o0) rfl (lj rfl hft (hopk 0 o0 rfl)) (λj want hg=>by rw[hg0]at hg;cases hg) (U:=U) (by unfold lg;rw[hg0];exact hU) hr (λa1 w1 hr1=>?_)
  rw[h6]at hr1
  rw[wpOps_cons]
  obtain⟨W1,hr1⟩:=hr1
  have hok1:bF (fi w ro [PK.rd (.list false E e)] vs bss fn.ntmps) o1:=lj rfl hft (hopk 1 o1 rfl)
  obtain⟨h7,_,_,_,_⟩:=bk hr1 (.tmp d0) (by rw[hleaf x];simp)
  rw[hleaf x]at h7
  obtain⟨A',cap,hv,_,hel⟩:=h7
  have hv:a1.eval (.tmp d0)=.slice A' x.1.length cap:=by simpa using hv
  have hlen:A'=none->x.1=[]:=λhA=>by
   cases hx:x.1 with
   |nil=>rfl
   |cons y ys =>
    obtain⟨g,o,hA',_⟩:=hel (by rw[hx];simp)
    rw[hA]at hA'
    cases hA'
  have hev:evK [] T L K (.seq (.cond (.tmp q) A B) C) (ac (ce (S1 x) [] q .one [.bool A'.isNone]) (S1 x)) (d5 T [PK.rd (.list false E e)] rs fresh fn.results.toList)=some y:=by
   cases hA:A' with
   |none=>exact hTr x y (hlen hA) hy
   |some ad=>exact (hF x).trans hy
  have hrun:(execOp a1.eval o1).run P w1=.ok (.value (.bool A'.isNone)) w1:=by
   have:=Lib.run_eql_slice_nil (P:=P) w1 t E' A' x.1.length cap 0 0 ht
   have hc:a1.eval (.const (.slice none 0 0))=.slice none 0 0:=rfl
   simp[execOp,hop1,hv,hc,eqGuard,this]
  unfold wpOp
  have hi:(#[o0,o1]:Array Oper)[1]?=some o1:=rfl
  simp only[hi]
  have hw:Region.wanted o1 (yielded #[o0,o1] a1.tmps)=true:=by simp[Region.wanted,hg1]
  rw[if_pos hw]
  refine .inl (dV hrun ?_)
  rw[hd1]
  show Exit.then _ _ _ _ _
  exact hrest _ hev _ _ (hr1.putLs hV q (hok1 q hd1).1 (hok1 q hd1).2 _ .one [.bool A'.isNone] (.bool A'.isNone) [.bool A'.isNone] (Nat.lt_succ_self _) rfl ⟨⟨rfl,id,rfl⟩,trivial⟩)
end
end Go.Proofs.YtmcbmojdeikcdaaGreatEv
