/- What a callee returns. -/
import Derived.Test.YtmcbmojdeikcdaaGreatE4
namespace Go.Proofs.YtmcbmojdeikcdaaGreatEv
open Go Go.RowKit
section
variable {P:Program} {V:Env} {W:Wit} {st:St} {w:World} {a:Act}
theorem mS {G ro:Nat->Prop}{p q:Bool}{ks:List (Nat×Nat×Nat)}{ep:Nat}(hG:∀ k,G k->gd V W p k)(d n:Nat) :
  ∀ (rs:List RK) (y:ak rs) (us:List Value) (rbs:List (List Nat)),
  (rs.any RK.isBv=true->(∀ k,G k\/ro k->gd V W q k\/∃ x∈ks,k∈W.bs x.1 x.2.1)/\ep<=(st EPO).ver/\(∀ k∈ks,k.2.2<=(st k.1).ver))->kx w G ro rs y us rbs->rs.all RK.isV=true->rbs.flatten.Nodup ->
  (br d n p q ks ep rs y).2=[]/\∃ (cs:List Value) (bsd:Nat->List Nat),oD ((br d n p q ks ep rs y).1.map λx=>(x.1,x.2.length)) us cs/\(((br d n p q ks ep rs y).1.map (·.2)).flatten).length=cs.length/\(∀ u∈cs,u.oneCell'=true) /\
   (∀ (j:Nat) (l:Leaf) (u:Value),(((br d n p q ks ep rs y).1.map (·.2)).flatten)[j]?=some l->cs[j]?=some u->aJ P V W st w (bsd j) l u) /\
   (∀ (j:Nat) (l:Leaf),(((br d n p q ks ep rs y).1.map (·.2)).flatten)[j]?=some l->an l->∀ k∈bsd j,k∈rbs.flatten) /\
   (∀ (j j':Nat) (l l':Leaf),(((br d n p q ks ep rs y).1.map (·.2)).flatten)[j]?=some l->an l->(((br d n p q ks ep rs y).1.map (·.2)).flatten)[j']?=some l'->an l'->∀ k,k∈bsd j->k∈bsd j'->j=j')
 |[],y,us,rbs,_,⟨e1,e2⟩,_,_=>by
  subst e1;subst e2;exact⟨rfl,[],λ_=>[],⟨rfl,rfl⟩,rfl,by simp,λj l u h1 h2=>by simp at h2,λj l h1 h2 k hk=>by simp at hk,λj j' l l' _ _ _ _ k hk=>by simp at hk⟩
 |r::rs,y,us,rbs,hB,⟨u0,us',b,bss',e1,e2,hr,hrest⟩,hv,hnd=>by
  subst e1;subst e2;simp only[List.all_cons,Bool.and_eq_true]at hv;rw[List.flatten_cons,List.nodup_append]at hnd;obtain⟨f0,cs2,d2,f1,f2,f2',f3,f4,f5⟩:=mS (ks:=ks) (q:=q) (ep:=ep) hG d n rs y.2 us' bss' (λhb=>hB (by simp[hb])) hrest hv.2 hnd.2.1;obtain⟨agg,L,cs1,d1,g0,g0',g1,g2,g2',g3,g4,g5⟩:∃ (agg:Bool) (L:List Leaf) (cs1:List Value) (d1:Nat->List Nat),(nN d n p q ks ep r y.1).1=(agg,L)/\(nN d n p q ks ep r y.1).2=[]/\cV agg u0 cs1/\L.length=cs1.length/\(∀ u∈cs1,u.oneCell'=true) /\
    (∀ (j:Nat) (l:Leaf) (u:Value),L[j]?=some l->cs1[j]?=some u->aJ P V W st w (d1 j) l u)/\(∀ (j:Nat) (l:Leaf),L[j]?=some l->an l->∀ k∈d1 j,k∈b) /\
    (∀ (j j':Nat) (l l':Leaf),L[j]?=some l->an l->L[j']?=some l'->an l'->∀ k,k∈d1 j->k∈d1 j'->j=j'):=by
   cases r with
   |v c =>
    obtain⟨cs1,h1,h2⟩:=hr;obtain⟨d1,m1,m2,m3,m4⟩:=gD (P:=P) (V:=V) (W:=W) (st:=st) (p:=p) hG h2 hnd.1;exact⟨c.isAgg,_,cs1,d1,rfl,rfl,h1,m1,h2.one,m2,m3,m4⟩
   |bv c =>
    obtain⟨_,cs1,h1,h2⟩:=hr;obtain⟨hro,hep,hks⟩:=hB (by simp[RK.isBv]);have h3:=iT (P:=P) (V:=V) (W:=W) (st:=st) (p:=q) hep hks (h2.mono hro);exact⟨c.isAgg,_,cs1,λ_=>[],rfl,rfl,h1,h3.length,h2.one,λj l u g1 g2=>(h3.at_ j l u g1 g2).1,λj l _ _ k hk=>by simp at hk,λj j' l l' _ _ _ _ k hk=>by simp at hk⟩
   |box c=>simp[RK.isV]at hv
  have hP1:(br d n p q ks ep (r::rs) y).1=(agg,L)::(br d n p q ks ep rs y.2).1:=by simp only[br,g0]
  have hP2:(br d n p q ks ep (r::rs) y).2=[]:=by simp only[br,g0',f0,List.append_nil]
  rw[hP1];simp only[List.map_cons,List.flatten_cons];have hsplit:∀ (j:Nat) (l:Leaf),(L++((br d n p q ks ep rs y.2).1.map (·.2)).flatten)[j]?=some l->(j<L.length/\L[j]?=some l)\/(L.length<=j/\(((br d n p q ks ep rs y.2).1.map (·.2)).flatten)[j-L.length]?=some l):=by
   intro j l hj;by_cases hlt:j<L.length
   ·rw[List.getElem?_append_left hlt]at hj;exact .inl ⟨hlt,hj⟩
   ·rw[List.getElem?_append_right (by omega)]at hj;exact .inr ⟨by omega,hj⟩
  refine⟨hP2,cs1++cs2,λj=>if j<L.length then d1 j else d2 (j-L.length),⟨u0,us',cs1,cs2,rfl,rfl,g2.symm,g1,f1⟩,by rw[List.length_append,List.length_append,g2,f2],λu hu=>(List.mem_append.1 hu).elim (g2' u) (f2' u),λj l u hj hu=>?_,λj l hj ho k hk=>?_,λj j' l l' hj ho hj' ho' k hk hk'=>?_⟩
  ·rcases hsplit j l hj with ⟨hlt,hj⟩|⟨hge,hj⟩
   ·rw[List.getElem?_append_left (by omega)]at hu;simp only[if_pos hlt];exact g3 j l u hj hu
   ·rw[List.getElem?_append_right (by omega),<- g2]at hu;simp only[if_neg (show ¬ j<L.length by omega)];exact f3 _ l u hj hu
  ·rcases hsplit j l hj with ⟨hlt,hj⟩|⟨hge,hj⟩
   ·simp only[if_pos hlt]at hk;exact List.mem_append_left _ (g4 j l hj ho k hk)
   ·simp only[if_neg (show ¬ j<L.length by omega)]at hk;exact List.mem_append_right _ (f4 _ l hj ho k hk)
  ·rcases hsplit j l hj with ⟨hlt,hj⟩|⟨hge,hj⟩ <;> rcases hsplit j' l' hj' with ⟨hlt',hj'⟩|⟨hge',hj'⟩
   ·simp only[if_pos hlt]at hk;simp only[if_pos hlt']at hk';exact g5 j j' l l' hj ho hj' ho' k hk hk'
   ·simp only[if_pos hlt]at hk;simp only[if_neg (show ¬ j'<L.length by omega)]at hk';exact absurd rfl (hnd.2.2 k (g4 j l hj ho k hk) k (f4 _ l' hj' ho' k hk'))
   ·simp only[if_neg (show ¬ j<L.length by omega)]at hk;simp only[if_pos hlt']at hk';exact absurd rfl (hnd.2.2 k (g4 j' l' hj' ho' k hk') k (f4 _ l hj ho k hk))
   ·simp only[if_neg (show ¬ j<L.length by omega)]at hk;simp only[if_neg (show ¬ j'<L.length by omega)]at hk';have:=f5 _ _ l l' hj ho hj' ho' k hk hk';omega
theorem zn {l:List (Bool×List Leaf)}{us cs:List Value}{v:Value}(n:Nat)(h:oD (l.map λx=>(x.1,x.2.length)) us cs)(hr:qD us v) :
  dI (d9 n l).sh v cs/\(d9 n l).ls=(l.map (·.2)).flatten/\(d9 n l).ver=n:=by
 match l,us,h with
 |[],_,⟨e1,e2⟩ =>
  subst e1;subst e2;exact⟨⟨[],hr,rfl,rfl⟩,rfl,rfl⟩
 |[(agg,L)],_,⟨u,us',c,cs',e1,e2,h1,h2,e3,e4⟩ =>
  subst e1;subst e2;subst e3;subst e4;have hr:v=u:=hr;subst hr;refine⟨?_,by simp[d9],rfl⟩;simp only[d9,List.append_nil];exact i9 h2
 |x::x'::l,us,h =>
  refine⟨?_,rfl,rfl⟩;have hus:∃ u u' us',us=u::u'::us':=by
   obtain⟨u,us',_,_,e1,_,_,_,u2,us2,_,_,e2,_⟩:=h;exact⟨u,u2,us2,by rw[e1,e2]⟩
  obtain⟨u,u',us',rfl⟩:=hus;exact⟨_,hr,h⟩
end
end Go.Proofs.YtmcbmojdeikcdaaGreatEv
namespace Go.Proofs.YtmcbmojdeikcdaaGreatEv
open Go Go.RowKit
section
variable {P:Program} {V:Env} {Γ:List Ctr} {st:St} {w:World} {a:Act}
theorem xc {pk:PK}{x:aG×List Leaf}{g:Got pk.den}(hg:bT Γ st pk x=some g)(hn:pk.isIop=false):g.lend=[]:=by
 cases pk with
 |iop b=>simp[PK.isIop]at hn
 |rd b =>
  simp only[bT,bc]at hg;cases hb:decide (x.1=be b.isAgg) with
  |false=>simp[hb]at hg
  |true=>rw[hb]at hg;simp only[cond_true,Option.map_eq_some_iff]at hg;obtain⟨y,_,rfl⟩:=hg;rfl
 |own b =>
  simp only[bT,bc]at hg;cases hb:decide (x.1=be b.isAgg) with
  |false=>simp[hb]at hg
  |true=>rw[hb]at hg;simp only[cond_true,Option.map_eq_some_iff]at hg;obtain⟨y,_,rfl⟩:=hg;rfl
 |io b =>
  simp only[bT,bc]at hg;cases hb:decide (x.1=be b.isAgg) with
  |false=>simp[hb]at hg
  |true=>rw[hb]at hg;simp only[cond_true,Option.map_eq_some_iff]at hg;obtain⟨y,_,rfl⟩:=hg;rfl
 |rref b=>exact cap (c:=(false,b)) hg
 |rref2 b=>exact cap (c:=(true,b)) hg
 |fn As B =>
  simp only[bT]at hg;split at hg
  ·unfold jx at hg;split at hg
   ·unfold qt at hg;split at hg
    ·rename_i c _ hh;cases hb:(c.ps.drop As.length).all PK.reads&&B.flat&&c.fresh with
     |false=>rw[hb]at hg;cases hg
     |true =>
      rw[hb]at hg;simp only[cond_true]at hg;split at hg
      ·simp only[Option.some.injEq]at hg;subst hg;rfl
      ·cases hg
    ·cases hg
   ·cases hg
  ·simp only[bc]at hg;split at hg
   ·split at hg
    ·simp only[Option.some.injEq]at hg;subst hg;rfl
    ·cases hg
   ·cases hg
 |hol b cc off =>
  simp only[bT,bc]at hg;cases hb:decide (x.1=be b.isAgg) with
  |false=>simp[hb]at hg
  |true =>
   rw[hb]at hg;simp only[cond_true]at hg;split at hg
   ·split at hg
    ·rename_i o' _ _ _ _;cases hbo:Nat.beq o' off with
     |false=>simp[hbo]at hg
     |true =>
      rw[hbo]at hg;simp only[cond_true]at hg;split at hg
      ·split at hg
       ·simp only[Option.some.injEq]at hg;subst hg;rfl
       ·cases hg
      ·cases hg
    ·cases hg
   ·cases hg
 |clo f cs =>
  simp only[bT,bc]at hg;split at hg
  ·rename_i f' caps _;cases hb:Nat.beq f' f with
   |false=>simp[hb]at hg
   |true=>rw[hb]at hg;exact caps_ hg
  ·rename_i f' caps _;cases hb:Nat.beq f' f with
   |false=>simp[hb]at hg
   |true=>rw[hb]at hg;exact caps_ hg
  ·cases hg
where
 cap {c:Bool×Ty} {l:Leaf} {g:Got c.2.den} (hg:eC st c l=some g):g.lend=[]:=by
  unfold eC at hg;cases hc:c.1 with
  |true =>
   rw[hc]at hg;simp only[cond_true]at hg;split at hg
   ·split at hg
    ·simp only[Option.map_eq_some_iff]at hg;obtain⟨y,_,rfl⟩:=hg;rfl
    ·cases hg
   ·cases hg
  |false =>
   rw[hc]at hg;simp only[cond_false]at hg;split at hg
   ·simp only[Option.map_eq_some_iff]at hg;obtain⟨y,_,rfl⟩:=hg;rfl
   ·cases hg
 caps_:∀ {cs:List (Bool×Ty)} {ls:List Leaf} {g:Got (kC cs)},cf st cs ls=some g->g.lend=[]
  |[],[],g,hg=>by simp only[cf,Option.some.injEq]at hg;subst hg;rfl
  |[],_::_,_,hg=>by simp[cf]at hg
  |_::_,[],_,hg=>by simp[cf]at hg
  |c::cs,l::ls,g,hg=>by
   simp only[cf]at hg;split at hg
   ·split at hg
    ·simp only[Option.some.injEq]at hg;subst hg;rfl
    ·cases hg
   ·cases hg
theorem rN:∀ (ps:List PK) (xs:List (aG×List Leaf)) (g:Got (ab ps)),a7 (bT Γ st) ps xs=some g->g.lend=[]->ps.any PK.isIop=false
 |[],_,_,_,_=>rfl
 |_::_,[],_,hg,_=>by simp[a7]at hg
 |pk::ps,x::xs,g,hg,hn=>by
  simp only[a7]at hg;split at hg
  ·rename_i g1 hg1;split at hg
   ·rename_i g2 hg2;simp only[Option.some.injEq]at hg;subst hg;simp only[List.append_eq_nil_iff]at hn;rw[List.any_cons,rN ps xs g2 hg2 hn.2,Bool.or_false];cases pk with
    |iop b =>
     simp only[bT,bc]at hg1;split at hg1
     ·rename_i q _;cases hb:decide ((st q).sh=.agg) with
      |false=>simp[hb]at hg1
      |true =>
       rw[hb]at hg1;simp only[cond_true,Option.map_eq_some_iff]at hg1;obtain⟨t,_,rfl⟩:=hg1;simp at hn
     ·cases hg1
    |_=>rfl
   ·cases hg
  ·cases hg
theorem nB {W0:Wit}{S0 S:St}{w0:World}{a0:Act}(h0:ao P V W0 S0 a0 w0){G:Nat->Prop}{p:Bool} :
  ∀ (ps:List PK) (xs:List (aG×List Leaf)) (vs:List Value) (g:Got (ab ps)) (o:aj ps) (oss:List (List Nat)),fV P V W0 S0 w0 xs vs->a7 (bT Γ S0) ps xs=some g->ps.any PK.isIo=false->dD w G ps o vs oss ->
  (g.lend=[]->aF S p ps xs o=[]/\oss.flatten=[]) /\
  (∀ b,g.lend=[b]->∃ (c:Ty) (y:c.den) (cs:List Value) (E:TypeId) (b0:List Nat),aF S p ps xs o=[(b,⟨(S b).ver+2,.agg,aq p c y⟩)]/\w.heap[W0.β b]?=some (.cells cs.toArray E (0,0))/\Mx w G c none 0 y cs b0/\oss.flatten=W0.β b::b0/\(S0 b).ls.length=c.cells)
 |[],[],vs,g,o,oss,hx,hg,_,ho=>by
  simp only[a7,Option.some.injEq]at hg;subst hg;refine⟨λ_=>⟨rfl,?_⟩,λb hb=>by simp at hb⟩
  match vs,oss,ho with
  |[],[],_=>rfl
 |[],_::_,_,_,_,_,_,hg,_,_=>by simp[a7]at hg
 |_::_,[],_,_,_,_,_,hg,_,_=>by simp[a7]at hg
 |pk::ps,x::xs,vs,g,o,oss,hx,hg,hn,ho=>by
  obtain⟨v,vs',cs,rfl,hs,hl,hrest⟩:=hx;simp only[a7]at hg;split at hg
  ·rename_i g1 hg1;split at hg
   ·rename_i g2 hg2;simp only[Option.some.injEq]at hg;subst hg;simp only[List.any_cons,Bool.or_eq_false_iff]at hn;have other:∀ (o':aj ps) (b:List Nat) (bs:List (List Nat)),pk.isIop=false->oss=b::bs->b=[]->dD w G ps o' vs' bs->aF S p (pk::ps) (x::xs) o=aF S p ps xs o' ->
      (g1.lend++g2.lend=[]->aF S p (pk::ps) (x::xs) o=[]/\oss.flatten=[]) /\
      (∀ b,g1.lend++g2.lend=[b]->∃ (c:Ty) (y:c.den) (cs:List Value) (E:TypeId) (b0:List Nat),aF S p (pk::ps) (x::xs) o=[(b,⟨(S b).ver+2,.agg,aq p c y⟩)]/\w.heap[W0.β b]?=some (.cells cs.toArray E (0,0))/\Mx w G c none 0 y cs b0/\oss.flatten=W0.β b::b0/\(S0 b).ls.length=c.cells):=by
     intro o' b bs hi e1 e2 ho' e3;subst e1;subst e2;rw[e3,xc hg1 hi];simpa using nB h0 (S:=S) (p:=p) ps xs vs' g2 o' bs hrest hg2 hn.2 ho'
    cases pk with
    |iop b =>
     match oss,ho with
     |ob::bs,⟨ho1,ho2⟩ =>
      obtain⟨r1,r2⟩:=nB h0 (S:=S) (p:=p) ps xs vs' g2 o.2 bs hrest hg2 hn.2 ho2;simp only[bT,bc]at hg1;split at hg1
      ·rename_i q hq;cases hb:decide ((S0 q).sh=.agg) with
       |false=>simp[hb]at hg1
       |true =>
        rw[hb]at hg1;simp only[cond_true,Option.map_eq_some_iff]at hg1;obtain⟨t,ht,rfl⟩:=hg1;refine⟨λhb=>by simp at hb,λb' hb'=>?_⟩;simp only[List.singleton_append,List.cons.injEq]at hb';obtain⟨rfl,hb'⟩:=hb';obtain⟨r3,r4⟩:=r1 hb';obtain⟨hl1,_⟩:=fR hs hl hq (by simp);unfold mB at ho1;rw[if_pos rfl]at ho1;obtain⟨g',cs',E,b0,hv,hheap,hm,rfl⟩:=ho1;have hgb:g'=W0.β q:=by
         have h9:=hl1.2.2;rw[hv]at h9;simp only[Value.pointer.injEq,Option.some.injEq,Addr.mk.injEq,and_true]at h9;exact h9
        subst hgb;refine⟨b,o.1,cs',E,b0,?_,hheap,hm,by rw[List.flatten_cons,r4,List.append_nil],?_⟩
        rotate_left
        ·rw[h0.len];exact (dn (pos:=0) h0 (e9 h0 q) ht).1.len
        simp only[aF,r3,hq,List.append_nil];rfl
      ·cases hg1
    |io b=>simp[PK.isIo]at hn
    |rd b =>
     match oss,ho with
     |ob::bs,⟨ho1,ho2⟩=>exact other o ob bs rfl rfl ho1 ho2 rfl
    |own b =>
     match oss,ho with
     |ob::bs,⟨ho1,ho2⟩=>exact other o ob bs rfl rfl ho1 ho2 rfl
    |rref b =>
     match oss,ho with
     |ob::bs,⟨ho1,ho2⟩=>exact other o ob bs rfl rfl ho1 ho2 rfl
    |rref2 b =>
     match oss,ho with
     |ob::bs,⟨ho1,ho2⟩=>exact other o ob bs rfl rfl ho1 ho2 rfl
    |fn As B =>
     match oss,ho with
     |ob::bs,⟨ho1,ho2⟩=>exact other o ob bs rfl rfl ho1 ho2 rfl
    |clo f cs' =>
     match oss,ho with
     |ob::bs,⟨ho1,ho2⟩=>exact other o ob bs rfl rfl ho1 ho2 rfl
    |hol b cc off =>
     match oss,ho with
     |ob::bs,⟨ho1,ho2⟩=>exact other o ob bs rfl rfl ho1 ho2 rfl
   ·cases hg
  ·cases hg
end
end Go.Proofs.YtmcbmojdeikcdaaGreatEv
namespace Go.Proofs.YtmcbmojdeikcdaaGreatEv
open Go Go.RowKit
section
variable {P:Program} {V:Env}
theorem uv (hV:ax V){W:Wit}{S:St}{a:Act}{w:World}(h:ao P V W S a w){rs:List RK}{y:ak rs}{us:List Value}{rbs:List (List Nat)}{v:Value}{p q:Bool}{ks:List (Nat×Nat×Nat)}{ep:Nat}{G ro:Nat->Prop}
  (hres:kx w G ro rs y us rbs) (hG:∀ k,G k->gd V W p k)
  (hB:rs.any RK.isBv=true->(∀ k,G k\/ro k->gd V W q k\/∃ x∈ks,k∈W.bs x.1 x.2.1)/\ep<=(S EPO).ver/\(∀ k∈ks,k.2.2<=(S k.1).ver))
  (hfree:∀ k∈rbs.flatten,¬ bW V W S k) (hnd:rbs.flatten.Nodup) (hret:qD us v) {d:Nat} (hd:d<V.nt) (hfix:∀ x∈V.fixt,x.1≠d) (hbox:fG S d rs=true) :
  ∃ W1,ao P V W1 (ac ((d,d9 ((ac (br d (S (B0+d)).ver p q ks ep rs y).2 S d).ver+1) (br d (S (B0+d)).ver p q ks ep rs y).1)::(br d (S (B0+d)).ver p q ks ep rs y).2) S) (a.put (some d) v) w /\
   ∀ z,z≠d->z≠B0+d->W1.cs z=W.cs z:=by
 cases hv:rs.all RK.isV with
 |true =>
  obtain⟨m0,cs,bsd,m1,m2,m3,m4,m5,m6⟩:=mS (P:=P) (W:=W) (st:=S) (p:=p) (q:=q) (ks:=ks) (ep:=ep) hG d (S (B0+d)).ver rs y us rbs hB hres hv hnd;rw[m0];obtain⟨s1,s2,s3⟩:=zn ((S d).ver+1) m1 hret;show ∃ W1,ao P V W1 (ac [(d,d9 ((S d).ver+1) (br d (S (B0+d)).ver p q ks ep rs y).1)] S) (a.put (some d) v) w/\_;generalize d9 ((S d).ver+1) (br d (S (B0+d)).ver p q ks ep rs y).1=rc at s1 s2 s3 ⊢;obtain⟨v0,sh0,ls0⟩:=rc;simp only at s1 s2 s3;subst s3;subst s2;have hput:=h.put hV d hd hfix ((S d).ver+1) sh0 _ v cs bsd (Nat.lt_succ_self _) s1 m2 m3 m4
   (λj l g8 ho k hk=>by
    have hk2:=m5 j l g8 ho k hk;have hu:=hfree k hk2;simp only[bW,not_or,not_exists,not_and]at hu;exact⟨hu.1,hu.2.1,hu.2.2.1,λr1 j1 l1 _ h8 h9=>hu.2.2.2 r1 j1 l1 h8 h9⟩) m6
  refine⟨_,hput,λz hz _=>?_⟩;show (if z=d then cs else W.cs z)=_;rw[if_neg hz]
 |false =>
  have hb:∃ b,rs=[.box b]:=by
   unfold fG at hbox;split at hbox
   ·exact⟨_,rfl⟩
   ·rw[hv]at hbox;cases hbox
  obtain⟨b,rfl⟩:=hb;obtain⟨u0,us',rb,rbs',e1,e2,⟨g',cs,E,b0,hv',hg',hm,hb0⟩,e3,e4⟩:=hres;subst e3;subst e4;subst e1;subst e2;subst hb0;have hret:v=u0:=hret;subst hret;subst hv';have hoff:(S (B0+d)).sh=.off:=by simpa[fG]using hbox
  have hnd2:(g'::b0).Nodup:=by simpa using hnd
  rw[List.nodup_cons]at hnd2;obtain⟨bsd,m1,m2,m3,m4⟩:=gD (P:=P) (V:=V) (W:=W) (st:=S) (p:=p) hG hm hnd2.2;have hne:d≠B0+d:=by simp[B0]
  have hfg:=hfree g' (by simp);have hr5:=h.setBoxG hV (B0+d) (Nat.le_add_right _ _) ((S (B0+d)).ver+1) (aq p b y.1) cs bsd g' E (w':=w) (Nat.lt_succ_self _)
   (.inr ⟨by simp[live,hoff],hfg,λj l g8 ho k hk e0=>hnd2.1 (by rw[<- e0];exact m3 j l g8 ho k hk)⟩) hg' (λ_ _ _=>rfl) (λ_ _ _ _ _ _ _=>rfl) (Nat.le_refl _) rfl rfl rfl m1 hm.one m2
   (λj l g8 ho k hk=>by
    have hu:=hfree k (by simp;exact .inr (m3 j l g8 ho k hk));simp only[bW,not_or,not_exists,not_and]at hu;exact⟨hu.1,hu.2.1,hu.2.2.1,λr1 j1 l1 _ h8 h9=>hu.2.2.2 r1 j1 l1 h8 h9⟩) m4
  have hr6:=hr5.put hV d hd hfix ((S d).ver+1) .one [.bp (B0+d) 0] (.pointer (some ⟨g',0,none⟩)) [.pointer (some ⟨g',0,none⟩)] (λ_=>[]) (by rw[aI hne];exact Nat.lt_succ_self _) rfl rfl (λu hu=>by simp at hu;subst hu;rfl)
   (λj l u g8 g9=>by
    cases j with
    |zero=>simp at g8 g9;subst g8;subst g9;exact⟨Nat.le_add_right _ _,by rw[bg],by simp⟩
    |succ j=>simp at g8)
   (λj l g8 ho k hk=>by simp at hk) (λj j' l l' _ _ _ _ k hk=>by simp at hk)
  have e1:ac (br d (S (B0+d)).ver p q ks ep [.box b] y).2 S=ac [(B0+d,⟨(S (B0+d)).ver+1,.agg,aq p b y.1⟩)] S:=rfl;rw[aN,e1,aI hne];refine⟨_,hr6,λz hz hz2=>?_⟩;show (if z=d then _ else (if z=B0+d then _ else W.cs z))=_;rw[if_neg hz,if_neg hz2]
theorem sH (r:Nat)(c c':bM)(S:St):ac [(r,c)] (ac [(r,c')] S)=ac [(r,c)] S:=by
 funext q;rcases am r q c (ac [(r,c')] S) with ⟨rfl,e⟩|⟨h,e⟩
 ·rw[e,bg]
 ·rw[e,aI h,aI h]
theorem xd (hV:ax V){W:Wit}{S:St}{a:Act}{w w':World}(h:ao P V W S a w){b:Nat}(hb:live S b){N:Nat->Prop}{cs:List Value}{E:TypeId}{c:Ty}{y:c.den}{b0:List Nat}{G:Nat->Prop}{p:Bool}
  (hheap:w'.heap[W.β b]?=some (.cells cs.toArray E (0,0))) (hm:Mx w' G c none 0 y cs b0) (hnd:(W.β b::b0).Nodup) (hcells:(S b).ls.length=c.cells)
  (hsame:∀ k,bW V W S k->k≠W.β b->w'.heap[k]?=w.heap[k]?) (hsz:w.heap.size<=w'.heap.size) (hos:w'.os=w.os) (ht:w'.tape=w.tape) (ho:w'.output=w.output)
  (hN:∀ k,N k->k<w'.heap.size/\¬ bW V W S k) (hfree:∀ k∈b0,¬ bW V W S k/\¬ N k) (hG:∀ k,G k->gd V { W with nw:=λk=>W.nw k\/N k } p k) :
  ∃ W1,ao P V W1 (ac [(b,⟨(S b).ver+2,.agg,aq p c y⟩)] S) a w'/\W1.β=W.β/\(∀ k,W1.nw k<->W.nw k\/N k)/\(∀ q,q≠b->W1.cs q=W.cs q)/\(∀ q i,q≠b->W1.bs q i=W.bs q i) /\
   (∀ k,bW V W1 (ac [(b,⟨(S b).ver+2,.agg,aq p c y⟩)] S) k->bW V W S k\/N k\/k∈b0):=by
 have hbeta:∀ (q:Nat),(if q=b then W.β b else W.β q)=W.β q:=λq=>by split <;> simp_all
 have h1:=h.setBoxG hV b hb.1 ((S b).ver+1) (List.replicate cs.length .dead) cs (λ_=>[]) (W.β b) E (w':=w') (Nat.lt_succ_self _) (.inl ⟨hb,rfl⟩) hheap hsame (λ_ _ _ _ k hk=>by simp at hk) hsz hos ht ho (by simp) hm.one
  (λj l u g1 g2=>by
   rw[List.getElem?_replicate]at g1;split at g1
   ·simp at g1;subst g1;trivial
   ·cases g1)
  (λj l g1 g2 k hk=>by simp at hk) (λj j' l l' _ _ _ _ k hk=>by simp at hk)
 have hdead:∀ (j:Nat) (l:Leaf),(List.replicate cs.length Leaf.dead)[j]?=some l->¬ an l:=by
  intro j l g1;rw[List.getElem?_replicate]at g1;split at g1
  ·simp at g1;subst g1;exact id
  ·cases g1
 have hlv:∀ z,live (ac [(b,⟨(S b).ver+1,.agg,List.replicate cs.length .dead⟩)] S) z->live S z:=by
  intro z hz;rcases am b z ⟨(S b).ver+1,.agg,List.replicate cs.length .dead⟩ S with ⟨rfl,e⟩|⟨_,e⟩
  ·exact hb
  ·exact⟨hz.1,by rw[<- e];exact hz.2⟩
 have hu1:∀ k,bW V { W with β:=λr=>if r=b then W.β b else W.β r,cs:=λr=>if r=b then cs else W.cs r,bs:=λr j=>if r=b then [] else W.bs r j } (ac [(b,⟨(S b).ver+1,.agg,List.replicate cs.length .dead⟩)] S) k->bW V W S k:=by
  rintro k (hk|hk|⟨z,hz,hk⟩|⟨z,i,l,g1,g2,g3⟩)
  ·exact .inl hk
  ·exact .inr (.inl hk)
  ·exact .inr (.inr (.inl ⟨z,hlv z hz,by rw[<- hk];exact (hbeta z).symm⟩))
  ·by_cases hzb:z=b
   ·subst hzb;rw[bg]at g1;exact absurd g2 (hdead i l g1)
   ·rw[aI hzb]at g1;simp only[if_neg hzb]at g3;exact .inr (.inr (.inr ⟨z,i,l,g1,g2,g3⟩))
 have h2:=h1.nwGrow hV N (λk hk=>⟨(hN k hk).1,λhu=>(hN k hk).2 (hu1 k hu)⟩);rw[List.nodup_cons]at hnd;obtain⟨bsd,m1,m2,m3,m4⟩:=gD (P:=P) (V:=V) (W:={ W with β:=λr=>if r=b then W.β b else W.β r,cs:=λr=>if r=b then cs else W.cs r,bs:=λr j=>if r=b then [] else W.bs r j,nw:=λk=>W.nw k\/N k })
  (st:=ac [(b,⟨(S b).ver+1,.agg,List.replicate cs.length .dead⟩)] S) (p:=p) (λk hk=>hG k hk) hm hnd.2
 have hml:=hm.len;have hll:=cn p c y;have h3:=h2.reown hV b ⟨(S b).ver+2,.agg,aq p c y⟩ bsd (by rw[bg];exact Nat.lt_succ_self _) (by rw[bg]) (by rw[bg,List.length_replicate];omega)
  (λj l v g1 g2=>m2 j l v g1 (by simpa using g2))
  (λj l g1 g2 k hk=>by
   have hk2:=m3 j l g1 g2 k hk;obtain⟨q1,q2⟩:=hfree k hk2;refine⟨λhn=>hn.elim (λhn=>q1 (.inl hn)) q2,λhp=>q1 (.inr (.inl hp)),λz hz e0=>q1 (.inr (.inr (.inl ⟨z,hlv z hz,by rw[<- e0];exact (hbeta z).symm⟩))),λr1 j1 l1 hr1 g3 g4 g5=>?_⟩;rw[aI hr1]at g3;have g5:k∈(if r1=b then [] else W.bs r1 j1):=g5;rw[if_neg hr1]at g5;exact q1 (.inr (.inr (.inr ⟨r1,j1,l1,g3,g4,g5⟩)))) m4
 rw[sH]at h3;refine⟨_,h3,funext λq=>hbeta q,λk=>Iff.rfl,λq hq=>if_neg hq,λq i hq=>?_,?_⟩
 ·show (if q=b then bsd i else if q=b then [] else W.bs q i)=_;rw[if_neg hq,if_neg hq]
 ·rintro k ((hk|hk)|hk|⟨z,hz,hk⟩|⟨z,i,l,g1,g2,g3⟩)
  ·exact .inl (.inl hk)
  ·exact .inr (.inl hk)
  ·exact .inl (.inr (.inl hk))
  ·refine .inl (.inr (.inr (.inl ⟨z,?_,by rw[<- hk];exact (hbeta z).symm⟩)));rcases am b z ⟨(S b).ver+2,.agg,aq p c y⟩ S with ⟨rfl,e⟩|⟨_,e⟩
   ·exact hb
   ·exact⟨hz.1,by rw[<- e];exact hz.2⟩
  ·by_cases hzb:z=b
   ·subst hzb;rw[bg]at g1;have g3:k∈(if z=z then bsd i else _):=g3;rw[if_pos rfl]at g3;exact .inr (.inr (m3 i l g1 g2 k g3))
   ·rw[aI hzb]at g1;have g3:k∈(if z=b then bsd i else if z=b then [] else W.bs z i):=g3;rw[if_neg hzb,if_neg hzb]at g3;exact .inl (.inr (.inr (.inr ⟨z,i,l,g1,g2,g3⟩)))
end
end Go.Proofs.YtmcbmojdeikcdaaGreatEv
namespace Go.Proofs.YtmcbmojdeikcdaaGreatEv
open Go Go.RowKit
section
variable {P:Program} {V:Env} {Γ:List Ctr} {st:St} {R:Type}
theorem fD:∀ (ps:List PK) (xs:List (aG×List Leaf)) (κ:Upd->List (aG×List Leaf)->Option (Bool×Nat×Nat)->Option R),jy st ps xs κ=(cF st ps xs).bind λu=>κ u.1 u.2.1 u.2.2
 |[],xs,κ=>rfl
 |_::_,[],κ=>rfl
 |p::ps,x::xs,κ=>by
  simp only[jy,cF];split
  ·rw[gb];cases ca st (x.2.getD _ .dead) <;> rfl
  ·rw[fD ps xs];cases cF st ps xs <;> rfl
theorem j5 {a:Ty}:∀ {ls:List Leaf} {j k:Nat},kg a j ls=some k->j<=k/\∃ l,ls[k-j]?=some l/\im l=true
 |[],_,_,h=>by simp[kg]at h
 |l::ls,j,k,h=>by
  simp only[kg]at h;cases hb:im l&&nO a j with
  |true =>
   rw[hb]at h;simp only[cond_true,Option.some.injEq]at h;subst h;simp only[Bool.and_eq_true]at hb;exact⟨Nat.le_refl _,l,by simp,hb.1⟩
  |false =>
   rw[hb]at h;obtain⟨h1,l',h2,h3⟩:=j5 h;exact⟨by omega,l',by rw[show k-j=(k-(j+1))+1 by omega];simpa using h2,h3⟩
theorem pZ {p:PK}{ls:List Leaf}{k:Nat}(h:p.nest ls=some k):∃ l,ls[k]?=some l/\im l=true:=by
 cases p with
 |own a=>obtain⟨_,l,h1,h2⟩:=j5 h;exact⟨l,by simpa using h1,h2⟩
 |io a=>obtain⟨_,l,h1,h2⟩:=j5 h;exact⟨l,by simpa using h1,h2⟩
 |_=>simp[PK.nest]at h
theorem rO (hV:ax V){W W':Wit}{st':St}{w w':World}(hs:cm V W W' st st' w w'):∀ {xs:List (aG×List Leaf)} {vs:List Value},fV P V W st w xs vs->fV P V W' st' w' xs vs
 |[],_,h=>h
 |_::_,_,⟨v,vs',cs,e,h1,h2,h3⟩=>⟨v,vs',cs,e,h1,h2.carry hV.ro hs,rO hV hs h3⟩
theorem aC.setLeaf {W:Wit}{w:World}{ls:List Leaf}{cs:List Value}(hl:aC P V W st w ls cs){k:Nat}{l:Leaf}(hno:¬ an l)(h:∀ v,cs[k]?=some v->aJ P V W st w [] l v):aC P V W st w (aQ ls k l) cs:=by
 have hlen:=hl.length;refine aC.mk (by simp[aQ,hlen]) λj l' v h1 h2=>?_
 rcases aP _ _ _ _ _ h1 with ⟨rfl,rfl,hj⟩|⟨hne,h1⟩
 ·exact⟨h v h2,hno,hl.one' v (List.mem_of_getElem? h2)⟩
 ·exact hl.at_ j l' v h1 h2
def zo (W:Wit)(S:St)(w:World):Option (Bool×Nat×Nat)->Prop
 |some (_,r,j)=>∃ v,W.cs TMP=[v]/\rK W S w r j v
 |none=>True
theorem mT (hV:ax V){W:Wit}{a:Act}{w:World}(h:ao P V W st a w):∀ (ps:List PK) (xs:List (aG×List Leaf)) (vs:List Value) (U:Upd) (ys:List (aG×List Leaf)) (b:Option (Bool×Nat×Nat)),
  fV P V W st w xs vs->cF st ps xs=some (U,ys,b)->∃ W0,ao P V W0 (ac U st) a w/\fV P V W0 (ac U st) w ys vs/\W0.nw=W.nw/\W0.β=W.β/\zo W0 (ac U st) w b/\cm V W W0 st (ac U st) w w/\(∀ q,(ac U st q).sh=(st q).sh\/q=TMP) /\
   (∀ f r j,b=some (f,r,j)->f=true->ps.any PK.isIo=true)
 |[],xs,vs,U,ys,b,hx,hn=>by
  simp only[cF,Option.some.injEq,Prod.mk.injEq]at hn;obtain⟨rfl,rfl,rfl⟩:=hn;exact⟨W,h,hx,rfl,rfl,trivial,cm.refl V W st w,λ_=>.inl rfl,λ_ _ _ h=>by cases h⟩
 |_::_,[],vs,U,ys,b,hx,hn=>by
  simp only[cF,Option.some.injEq,Prod.mk.injEq]at hn;obtain⟨rfl,rfl,rfl⟩:=hn;exact⟨W,h,hx,rfl,rfl,trivial,cm.refl V W st w,λ_=>.inl rfl,λ_ _ _ h=>by cases h⟩
 |p::ps,x::xs,vs,U,ys,b,⟨v,vs',cs,e,hs,hl,hrest⟩,hn=>by
  subst e;simp only[cF]at hn;split at hn
  ·rename_i k hk;simp only[Option.map_eq_some_iff]at hn;obtain⟨u,hu,hn⟩:=hn;simp only[Prod.mk.injEq]at hn;obtain⟨rfl,rfl,rfl⟩:=hn;obtain⟨l,hlk,hnal⟩:=pZ hk;have hg:x.2.getD k .dead=l:=by rw[List.getD_eq_getElem?_getD,hlk];rfl
   rw[hg]at hu ⊢;have hlt:k<cs.length:=by rw[<- hl.length];exact (List.getElem?_eq_some_iff.1 hlk).1
   have hck:=List.getElem?_eq_getElem hlt;obtain⟨U,l'⟩:=u;obtain⟨W0,n,p0,E0,e0,xs0,g1,g2,g3,g4,_,_,g5,g6,_,g7,g8,g9⟩:=tk hV h (hl.at_ k l _ hlk hck).1 hu;subst g3;refine⟨W0,g1,⟨v,vs',cs,rfl,hs,(hl.carry hV.ro g2).setLeaf id λu hu=>?_,rO hV g2 hrest⟩,g5,g6,⟨_,g7,g9⟩,g2,g8,λf r j hb hf=>?_⟩
   ·rw[hck]at hu;simp only[Option.some.injEq]at hu;subst hu;exact g4
   ·simp only[Option.some.injEq,Prod.mk.injEq]at hb;rw[List.any_cons,hb.1,hf];rfl
  ·simp only[Option.map_eq_some_iff]at hn;obtain⟨u,hu,hn⟩:=hn;simp only[Prod.mk.injEq]at hn;obtain⟨rfl,rfl,rfl⟩:=hn;obtain⟨W0,g1,g2,g3,g4,g5,g6,g7,g8⟩:=mT hV h ps xs vs' u.1 u.2.1 u.2.2 hrest hu;exact⟨W0,g1,⟨v,vs',cs,rfl,hs,hl.carry hV.ro g6,g2⟩,g3,g4,g5,g6,g7,λf r j hb hf=>by rw[List.any_cons,g8 f r j hb hf,Bool.or_true]⟩
end
end Go.Proofs.YtmcbmojdeikcdaaGreatEv
namespace Go.Proofs.YtmcbmojdeikcdaaGreatEv
open Go Go.RowKit
section
variable {P:Program} {V:Env} {Γ:List Ctr} {st:St}
theorem gE {st:St}{q i:Nat}:∀ {ks:List (Nat×Nat)},(q,i)∉ks->(ac (aE st ks) st q).ls[i]?=(st q).ls[i]?
 |[],_=>rfl
 |(r,j)::ks,h=>by
  simp only[List.mem_cons,not_or]at h;have e:ac (aE st ((r,j)::ks)) st=ac [(r,fb (ac (aE st ks) st r) j)] (ac (aE st ks) st):=aN _ _ _ _;rw[e];rcases am r q (fb (ac (aE st ks) st r) j) (ac (aE st ks) st) with ⟨rfl,e⟩|⟨_,e⟩
  ·rw[e];simp only[fb,aQ];rw[List.getElem?_set_ne (λe0=>h.1 (by rw[e0]))];exact gE h.2
  ·rw[e];exact gE h.2
theorem j6 {st:St}{q i:Nat}:∀ {ks:List (Nat×Nat)},(q,i)∉ks->(ac (aM st ks) st q).ls[i]?=(st q).ls[i]?
 |[],_=>rfl
 |(r,j)::ks,h=>by
  simp only[List.mem_cons,not_or]at h;have e:ac (aM st ((r,j)::ks)) st=ac [(r,fg (ac (aM st ks) st r) j)] (ac (aM st ks) st):=aN _ _ _ _;rw[e];rcases am r q (fg (ac (aM st ks) st r) j) (ac (aM st ks) st) with ⟨rfl,e⟩|⟨_,e⟩
  ·rw[e];simp only[fg,aQ];rw[List.getElem?_set_ne (λe0=>h.1 (by rw[e0]))];exact j6 h.2
  ·rw[e];exact j6 h.2
theorem lW (d n:Nat)(p q:Bool)(ks:List (Nat×Nat×Nat))(ep:Nat):∀ (rs:List RK) (y:ak rs),∀ x∈(br d n p q ks ep rs y).2,x.1=B0+d
 |[],_,x,hx=>by simp[br]at hx
 |r::rs,y,x,hx=>by
  simp only[br,List.mem_append]at hx;rcases hx with hx|hx
  ·cases r <;> simp[nN]at hx;rw[hx]
  ·exact lW d n p q ks ep rs y.2 x hx
theorem p6 {q:Nat}(st:St):∀ (U:Upd),(∀ x∈U,x.1≠q)->ac U st q=st q
 |[],_=>rfl
 |(r,c)::U,h=>by
  rw[aN,aI (Ne.symm (h (r,c) (List.mem_cons_self ..)))];exact p6 st U (λx hx=>h x (List.mem_cons_of_mem _ hx))
def lb (S0:St)(c:Ctr)(d:Nat)(xs:List (aG×List Leaf))(g:Got (ab c.ps))(y:ak c.rs×aj c.ps):Upd :=
 let U1:=(let U:=(bif c.fresh then [] else aE S0 g.frz);aM (ac U S0) g.kill++U);let U2:=aF (ac U1 S0) (g.p&&!c.fresh) c.ps xs y.2++U1;let r:=br d (ac U2 S0 (B0+d)).ver (g.p&&!c.fresh) g.p (g.frz.map λk=>(k.1,k.2,(ac U2 S0 k.1).ver)) (ac U2 S0 EPO).ver c.rs y.1
 (d,d9 ((ac (r.2++U2) S0 d).ver+1) r.1)::(r.2++U2)
theorem xe (hV:ax V){W0:Wit}{S0:St}{a:Act}{w:World}(h0:ao P V W0 S0 a w){c:Ctr}{xs:List (aG×List Leaf)}{vs:List Value}(hxs:fV P V W0 S0 w xs vs){g:Got (ab c.ps)}(hg:a7 (bT Γ S0) c.ps xs=some g)
  (hf:∀ z∈g.frz,aB S0 z) (hk:∀ z∈g.kill,aB S0 z) (hlv:∀ b∈g.lend,live S0 b) (hdis:aX g.kill=true) (hap:db g.frz g.kill=true) (hE:∀ z∈g.kill,z.1≠EPO) (hlen:g.lend.length<=1) (hio:g.lend=[]\/c.ps.any PK.isIo=false)
  {bss:List (List Nat)} (hbss:∀ k,bss.flatten.count k=(g.lend.map W0.β).count k+(aU W0 g.kill).count k)
  {d:Nat} (hd:d<V.nt) (hfix:∀ x∈V.fixt,x.1≠d) (hbox:fG S0 d c.rs=true) (hbv:((c.fresh&&g.lend.isEmpty)||!(c.rs.any RK.isBv))=true) {y:ak c.rs×aj c.ps} {e:Ending} {w':World} (hpost:Post c w (bi V W0 g.p g.frz) vs bss y e w') :
  ∃ v,e=.returned v/\∃ W1,ao P V W1 (ac (lb S0 c d xs g y) S0) (a.put (some d) v) w'/\(∀ q,q≠d->q≠B0+d->q∉g.lend->W1.cs q=W0.cs q) /\
   (∀ q i,q≠d->q≠B0+d->q∉g.lend->(q,i)∉g.frz->(q,i)∉g.kill->(ac (lb S0 c d xs g y) S0 q).ls[i]?=(S0 q).ls[i]?)/\(∀ k,k<w.heap.size->k∉aU W0 g.kill->k∉g.lend.map W0.β->w'.heap[k]?=w.heap[k]?)/\w.heap.size<=w'.heap.size:=by
 obtain⟨v,us,N,oss,rbs,rfl,hret,hsz,hos,htp,hou,hfr,hN,hout,hres,hnd,hfre⟩:=hpost;have hmem:∀ k,k∈bss.flatten<->k∈g.lend.map W0.β\/k∈aU W0 g.kill:=λk=>by
  rw[<- List.count_pos_iff,<- List.count_pos_iff,<- List.count_pos_iff,hbss k];omega
 have hfr2:∀ k,k<w.heap.size->k∉aU W0 g.kill->k∉g.lend.map W0.β->w'.heap[k]?=w.heap[k]?:=λk h1 h2 h3=>hfr k h1 (λh=>((hmem k).1 h).elim h3 h2)
 refine⟨v,rfl,?_⟩;unfold lb;generalize hfz:(bif c.fresh then [] else g.frz)=fz;have hU:(bif c.fresh then [] else aE S0 g.frz)=aE S0 fz:=by rw[<- hfz];cases c.fresh <;> rfl
 have hapf:db fz g.kill=true:=by rw[<- hfz];cases c.fresh with|true=>rfl|false=>exact hap
 have hfzm:∀ z∈fz,z∈g.frz:=by rw[<- hfz];cases c.fresh with|true=>simp|false=>exact λ_ h=>h
 have hff:∀ z∈fz,aB S0 z:=λz hz=>hf z (hfzm z hz)
 rw[hU];obtain⟨h1,h2,h3,h4⟩:=eX hV h0 hapf hk;have hls1:∀ q i,(q,i)∉g.frz->(q,i)∉g.kill->(ac (aM (ac (aE S0 fz) S0) g.kill++aE S0 fz) S0 q).ls[i]?=(S0 q).ls[i]?:=λq i q1 q2=>by
  rw[bm,j6 q2,gE (λh=>q1 (hfzm _ h))]
 generalize hU1:aM (ac (aE S0 fz) S0) g.kill++aE S0 fz=U1 at h1 h2 h3 h4 hls1;have hfree:∀ k∈aU W0 g.kill,¬ bW V (W0.frz S0 fz) (ac U1 S0) k:=λk hk=>k7 ⟨(h4 k hk).1,(h4 k hk).2.1,(h4 k hk).2.2.2.1,(h4 k hk).2.2.2.2⟩
 have hFr:∀ k,oH w w' bss.flatten k->k∉g.lend.map W0.β->k<w'.heap.size/\¬ bW V (W0.frz S0 fz) (ac U1 S0) k:=by
  rintro k ⟨hk1,hk2⟩ hkl;refine⟨hk1,λhu=>?_⟩;rcases hk2 with hk2|hk2
  ·have:=h1.used_lt k hu;omega
  ·exact ((hmem k).1 hk2).elim hkl (λhk2=>hfree k hk2 hu)
 have hG:∀ k,(N k\/(c.fresh=false/\bi V W0 g.p g.frz k))->gd V { W0.frz S0 fz with nw:=λk=>(W0.frz S0 fz).nw k\/N k } (g.p&&!c.fresh) k:=by
  rintro k (hk|⟨hfs,hk⟩)
  ·exact .inl (.inr hk)
  ·have e1:fz=g.frz:=by rw[<- hfz,hfs];rfl
   have:=jp (V:=V) (W:=W0) (p:=g.p) hf k hk;rw[hfs];rw[<- e1]at this;exact bL (W':={ W0.frz S0 fz with nw:=λk=>(W0.frz S0 fz).nw k\/N k }) (by intro h;simp[h]) (λ_ h=>Or.inl h) k this
 rw[List.nodup_append]at hnd;have fin:∀ (W2:Wit),ao P V W2 (ac (aF (ac U1 S0) (g.p&&!c.fresh) c.ps xs y.2++U1) S0) a w'->(∀ k,(N k\/(c.fresh=false/\bi V W0 g.p g.frz k))->gd V W2 (g.p&&!c.fresh) k) ->
   (∀ k∈rbs.flatten,¬ bW V W2 (ac (aF (ac U1 S0) (g.p&&!c.fresh) c.ps xs y.2++U1) S0) k) ->
   (c.rs.any RK.isBv=true->∀ x∈g.frz,∀ k,k∈W0.bs x.1 x.2->k∈W2.bs x.1 x.2)->(c.rs.any RK.isBv=true->∀ k,W0.nw k->W2.nw k) ->
   (∀ q,q∉g.lend->W2.cs q=W0.cs q)->(∀ q i,q∉g.lend->(q,i)∉g.frz->(q,i)∉g.kill->(ac (aF (ac U1 S0) (g.p&&!c.fresh) c.ps xs y.2++U1) S0 q).ls[i]?=(S0 q).ls[i]?) ->
   (∀ q,(ac (aF (ac U1 S0) (g.p&&!c.fresh) c.ps xs y.2++U1) S0 q).sh=(S0 q).sh) ->
   ∃ W1,ao P V W1 (ac (let U2:=aF (ac U1 S0) (g.p&&!c.fresh) c.ps xs y.2++U1
     let r:=br d (ac U2 S0 (B0+d)).ver (g.p&&!c.fresh) g.p (g.frz.map λk=>(k.1,k.2,(ac U2 S0 k.1).ver)) (ac U2 S0 EPO).ver c.rs y.1
     (d,d9 ((ac (r.2++U2) S0 d).ver+1) r.1)::(r.2++U2)) S0) (a.put (some d) v) w'/\(∀ q,q≠d->q≠B0+d->q∉g.lend->W1.cs q=W0.cs q) /\
    (∀ q i,q≠d->q≠B0+d->q∉g.lend->(q,i)∉g.frz->(q,i)∉g.kill->(ac (let U2:=aF (ac U1 S0) (g.p&&!c.fresh) c.ps xs y.2++U1
     let r:=br d (ac U2 S0 (B0+d)).ver (g.p&&!c.fresh) g.p (g.frz.map λk=>(k.1,k.2,(ac U2 S0 k.1).ver)) (ac U2 S0 EPO).ver c.rs y.1
     (d,d9 ((ac (r.2++U2) S0 d).ver+1) r.1)::(r.2++U2)) S0 q).ls[i]?=(S0 q).ls[i]?):=by
  intro W2 g1 hG2 hfree2 hbs2 hnw2 hcs2 hls2 hsh2;generalize aF (ac U1 S0) (g.p&&!c.fresh) c.ps xs y.2++U1=U2 at g1 hfree2 hls2 hsh2 ⊢;have hbox2:fG (ac U2 S0) d c.rs=true:=by
   unfold fG at hbox ⊢;split at hbox
   ·rw[hsh2];exact hbox
   ·exact hbox
  obtain⟨W1,q1,q2⟩:=uv hV g1 (q:=g.p) (ks:=g.frz.map λk=>(k.1,k.2,(ac U2 S0 k.1).ver)) (ep:=(ac U2 S0 EPO).ver) hres hG2 (λhb=>by
   refine⟨λk hk=>?_,Nat.le_refl _,λk hk=>?_⟩
   ·rcases hk with hk|(hk|hk)|⟨x,hx,hk⟩
    ·exact .inl (bL (W':=W2) (by intro h;simp at h;exact h.1) (λ_ h=>h) k (hG2 k hk))
    ·exact .inl (.inl (hnw2 hb k hk))
    ·exact .inl (.inr hk)
    ·exact .inr ⟨(x.1,x.2,(ac U2 S0 x.1).ver),List.mem_map.2 ⟨x,hx,rfl⟩,hbs2 hb x hx k hk⟩
   ·obtain⟨x,hx,rfl⟩:=List.mem_map.1 hk;exact Nat.le_refl _) hfree2 hnd.2.1 hret hd hfix hbox2
  have e1:∀ (X:Upd) (C:bM),ac ((d,C)::(X++U2)) S0=ac ((d,C)::X) (ac U2 S0):=λX C=>by
   rw[aN d C (X++U2),aN d C X,bm]
  simp only[e1,bm];refine⟨W1,q1,λq hq hq2 hql=>(q2 q hq hq2).trans (hcs2 q hql),λq i hq hq2 hql hqf hqk=>?_⟩;rw[aN,aI hq,p6 _ _ (λx hx=>by rw[lW _ _ _ _ _ _ _ _ x hx];exact Ne.symm hq2)];exact hls2 q i hql hqf hqk
 refine (?_:∃ W1,_/\_/\_).imp λW1 hh=>⟨hh.1,hh.2.1,hh.2.2,hfr2,hsz⟩
 cases hln:g.lend with
 |nil =>
  rw[hln]at hmem hfr2 hFr hbss;simp only[List.map_nil,List.not_mem_nil,not_false_iff,true_implies,forall_const,false_or]at hmem hfr2 hFr;rw[hln]at fin;have h5:=h1.world hV hsz hos htp hou (λk hk=>hfr2 k (h1.used_lt k hk) (λhm=>hfree k hm hk));have h6:=h5.nwGrow hV N (λk hk=>hFr k (hN k hk));have hused:∀ k,bW V { W0.frz S0 fz with nw:=λk=>(W0.frz S0 fz).nw k\/N k } (ac U1 S0) k->bW V (W0.frz S0 fz) (ac U1 S0) k\/N k:=by
   rintro k ((hk|hk)|hk|hk|hk)
   ·exact .inl (.inl hk)
   ·exact .inr hk
   ·exact .inl (.inr (.inl hk))
   ·exact .inl (.inr (.inr (.inl hk)))
   ·exact .inl (.inr (.inr (.inr hk)))
  have hnotN:∀ k∈oss.flatten++rbs.flatten,¬ bW V { W0.frz S0 fz with nw:=λk=>(W0.frz S0 fz).nw k\/N k } (ac U1 S0) k:=λk hk hu=>by
   obtain⟨q1,q2⟩:=hfre k hk;rcases hused k hu with hu|hu
   ·exact (hFr k q1).2 hu
   ·exact q2 hu
  obtain⟨W2,g1,g2,g3,g4,g5,g6,g7⟩:=pq (Γ:=Γ) hV (W0:=W0) (W:={ W0.frz S0 fz with nw:=λk=>(W0.frz S0 fz).nw k\/N k }) (p:=g.p&&!c.fresh) rfl hG h6 c.ps xs vs g y.2 oss hxs hg (rN c.ps xs g hg hln) hout hdis hE
   (λx hx l hl ho=>(h2 x.1 x.2 l hl ho).2.2 hx) (λk hk=>hnotN k (List.mem_append_left _ hk)) hnd.1
  rw[<- bm]at g1 g5 g6 g7;refine fin W2 g1 (λk hk=>?_) (λk hk hu=>?_) (λhb x hx k hk=>?_) (λhb k hk=>?_) (λq _=>by rw[g2];rfl) (λq i _ hqf hqk=>(g6 q i hqk).1.trans (hls1 q i hqf hqk)) (λq=>(g5 q).1.trans (h3 q).1)
  ·rcases hG k hk with hk|hk
   ·exact .inl (by rw[g4];exact hk)
   ·exact .inr hk
  ·rcases g7 k hu with hu|hu
   ·exact hnotN k (List.mem_append_right _ hk) hu
   ·exact hnd.2.2 k hu k hk rfl
  ·rw[(g6 x.1 x.2 (mz hap x hx)).2];exact hk
  ·rw[g4];exact .inl (.inl hk)
 |cons b rest =>
  have hrest:rest=[]:=by
   rw[hln]at hlen;simp at hlen;exact hlen
  subst hrest;have hni:c.ps.any PK.isIo=false:=hio.resolve_left (by rw[hln];simp);have hnb:c.rs.any RK.isBv=false:=by
   rw[hln]at hbv;simpa using hbv
  obtain⟨_,r2⟩:=nB (Γ:=Γ) h0 (S:=ac U1 S0) (p:=g.p&&!c.fresh) c.ps xs vs g y.2 oss hxs hg hni hout;obtain⟨cT,yv,cs,E,b0,r3,r4,r5,r6,r7⟩:=r2 b hln;rw[r6]at hnd hfre;have hβ:(W0.frz S0 fz).β=W0.β:=rfl;have hlb:∀ k,k∈g.lend.map W0.β<->k=W0.β b:=λk=>by rw[hln];simp
  have hb:live (ac U1 S0) b:=(gC (λq=>(h3 q).1) b).2 (hlv b (by rw[hln];simp));have hnN:∀ k,k∈(W0.β b::b0)++rbs.flatten->¬ N k:=λk hk=>(hfre k hk).2
  obtain⟨W2,g1,g2,g3,g4,g5,g6⟩:=xd hV h1 hb (N:=N) (p:=g.p&&!c.fresh) r4 r5 hnd.1 (by rw[h1.len b];show (W0.cs b).length=_;rw[<- h0.len b];exact r7)
   (λk hu hne=>hfr2 k (h1.used_lt k hu) (λhm=>hfree k hm hu) (λhm=>hne ((hlb k).1 hm))) hsz hos htp hou
   (λk hk=>hFr k (hN k hk) (λhm=>hnN _ (List.mem_append_left _ (List.mem_cons_self ..)) (by rw[<- (hlb k).1 hm];exact hk)))
   (λk hk=>⟨(hFr k (hfre k (List.mem_append_left _ (List.mem_cons_of_mem _ hk))).1 (λhm=>by
    have:=(hlb k).1 hm;subst this;exact (List.nodup_cons.1 hnd.1).1 hk)).2,hnN k (List.mem_append_left _ (List.mem_cons_of_mem _ hk))⟩) hG
  have e2:ac (aF (ac U1 S0) (g.p&&!c.fresh) c.ps xs y.2++U1) S0=ac [(b,⟨(ac U1 S0 b).ver+2,.agg,aq (g.p&&!c.fresh) cT yv⟩)] (ac U1 S0):=by rw[bm,r3]
  have hmr:∀ k∈rbs.flatten,k∉g.lend.map W0.β:=λk hk hm=>hnd.2.2 _ (List.mem_cons_self ..) k hk ((hlb k).1 hm).symm
  rw[<- e2]at g1 g6;have hgoal:=fin W2 g1 (λk hk=>?_) (λk hk hu=>?_) (λhbb=>by rw[hnb]at hbb;cases hbb) (λhbb=>by rw[hnb]at hbb;cases hbb) (λq hq=>?_) (λq i hq hqf hqk=>?_) (λq=>?_)
  ·rw[hln]at hgoal;exact hgoal
  ·rcases hG k hk with hk|hk
   ·exact .inl ((g3 k).2 hk)
   ·exact .inr hk
  ·rcases g6 k hu with hu|hu|hu
   ·exact (hFr k (hfre k (List.mem_append_right _ hk)).1 (hmr k hk)).2 hu
   ·exact hnN k (List.mem_append_right _ hk) hu
   ·exact hnd.2.2 k (List.mem_cons_of_mem _ hu) k hk rfl
  ·rw[hln]at hq;rw[g4 q (by simpa using hq)];rfl
  ·rw[hln]at hq;rw[e2,aI (by simpa using hq)];exact hls1 q i hqf hqk
  ·rw[e2];rcases am b q ⟨(ac U1 S0 b).ver+2,.agg,aq (g.p&&!c.fresh) cT yv⟩ (ac U1 S0) with ⟨rfl,e3⟩|⟨_,e3⟩
   ·rw[e3];have:=hb.2;rw[(h3 q).1]at this;exact this.symm
   ·rw[e3];exact (h3 q).1
end
end Go.Proofs.YtmcbmojdeikcdaaGreatEv
namespace Go.Proofs.YtmcbmojdeikcdaaGreatEv
open Go Go.RowKit
section
variable {P:Program} {V:Env} {Γ:List Ctr} {T:TypeId->TI} {st:St} {o:Oper} {R:Type} {κ:Upd->Option R} {r:R}
theorem xf {ls:List Leaf}{j:Nat}{p:Bool}{hh:Option (Nat×Nat)}{E:TypeId}{e:Ty}{xs:List e.den}(h:ls.getD j .dead=.own p hh E e xs):ls[j]?=some (.own p hh E e xs):=by
 rw[List.getD_eq_getElem?_getD]at h;cases hq:ls[j]? with
 |none=>rw[hq]at h;simp at h
 |some l0=>rw[hq]at h;simp at h;rw[h]
theorem yw (hV:ax V){b:Option (Bool×Nat×Nat)}{U:Upd}(h:iO st b U κ=some r) :
  ∃ U',κ U'=some r/\∀ W1 a w,ao P V W1 (ac U st) a w->(∀ q j,b=some (true,q,j)->∃ v,W1.cs TMP=[v]/\rK W1 (ac U st) w q j v)->Rel P V (ac U' st) a w:=by
 unfold iO at h;split at h
 ·rename_i q j;split at h
  ·rename_i p i off E' e' xs q' E e ys hq htm;obtain⟨y,hy,h⟩:=Option.bind_eq_some_iff.1 h;obtain⟨_,_,hy⟩:=fw hy;simp only[Int.toNat_natCast]at hy;split at h
   ·rename_i z hz;refine⟨_,h,λW1 a w hr hb=>?_⟩;obtain⟨v,hcT,hqT,hqE,i0,off0,p0,E0,e0,xs0,g,cap,g1,g2,g3,g4⟩:=hb q j rfl;have hq:=xf hq;rw[hq]at g1;obtain⟨rfl,hio,rfl,h4⟩:p=p0/\some (i,off)=some (i0,off0)/\E'=E0/\(⟨e',xs⟩:(e:Ty)×List e.den)=⟨e0,xs0⟩:=by
     simp only[Option.some.injEq,Leaf.own.injEq]at g1;obtain⟨q1,q2,q3,q4,q5⟩:=g1;subst q4;rw[heq_eq_eq]at q5;subst q5;exact⟨q1,by simpa using q2,q3,rfl⟩
    simp only[Option.some.injEq,Prod.mk.injEq]at hio;obtain⟨rfl,rfl⟩:=hio;simp only[Sigma.mk.injEq]at h4;obtain⟨rfl,h4⟩:=h4;rw[heq_eq_eq]at h4;subst h4;generalize hS:ac U st=S at hr hq g1 g2 g3 htm ⊢;have hT0:(S TMP).ls[0]?=some (.own q' none E e ys):=by rw[htm];rfl
    have hcT0:(W1.cs TMP)[0]?=some v:=by rw[hcT];rfl
    have how:=hr.leaf q j _ _ hq g2;have hoT:=hr.leaf TMP 0 _ _ hT0 hcT0;have how:OwH w (gd V W1 p) (some (i,off)) E' e' xs _ (W1.bs q j):=how;have hoT:Ow w (gd V W1 q') E e ys v (W1.bs TMP 0):=hoT;have how':=how.carry (G':=gd V W1 (p||q')) (bL (W':=W1) (by intro h;simp[h]) (λ_ h=>h)) (λ_ _=>rfl) (λ_ _=>rfl);have hoT':=OwH.carry (G':=gd V W1 (p||q')) hoT (bL (W':=W1) (by intro h;simp[h]) (λ_ h=>h)) (λ_ _=>rfl) (λ_ _=>rfl);have hdj:∀ k∈W1.bs TMP 0,k∉W1.bs q j:=λk hk hk'=>hqT (hr.sep TMP 0 _ q j _ hT0 trivial hq trivial k hk hk').1.symm
    obtain⟨bs',hb1,hb2⟩:=how'.back hoT' hdj hy hz (λg' cap' e1=>by
     simp only[Value.slice.injEq,Option.some.injEq,Addr.mk.injEq,and_true]at e1;rw[<- e1.1];exact g4)
    have hin:∀ k∈bs',k∈W1.bs q j\/k∈W1.bs TMP 0:=λk hk=>by
     have h5:=hb2 k;have h6:=List.count_pos_iff.2 hk;by_cases h7:k∈W1.bs q j
     ·exact .inl h7
     ·have:=List.count_eq_zero.2 h7;exact .inr (List.count_pos_iff.1 (by omega))
    obtain⟨h1,hs1⟩:=hr.putGhost hV TMP gS.1 gS.2.1 ((S TMP).ver+1) .off [] [] (λ_=>[]) (Nat.lt_succ_self _) rfl (by simp) (λj l u hj=>by simp at hj) (λj l hj=>by simp at hj) (λj j' l l' hj=>by simp at hj);have hlT:∀ x,x≠TMP->ac [(TMP,⟨(S TMP).ver+1,.off,[]⟩)] S x=S x:=λx hx=>aI hx _ _
    have hsq:(ac [(TMP,⟨(S TMP).ver+1,.off,[]⟩)] S) q=S q:=hlT q hqT;have hother:∀ (i':Nat) (l':Leaf),i'≠j->(aQ (S q).ls j (.own (p||q') none E' e' (xs.set i z)))[i']?=some l'->(S q).ls[i']?=some l':=by
     intro i' l' hne hl';rcases aP _ _ _ _ _ hl' with ⟨rfl,_,_⟩|⟨_,hl'⟩
     ·exact absurd rfl hne
     ·exact hl'
    have hset:∀ (l':Leaf),(aQ (S q).ls j (.own (p||q') none E' e' (xs.set i z)))[j]?=some l'->l'=.own (p||q') none E' e' (xs.set i z):=by
     intro l' hl';rcases aP _ _ _ _ _ hl' with ⟨_,rfl,_⟩|⟨hne,_⟩
     ·rfl
     ·exact absurd rfl hne
    have hlive:∀ b,live (ac [(TMP,⟨(S TMP).ver+1,.off,[]⟩)] S) b->live S b:=λb hb=>by
     have:b≠TMP:=by have:=hb.1;have:=gS.2.1;omega
     exact⟨hb.1,by rw[<- hlT b this];exact hb.2⟩
    have hfr:∀ k∈bs',¬ W1.nw k/\¬ V.prot k/\(∀ b,live S b->W1.β b≠k)/\∀ (r1 i1:Nat) (l1:Leaf),(S r1).ls[i1]?=some l1->an l1->(r1,i1)≠(q,j)->r1≠TMP->k∉W1.bs r1 i1:=λk hk=>by
     rcases hin k hk with hk|hk
     ·have h9:=hr.ownb q j _ hq trivial k hk;exact⟨h9.1,h9.2.1,h9.2.2,λr1 i1 l1 g5 g6 g7 _ g8=>g7 (by obtain⟨e1,e2⟩:=hr.sep r1 i1 l1 q j _ g5 g6 hq trivial k g8 hk;rw[e1,e2])⟩
     ·have h9:=hr.ownb TMP 0 _ hT0 trivial k hk;exact⟨h9.1,h9.2.1,h9.2.2,λr1 i1 l1 g5 g6 _ g7 g8=>g7 (hr.sep r1 i1 l1 TMP 0 _ g5 g6 hT0 trivial k g8 hk).1⟩
    have h2:=(h1.reownE hV q ⟨(S q).ver,(S q).sh,aQ (S q).ls j (.own (p||q') none E' e' (xs.set i z))⟩ (λi'=>if i'=j then bs' else W1.bs q i') hqE (by rw[hsq];exact Nat.le_refl _) (by rw[hsq]) (by rw[hsq];simp[aQ])
     (λi' l' u g5 g6=>by
      have g6:(if q=TMP then [] else W1.cs q)[i']?=some u:=g6;rw[if_neg hqT]at g6;by_cases hij:i'=j
      ·subst hij;obtain rfl:=hset l' g5;rw[g2]at g6;simp only[Option.some.injEq]at g6;subst g6;simp only[if_true];exact hb1
      ·simp only[if_neg hij];have:=h1.leaf q i' l' u (by rw[hsq];exact hother i' l' hij g5) (by show (if q=TMP then [] else W1.cs q)[i']?=_;rw[if_neg hqT];exact g6);have e0:(if q=TMP then ([]:List Nat) else W1.bs q i')=W1.bs q i':=if_neg hqT;simp only[e0]at this;exact this)
     (λi' l' g5 g6 k hk=>by
      by_cases hij:i'=j
      ·subst hij;simp only[if_true]at hk;obtain⟨q1,q2,q3,q4⟩:=hfr k hk;refine⟨q1,q2,λb hb=>q3 b (hlive b hb),λr1 j1 l1 hne g7 g8 g9=>?_⟩;by_cases hrT:r1=TMP
       ·subst hrT;rw[bg]at g7;simp at g7
       ·rw[hlT r1 hrT]at g7;have g9:k∈(if r1=TMP then [] else W1.bs r1 j1):=g9;rw[if_neg hrT]at g9;exact q4 r1 j1 l1 g7 g8 (λe=>hne (by cases e;rfl)) hrT g9
      ·simp only[if_neg hij]at hk;have hl':=hother i' l' hij g5;have h9:=hr.ownb q i' l' hl' g6 k hk;refine⟨h9.1,h9.2.1,λb hb=>h9.2.2 b (hlive b hb),λr1 j1 l1 hne g7 g8 g9=>?_⟩;by_cases hrT:r1=TMP
       ·subst hrT;rw[bg]at g7;simp at g7
       ·rw[hlT r1 hrT]at g7;have g9:k∈(if r1=TMP then [] else W1.bs r1 j1):=g9;rw[if_neg hrT]at g9;exact hne (hr.sep q i' l' r1 j1 l1 hl' g6 g7 g8 k hk g9).1.symm)
     (λi1 i2 l1 l2 g5 g6 g7 g8 k hk hk'=>by
      by_cases hij:i1=j <;> by_cases hij':i2=j
      ·omega
      ·subst hij;simp only[if_true]at hk;simp only[if_neg hij']at hk';exact absurd hk' ((hfr k hk).2.2.2 q i2 l2 (hother i2 l2 hij' g7) g8 (λe=>hij' (by cases e;rfl)) hqT)
      ·subst hij';simp only[if_true]at hk';simp only[if_neg hij]at hk;exact absurd hk ((hfr k hk').2.2.2 q i1 l1 (hother i1 l1 hij g5) g6 (λe=>hij (by cases e;rfl)) hqT)
      ·simp only[if_neg hij]at hk;simp only[if_neg hij']at hk';exact (hr.sep q i1 l1 q i2 l2 (hother i1 l1 hij g5) g6 (hother i2 l2 hij' g7) g8 k hk hk').2)).1
    show ∃ W,ao P V W _ a w;have e1:ac ((q,⟨(S q).ver,(S q).sh,aQ (S q).ls j (.own (p||q') none E' e' (xs.set i z))⟩)::(TMP,⟨(S TMP).ver+1,.off,[]⟩)::(EPO,bN (S EPO))::U) st =
      ac [(q,⟨(S q).ver,(S q).sh,aQ (S q).ls j (.own (p||q') none E' e' (xs.set i z))⟩),(EPO,bN (ac [(TMP,⟨(S TMP).ver+1,.off,[]⟩)] S EPO))] (ac [(TMP,⟨(S TMP).ver+1,.off,[]⟩)] S):=by
     rw[hlT EPO (Ne.symm gS.2.2),aN q,aN TMP,aN EPO,hS,aN q _ [(EPO,bN (S EPO))],lL gS.2.2]
    rw[e1];exact⟨_,h2⟩
   ·cases h
  ·cases h
 ·exact⟨_,h,λW1 a w hr _=>⟨W1,hr⟩⟩
theorem tq (hV:ax V)(hΓ:∀ c∈Γ,ag P c){d:Nat}(hd:d<V.nt)(hfix:∀ x∈V.fixt,x.1≠d){f:FuncId}{xs:List (aG×List Leaf)}(h:ip Γ st d f xs κ=some r) :
  kq P f/\∃ U,κ U=some r/\∀ W a w,ao P V W st a w->∀ vs,fV P V W st w xs vs->Calls P f vs.toArray w (λe w'=>∃ v,e=.returned v/\Rel P V (ac U st) (a.put (some d) v) w'):=by
 unfold ip at h;split at h
 ·rename_i c hc;obtain⟨hmem,rfl⟩:=lU hc;obtain⟨hent,hsound⟩:=hΓ c hmem;refine⟨hent,?_⟩;rw[fD]at h;obtain⟨⟨U0,ys,b⟩,hnest,h⟩:=Option.bind_eq_some_iff.1 h;simp only at h;split at h
  ·rename_i g hg;cases hchk:aX g.kill&&db g.frz g.kill&&fG st d c.rs&&!(g.see.any λq=>g.lend.any (Nat.beq q))&&Nat.ble g.lend.length 1&&(g.lend.isEmpty||!(c.ps.any PK.isIo))&&((c.fresh&&g.lend.isEmpty)||!(c.rs.any RK.isBv))&&(g.kill.all λk=>!Nat.beq k.1 EPO)&&na b g.frz g.kill d with
   |false=>rw[hchk]at h;cases h
   |true =>
    rw[hchk]at h;simp only[cond_true]at h;simp only[Bool.and_eq_true]at hchk;obtain⟨⟨⟨⟨⟨⟨⟨⟨hdis,hap⟩,hbox⟩,hsee⟩,hlen⟩,hio⟩,hbv⟩,hE⟩,hnf⟩:=hchk;obtain⟨y,hy,h⟩:=Option.bind_eq_some_iff.1 h;obtain⟨U',hU',hback⟩:=yw (P:=P) (V:=V) hV h;refine⟨U',hU',λW a w hr vs hxs=>?_⟩;obtain⟨W0,h0,hys,hnw0,hβ0,hbk,hst0,hsh0,hbio⟩:=mT hV hr c.ps xs vs U0 ys b hxs hnest;generalize hS0:ac U0 st=S0 at h0 hys hbk hst0 hsh0 hg;obtain⟨⟨bss,hargs,hcnt⟩,hf,hk,hlv⟩:=js (sG hV hΓ h0) c.ps ys vs g hys hg;have hE:∀ z∈g.kill,z.1≠EPO:=λz hz e0=>by
     have:=List.all_eq_true.1 hE z hz;rw[e0]at this;simp at this
    have hlen:g.lend.length<=1:=Nat.le_of_ble_eq_true hlen;have hio':g.lend=[]\/c.ps.any PK.isIo=false:=by
     simp only[Bool.or_eq_true,List.isEmpty_iff,Bool.not_eq_true']at hio;exact hio
    have hmem2:∀ k,k∈bss.flatten<->k∈g.lend.map W0.β\/k∈aU W0 g.kill:=λk=>by
     rw[<- List.count_pos_iff,<- List.count_pos_iff,<- List.count_pos_iff,hcnt k];omega
    have hseen:∀ k,iL V W0 S0 g.frz g.see k->k<w.heap.size/\k∉bss.flatten:=by
     intro k hks;refine⟨h0.used_lt k (pY hf k hks),λhm=>?_⟩;rcases (hmem2 k).1 hm with hm|hm
     ·obtain⟨b',hb',rfl⟩:=List.mem_map.1 hm;have hbx:=h0.box b' (hlv b' hb');rcases hks with hks|hks|⟨b2,hb2,hlb2,e2⟩|⟨z,hz,hks⟩
      ·exact hbx.1 hks
      ·exact hbx.2 hks
      ·have:=h0.inj b2 b' hlb2 (hlv b' hb') e2;subst this;simp only[Bool.not_eq_true',List.any_eq_false]at hsee;have:=hsee b2 hb2;rw[Bool.not_eq_true,List.any_eq_false]at this;have:=this b2 hb';simp at this
      ·obtain⟨l,hl,ho⟩:=hf z hz;exact (h0.ownb z.1 z.2 l hl ho _ hks).2.2 b' (hlv b' hb') rfl
     ·obtain⟨z,hz,hkz⟩:=fv.1 hm;obtain⟨l,hl,ho⟩:=hk z hz;have hown:=h0.ownb z.1 z.2 l hl ho k hkz;rcases hks with hks|hks|⟨b2,hb2,hlb2,e2⟩|⟨z',hz',hks⟩
      ·exact hown.1 hks
      ·exact hown.2.1 hks
      ·exact hown.2.2 b2 hlb2 e2
      ·obtain⟨l',hl',ho'⟩:=hf z' hz';obtain⟨e1,e2⟩:=h0.sep z.1 z.2 l z'.1 z'.2 l' hl ho hl' ho' k hkz hks;exact mz hap z' hz' (by rw[show z'=z from Prod.ext e1.symm e2.symm];exact hz)
    have hnd:bss.flatten.Nodup:=bz.2 λk=>by
     rw[hcnt k];have h5:=bz.1 (fP h0 hdis hk) k;have h6:(g.lend.map W0.β).count k<=1:=by
      exact Nat.le_trans List.count_le_length (by rw[List.length_map];exact hlen)
     by_cases h7:k∈g.lend.map W0.β
     ·have:(aU W0 g.kill).count k=0:=List.count_eq_zero.2 λhm=>by
       obtain⟨b',hb',e0⟩:=List.mem_map.1 h7;obtain⟨z,hz,hkz⟩:=fv.1 hm;obtain⟨l,hl,ho⟩:=hk z hz;exact (h0.ownb z.1 z.2 l hl ho k hkz).2.2 b' (hlv b' hb') e0
      omega
     ·have:(g.lend.map W0.β).count k=0:=List.count_eq_zero.2 h7;omega
    have hcalls:=hsound w (bi V W0 g.p g.frz) g.val vs bss y (hargs.mono (λ_ h=>h) hseen) (λk hks=>hseen k (la hV k hks)) hnd hy;have hbox0:fG S0 d c.rs=true:=by
     unfold fG at hbox ⊢;split at hbox
     ·rcases hsh0 (B0+d) with e0|e0
      ·rw[e0];exact hbox
      ·exact absurd e0 (by have:=gS.2.1;omega)
     ·exact hbox
    refine hcalls.mono λe w' hpost=>?_
    obtain⟨v,rfl,W1,hr1,hcs1,hls1,hheap,_⟩:=xe (Γ:=Γ) hV h0 hys hg hf hk hlv hdis hap hE hlen hio' hcnt hd hfix hbox0 hbv hpost;refine⟨v,rfl,?_⟩;refine hback W1 _ w' ?_ ?_
    ·have e1:=bm (lb S0 c d ys g y) U0 st;rw[hS0]at e1;rw[<- e1]at hr1;subst hS0;unfold lb at hr1;simp only[bm,List.append_assoc,List.cons_append]at hr1 ⊢;exact hr1
    ·intro q j hb;subst hb;obtain⟨u,hcT,hqT,hqE,i,off,p,E,e,xs',gg,cap,q1,q2,q3,q4⟩:=hbk;have hany:=hbio true q j rfl rfl;have hnl:g.lend=[]:=hio'.resolve_right (by rw[hany];simp);simp only[na,Bool.and_eq_true,Bool.not_eq_true']at hnf;obtain⟨⟨⟨hnf1,hnf2⟩,hnf3⟩,hnf4⟩:=hnf;have hqd:q≠d:=λe0=>by rw[e0]at hnf3;simp at hnf3
     have hqb:q≠B0+d:=λe0=>by rw[e0]at hnf4;simp at hnf4
     have hqk:(q,j)∉g.kill:=λhm=>by
      have:=List.any_eq_false.1 hnf1 _ hm;simp[gv]at this
     have hqf:(q,j)∉g.frz:=λhm=>by
      have:=List.any_eq_false.1 hnf2 _ hm;simp[gv]at this
     have hTd:TMP≠d:=by have:=hV.nt;have:=gS.1;omega
     have hTb:TMP≠B0+d:=by have:=gS.2.1;omega
     have hL:=hls1 q j hqd hqb (by rw[hnl];simp) hqf hqk;rw[q1]at hL;have hC:=hcs1 q hqd hqb (by rw[hnl];simp);have e1:=bm (lb S0 c d ys g y) U0 st;rw[hS0]at e1;have hgl:gg<w.heap.size:=h0.own_lt q1 trivial gg q3;have hgk:gg∉aU W0 g.kill:=λhm=>by
      obtain⟨z,hz,hkz⟩:=fv.1 hm;obtain⟨l,hl,ho⟩:=hk z hz;obtain⟨e1,e2⟩:=h0.sep z.1 z.2 l q j _ hl ho q1 trivial gg hkz q3;exact hqk (by rw[show (q,j)=z from Prod.ext e1.symm e2.symm];exact hz)
     have hcell:w'.cell? ⟨gg,i*e.cells+off,none⟩=some u:=by
      rw[jM (hheap gg hgl hgk (by rw[hnl];simp))];exact q4
     have hbs:gg∈W1.bs q j:=by
      have h9:=hr1.leaf q j _ _ hL (by rw[hC];exact q2);obtain⟨_,flat,bss',_,h10,_⟩:=h9;rw[h10];simp[Value.ownBlock]
     refine⟨u,by rw[hcs1 TMP hTd hTb (by rw[hnl];simp)];exact hcT,hqT,hqE,i,off,p,E,e,xs',gg,cap,?_,by rw[hC];exact q2,hbs,hcell⟩;have hL2:=hL;rw[<- e1]at hL2;subst hS0;unfold lb at hL2;simp only[bm,List.append_assoc,List.cons_append]at hL2 ⊢;exact hL2
  ·cases h
 ·cases h
end
end Go.Proofs.YtmcbmojdeikcdaaGreatEv
namespace Go.Proofs.YtmcbmojdeikcdaaGreatEv
open Go Go.RowKit
section
variable {P:Program} {V:Env} {Γ:List Ctr} {T:TypeId->TI} {st:St} {o:Oper} {R:Type} {κ:Upd->Option R} {r:R}
theorem mC {W:Wit}{a:Act}{w:World}(h:ao P V W st a w):∀ (l:List Operand),fV P V W st w (l.map (ar st)) (l.map a.eval)
 |[]=>rfl
 |x::l=>by
  obtain⟨cs,h1,h2⟩:=cB h x;exact⟨a.eval x,l.map a.eval,cs,rfl,h1,h2,mC h l⟩
theorem lX {W:Wit}{w:World}:∀ {xs ys:List (aG×List Leaf)} {vs us:List Value},fV P V W st w xs vs->fV P V W st w ys us->fV P V W st w (xs++ys) (vs++us)
 |[],_,_,_,h1,h2=>by rw[show _=_ from h1];exact h2
 |x::xs,_,_,_,⟨v,vs',cs,e,h3,h4,h5⟩,h2=>by
  subst e;exact⟨v,_,cs,rfl,h3,h4,lX h5 h2⟩
theorem pt {a:Act}{w:World}{c:Call}{x:Operand}{f:FuncId}{caps:Array Value}(hop:o.op=.call c)(hc:c.callee=.value x)(hv:a.eval x=.func (.func f) #[] caps)(he:kq P f){next:Act->World->Prop}{Q:Exit->Act->World->Prop}
  (hcalls:Calls P f (c.args.map a.eval++caps) w (λe w'=>∃ v,e=.returned v/\next (a.put o.dst v) w')):o.wp P a w next Q:=by
 unfold Oper.wp;have hrun:(execOp a.eval o).run P w=.ok (.enter f (c.args.map a.eval++caps)) w:=by
  have:=he (c.args.map a.eval++caps) w;simp[execOp,hop,resolve,hc,hv,Deferred.ofValue,invoke,this]
 rw[hrun,Oper.upon_enter];refine hcalls.mono λe w'=>?_
 rintro⟨v,rfl,hn⟩;exact hn
theorem j7 {p:Bool}:∀ {b:Ty} {x:b.den},b.flat=true->aq p b x=co p b x
 |.int _,_,_=>rfl
 |.bool,_,_=>rfl
 |.str,_,_=>rfl
 |.unit,_,_=>rfl
 |.hdr,_,_=>rfl
 |.pair a b,x,h=>by
  simp only[Ty.flat,Bool.and_eq_true]at h;simp only[aq,co,j7 h.1,j7 h.2]
 |.list _ _ _,_,h=>by simp[Ty.flat]at h
theorem p7 (hV:ax V){W:Wit}{a:Act}{w:World}(h:ao P V W st a w):∀ (As:List Ty) (xs:List (aG×List Leaf)) (vs:List Value) (x:Tup As),fV P V W st w xs vs->gG st As xs=some x ->
  qz w (λk=>k<w.heap.size) As x vs
 |[],[],vs,_,hx,_=>hx
 |[],_::_,_,_,_,hg=>by simp[gG]at hg
 |_::_,[],_,_,_,hg=>by simp[gG]at hg
 |b::As,x::xs,vs,z,⟨v,vs',cs,e,hs,hl,hrest⟩,hg=>by
  subst e;simp only[gG]at hg;cases hb:decide (x.1=be b.isAgg) with
  |false=>simp[hb]at hg
  |true =>
   simp only[hb,cond_true]at hg;have hb:=of_decide_eq_true hb;rw[hb]at hs;split at hg
   ·rename_i p y hy;simp only[Option.map_eq_some_iff]at hg;obtain⟨t,ht,rfl⟩:=hg;have hrd:=dU h hl hy;refine⟨v,cs,vs',rfl,fC hs,hrd.mono (λk hk=>?_),p7 hV h As xs vs' t hrest ht⟩;rcases hk with (hk|⟨_,hk⟩)|⟨z,hz,hk⟩
    ·exact (h.nwlt k hk).1
    ·exact Nat.lt_of_lt_of_le (hV.ro k hk).1 h.size
    ·obtain⟨l,h1,h2⟩:=dK hl hz;exact h.own_lt h1 h2 k hk
   ·cases hg
theorem vR (hV:ax V)(hΓ:∀ c∈Γ,ag P c)(hok:bF V o){c:Call}{f:Operand}(hop:o.op=.call c)(hc:c.callee=.value f)
  (h:act Γ T o st κ=some r):bP P V o st κ r:=by
 simp only[act,wrU,hop,hc]at h;split at h
 ·cases h
 ·rename_i d hd;split at h
  ·rename_i g caps hf;obtain⟨he,U,hU,hcalls⟩:=tq hV hΓ (hok d hd).1 (hok d hd).2 h;refine⟨U,hU,λW a w hr next Q hn=>?_⟩;obtain⟨hv,_,_,_,_⟩:=bk hr f (by rw[hf];simp);rw[hf]at hv;have hxs:=lX (mC hr c.args.toList) (qE (oI (P:=P) (V:=V) (W:=W) (w:=w) caps hv.2));rw[List.map_map]at hxs;have:=hcalls W a w hr _ hxs;have e:(c.args.toList.map a.eval++caps.map λb=>Value.pointer (some ⟨W.β b,0,none⟩)).toArray=c.args.map a.eval++(caps.map λb=>Value.pointer (some ⟨W.β b,0,none⟩)).toArray:=by
    apply Array.ext';simp
   rw[e]at this;refine pt hop hc hv.1 he (this.mono λe w'=>?_);rintro⟨v,rfl,hrel⟩;refine⟨v,rfl,hn _ _ ?_⟩;rw[hd];exact hrel
  ·rename_i g caps hf;obtain⟨he,U,hU,hcalls⟩:=tq hV hΓ (hok d hd).1 (hok d hd).2 h;refine⟨U,hU,λW a w hr next Q hn=>?_⟩;obtain⟨hv,_,_,_,_⟩:=bk hr f (by rw[hf];simp);rw[hf]at hv;obtain⟨us,hv,hlen,hcap⟩:=hv;have hxs:=lX (mC hr c.args.toList) (qE (po (st:=st) hlen hcap));rw[List.map_map]at hxs;have:=hcalls W a w hr _ hxs;have e:(c.args.toList.map a.eval++us).toArray=c.args.map a.eval++us.toArray:=by
    apply Array.ext';simp
   rw[e]at this;refine pt hop hc hv he (this.mono λe w'=>?_);rintro⟨v,rfl,hrel⟩;refine⟨v,rfl,hn _ _ ?_⟩;rw[hd];exact hrel
  ·rename_i As B φ hf;cases hb:B.flat with
   |false=>simp[hb]at h
   |true =>
    simp only[hb,cond_true]at h;split at h
    ·rename_i x hx;obtain⟨y,hy,h⟩:=Option.bind_eq_some_iff.1 h;simp only[hd]at h;refine⟨_,h,λW a w hr next Q hn=>?_⟩;obtain⟨hv,_,_,_,_⟩:=bk hr f (by rw[hf];simp);rw[hf]at hv;obtain⟨f',caps,hv,he,hcalls⟩:=hv;have htup:=p7 hV hr As _ _ x (mC hr c.args.toList) hx;have:=hcalls w hr.size hr.keep x _ y htup hy;have e:(c.args.toList.map a.eval).toArray=c.args.map a.eval:=by apply Array.ext';simp
     rw[e]at this;refine pt hop hc hv he (this.mono λe w'=>?_);rintro⟨u,cs,rfl,hvo,hrd,hbelow⟩;refine⟨u,rfl,hn _ _ ?_⟩;rw[hd];have hr2:=hr.below hV hbelow;have hls:=eq (P:=P) (V:=V) (W:=W) (st:=st) (G:=λ_=>False) (p:=false) (λ_ h=>h.elim) hrd;rw[<- j7 hb]at hls;exact hr2.putLs hV d (hok d hd).1 (hok d hd).2 _ _ _ u cs (Nat.lt_succ_self _) (i9 hvo) hls
    ·cases h
  ·cases h
theorem zp (hV:ax V)(hT:TOk P T)(hΓ:∀ c∈Γ,ag P c)(hok:bF V o)(h:act Γ T o st κ=some r):bP P V o st κ r:=by
 cases hop:o.op with
 |move x=>exact wX hV hok hop h
 |assign x=>exact ui hV hok hop h
 |pick c x y=>exact wY hV hok hop h
 |alloc t=>exact vK hV hT hok hop h
 |box t x=>exact yp hV hok hop h
 |build t parts=>exact vI hV hT hok hop h
 |buildSlice t n parts=>exact pj hV hT hok hop h
 |load t x=>exact w8 hV hT hok hop h
 |store t x y=>exact vM hV hT hop h
 |nilCheck x=>exact rH hV hok hop h
 |binOp op t x y t'=>exact vE hV hT hok hop h
 |unOp op t x=>exact wZ hV hok hop h
 |convert s t x=>exact sD hV hT hok hop h
 |makeSlice t n c=>exact qr hV hT hok hop h
 |slice t x lo hi mx=>exact vP hV hT hok hop h
 |fieldAddr t x f=>exact qp hV hT hok hop h
 |field t x f=>exact vH hV hT hok hop h
 |indexAddr t x i=>exact qq hV hT hok hop h
 |index t x i=>exact vG hV hT hok hop h
 |extract x i=>exact sA hV hok hop h
 |makeFunc fn first caps=>exact rI hV hok hop h
 |call c =>
  cases hc:c.callee with
  |value f=>exact vR hV hΓ hok hop hc h
  |builtin b =>
   cases b with
   |len=>exact yn hV hT hok hop hc h
   |append=>exact uo hV hT hok hop hc h
   |min=>exact yq hV hok hop hc h
   |max=>exact yt hV hok hop hc h
   |_ =>
    simp only[act,wrU,hop,hc]at h;split at h <;> cases h
  |_ =>
   simp only[act,wrU,hop,hc]at h;split at h <;> cases h
 |_=>simp[act,wrU,hop]at h
end
end Go.Proofs.YtmcbmojdeikcdaaGreatEv
