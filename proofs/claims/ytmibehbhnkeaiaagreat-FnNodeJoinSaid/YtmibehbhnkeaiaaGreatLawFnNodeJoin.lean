import Derived.Test.YtmibehbhnkeaiaaGreatP3
import Derived.Test.YtmibehbhnkeaiaaGreatP2
set_option linter.unusedVariables false
set_option linter.unusedSimpArgs false
open Bool renaming not_true->FK
open List renaming mem_append->FM,mem_append_right->FN,getElem_mem->FO,mem_map->FP
open Option renaming bind_some->FJ,bind->FL
namespace Go.Proofs.YtmibehbhnkeaiaaGreatEv
open Go
variable (K:Nat)
def FI (n:aa)(to:Int)(y:aa)(r:List aj):Prop:=UpN n/\n.2.2.1=false/\InP to 0 7/\to≠n.1/\ak to=ak n.1/\y=n/\r=[Fu n to]
theorem FD (n:aa)(to:Int)(M:NB n)(hK:Kb K):∃ y:aa,∃ H:List aj,NB y/\H.length<=1048576/\(∀ w∈H,(aj.table w).length<=1048576)/\Q242.f K (n,to,())=some ((y,H,()),())/\Q241.f K (n,to,())=some ((y,H,()),())/\(H=[]\/FI n to y H):=by
 obtain⟨b,Y,h2,h3⟩:=pm K n M hK;cases b with
 |false =>
  refine⟨mV,[],vD,by simp,by simp,?_,?_,.inl rfl⟩
  ·simp only[Q242.f];rw[Y];rfl
  ·simp only[Q241.f,Q240.f];rw[h2];rfl
 |true =>
  have none_:∀ (hj:Q238.f K (n,to,())=some (([],()),())) (hs:Q242.f K (n,to,())=some ((n,[],()),())),∃ y:aa,∃ H:List aj,NB y/\H.length<=1048576/\(∀ w∈H,(aj.table w).length<=1048576)/\Q242.f K (n,to,())=some ((y,H,()),())/\Q241.f K (n,to,())=some ((y,H,()),())/\(H=[]\/FI n to y H) :=
   λhj hs=>⟨n,[],M,by simp,by simp,hs,Fx K n to [] M h2 hj hK,.inl rfl⟩
  have u:=nS K n M hK;have r:Q238.f K (n,to,())=bif Fv n then (Q43.f K (n,to,())).bind λy2=>bif !y2.1.1 then some (([],()),()) else ((Q90.f K (n,4,to,())).bind λy3=>some (([y3.1.1],()),())) else some (([],()),()):=by
   simp only[Q238.f,Q51.f,Fv];cases n.2.1 with
   |false=>rfl
   |true=>cases n.2.2.1 <;> rfl
  obtain⟨X,ho,O⟩:=Br K n to;rw[ho,FC K n to M]at r;simp only[FJ]at r;cases J:n.2.1 with
  |false =>
   refine none_ (by rw[r];simp[Fv,J]) ?_;simp only[Q242.f];rw[Y];simp only[FJ,J];rw[u];rfl
  |true =>
   cases R:n.2.2.1 with
   |true =>
    refine none_ (by rw[r];simp[Fv,J,R]) ?_;simp only[Q242.f];rw[Y];simp only[FJ,J,R];rw[u];rfl
   |false =>
    have ha:Fv n=true:=by simp[Fv,J,R]
    rw[ha]at r;simp only[cond_true]at r;obtain⟨b1,e1,e2⟩:=cK K to 0 7;cases b1 with
    |false =>
     have Z:X=false:=by
      cases X with
      |false=>rfl
      |true=>exact absurd (e2.2 (O.1 rfl).1.1) (by decide)
     refine none_ (by rw[r,Z];rfl) ?_;simp only[Q242.f];rw[Y];simp only[FJ,J,R,FK,cond_false];rw[e1,u];rfl
    |true =>
     have a0:=e2.1 rfl;by_cases z:to=n.1
     ·have Z:X=false:=by
       cases X with
       |false=>rfl
       |true=>exact absurd z (O.1 rfl).2
      refine none_ (by rw[r,Z];rfl) ?_;simp only[Q242.f];rw[Y];simp only[FJ,J,R,FK,cond_false];rw[e1,u,show (to==n.1)=true by simpa using z];rfl
     ·by_cases I:ak to=ak n.1
      ·have Z:X=true:=O.2 ⟨⟨a0,I⟩,z⟩;refine⟨n,[Fu n to],M,by simp,λw hw=>?_,?_,Fx K n to _ M h2 (by rw[r,Z];rfl) hK,.inr ⟨UpN.of (h3.1 rfl) J,R,a0,z,I,rfl,rfl⟩⟩
       ·rw[List.mem_singleton]at hw;subst hw;exact M.table
       ·simp only[Q242.f];rw[Y];simp only[FJ,J,R,FK,cond_false];rw[e1,u,show (to==n.1)=false by simpa using z,de K to,de K n.1];simp only[FJ,FK,cond_false];rw[show (ak to != ak n.1)=false by simpa using I];simp only[cond_false];rw[show Q147.f K (n,4,to,0,n.1,n.2.2.2.2.2.2.2.2.1,())=_ from FB K n to M];rfl
      ·have Z:X=false:=by
        cases X with
        |false=>rfl
        |true=>exact absurd (O.1 rfl).1.2 I
       refine none_ (by rw[r,Z];rfl) ?_;simp only[Q242.f];rw[Y];simp only[FJ,J,R,FK,cond_false];rw[e1,u,show (to==n.1)=false by simpa using z,de K to,de K n.1];simp only[FJ,FK,cond_false];rw[show (ak to != ak n.1)=true by simpa using I];rfl
theorem FG (u:List Int)(z:zk u)(I:Kb K):Tot (Q236.f K (u,())) λr=>NS 9 r.1.1:=by
 obtain⟨H,y,e⟩:=CU (K:=K) u z.byte z.len;simp only[Q236.f];exact Tot.vl e (Tot.bind (EK y (bg.zero H) (by omega) I) λn ⟨J,M⟩=>Tot.bind (aD y M 10 (by decide) (by omega)) λv _=>Tot.ret J)
theorem FE {A B:List ah}(I:aE A)(y:aE B)(h:De A B):putAll A B=B:=by
 refine Dr (su I y.1).2 y.2 λg=>?_
 rw[Dq I y.1];constructor
 ·rintro⟨u,h2⟩;rcases FM.1 u with u|u
  ·obtain⟨H,r,e,M⟩:=h g u;have:=h2 H (FN _ r) e;rw[Dy (I.1 g u) (y.1 H r) e.symm (by omega)];exact r
  ·exact u
 ·intro J;refine⟨FN _ J,λx z e=>?_⟩;rcases FM.1 z with z|z
  ·obtain⟨H,r,O,M⟩:=h x z;rw[iT y.2 r J (O.trans e)]at M;exact M
  ·rw[iT y.2 z J e];exact Int.le_refl _
def Ft (k:Int)(n:aa)(to:Int):aj:=(1,k,n.1,to,0,n.1,aa.coord n,aa.table n)
theorem FA {n m:aa}(r:UpN n)(y:UpN m)(H:m.2.2.1=false){k:Int}(J:k=4\/k=5)(u:n.1≠m.1)(I:ak n.1=ak m.1):dz (Ft k n m.1)/\ge m (Ft k n m.1):=by
 have z:¬ k=6:=by omega
 refine⟨⟨show InP 1 1 2 from⟨by decide,by decide⟩,⟨show (1:Int)<=k by omega,show k<=6 by omega⟩,r.x.me,y.x.me,show InP 0 0 999999 from⟨by decide,by decide⟩,r.x.me,r.x.coord,r.x.table,?_⟩,y.up,H,rfl,u,?_⟩
 ·rw[if_neg (show ¬ (Ft k n m.1).2.1=6 from z)];exact r.x.site
 ·rw[if_neg (show ¬ (Ft k n m.1).1=2 from (by decide:¬ (1:Int)=2))];exact⟨I,.inl z⟩
theorem Fy {n m:aa}{k:Int}(h:dz (Ft k n m.1)/\ge m (Ft k n m.1))(r:k=4\/k=5) :
  bO K m (Ft k n m.1)=(gB m (aa.table n) n.1,if k=4 then [Ft 5 (gB m (aa.table n) n.1) n.1] else []):=by
 unfold bO;rw[if_pos h,if_neg (show ¬ (Ft k n m.1).2.1=6 from (by show ¬ k=6;omega))];rcases r with rfl|rfl
 ·rfl
 ·rfl
theorem FH {n m:aa}(u:UpN n)(Z:UpN m)(gn:n.2.2.1=false)(gm:m.2.2.1=false)(a1:n.1≠m.1)(hs:ak n.1=ak m.1)
  (h1:∀ f∈aa.table n,f.1=m.1->f.2.1<999) (h2:∀ f∈aa.table m,f.1=n.1->f.2.1<999) :
  De (aa.table (gB m (aa.table n) n.1)) (aa.table (gB n (aa.table (gB m (aa.table n) n.1)) m.1)) /\
  (∀ b∈aa.table (gB n (aa.table (gB m (aa.table n) n.1)) m.1),∃ f∈aa.table (gB m (aa.table n) n.1),f.1=b.1/\(b.1≠n.1->f=b)):=by
 have R:∀ f∈aa.table n,bw f/\ak f.1=ak m.1:=λf r=>⟨u.x.table.1 f r,(u.x.site f r).trans hs⟩
 have H:fX m n.1:=⟨u.x.me,hs⟩;obtain⟨M,y2,y3⟩:=jP Z gm u.x.table (λf r=>(R f r).2) H;have sy:=DD (b:=n.1) (aa.table n) m Z gm R H;have ay:=Di (b:=n.1) (aa.table n) m (aa.table m) Z gm R H (Dd.refl Z.x.table);generalize gB m (aa.table n) n.1=y at *;have J:∀ f∈aa.table y,bw f/\ak f.1=ak n.1:=λf r=>⟨M.x.table.1 f r,(M.x.site f r).trans ((congrArg ak y2).trans hs.symm)⟩
 have I:fX n m.1:=⟨Z.x.me,hs.symm⟩;have sz:=DD (b:=m.1) (aa.table y) n u gn J I;have az:=Di (b:=m.1) (aa.table y) n (aa.table n) u gn J I (Dd.refl u.x.table);have kz:=DI (b:=m.1) (aa.table y) n u gn J I;obtain⟨z1,z2,z3⟩:=jP u gn M.x.table (λf r=>(J f r).2) I;generalize gB n (aa.table y) m.1=z at *;have ny:∀ f∈aa.table n,∃ g∈aa.table y,g.1=f.1/\rk f<=rk g:=λf r=>by
  obtain⟨g,X,e,h|⟨Y,h⟩⟩:=sy f r
  ·exact⟨g,X,e,h⟩
  ·exact absurd (h1 f r (Y.trans y2)) h
 have yz:De (aa.table y) (aa.table z):=λf r=>by
  obtain⟨g,X,e,h|⟨Y,h⟩⟩:=sz f r
  ·exact⟨g,X,e,h⟩
  ·have Y:f.1=n.1:=Y.trans z2;have hb:=(Dq Z.x.table u.x.table.1 f).1 ((ay.same f (by rw[Y];exact a1)).1 r);rcases FM.1 hb.1 with O|O
   ·exact absurd (h2 f O Y) h
   ·obtain⟨g',a0,e1,hr⟩:=kz f O;exact⟨g',a0,e1,hr⟩
 refine⟨yz,λb hb=>?_⟩;obtain⟨f,r,ef⟩:∃ f∈aa.table y,f.1=b.1:=by
  have hk:b.1∈(putAll (aa.table n) (aa.table y)).map (·.1):=by rw[<- az.keys];exact FP.2 ⟨b,hb,rfl⟩
  obtain⟨c,hc,ec⟩:=FP.1 hk;rcases FM.1 ((Dq u.x.table M.x.table.1 c).1 hc).1 with h|h
  ·obtain⟨g,X,e,_⟩:=ny c h;exact⟨g,X,e.trans ec⟩
  ·exact⟨c,h,ec⟩
 refine⟨f,r,ef,λH=>?_⟩;have hB:=(Dq u.x.table M.x.table.1 b).1 ((az.same b H).1 hb);have h3:=hB.2 f (FN _ r) ef;rcases FM.1 hB.1 with h|h
 ·obtain⟨g,X,e,hr⟩:=ny b h;rw[iT M.x.table.2 X r (e.trans ef.symm)]at hr;exact Dy (M.x.table.1 f r) (u.x.table.1 b h) ef (by omega)
 ·exact iT M.x.table.2 r h ef
theorem Fz (t:List ah)(i:Int)(I:t.length<=1048576)(z:Kb K):∃ (v:ah) (b:Bool),Q243.f K (t,i,())=some ((v,b,()),())/\(aE t->∀ f∈t,f.1=i->v=f):=by
 obtain⟨o,X,M⟩:=fT K t i I z;obtain⟨b,O,R⟩:=gW K t I z;simp only[Q243.f];rw[M];simp only[FJ];rw[O];simp only[rb,FJ];cases b with
 |false=>exact⟨_,_,rfl,λr=>by have:=R.2 r;cases this⟩
 |true =>
  simp only[FK,cond_false];cases X with
  |no y=>exact⟨_,_,rfl,λ_ f u e=>absurd e (y f u)⟩
  |at_ j H e =>
   simp only;rw[decide_eq_false (by omega:¬ ((j:Nat):Int)<0),af H];exact⟨t[j],true,rfl,λr f u J=>iT r.2 (FO H) u (e.trans J.symm)⟩
theorem x9c {A:Type}{b:Bool}{x y r:A}(h:b=true)(k:x=r):(bif b then x else y)=r:=by rw[h];exact k
theorem x9a {A B:Type}{o:Option A}{a:A}{f:A->Option B}{r:Option B}(h:o=some a)(k:f a=r):o.bind f=r:=by rw[h];exact k
theorem x9b {A:Type}{b:Bool}{x y r:A}(h:b=false)(k:y=r):(bif b then x else y)=r:=by rw[h];exact k
set_option maxHeartbeats 1000000 in
theorem Fw (u H:List Int)(hc:zk u)(hm:zk H)(I:Kb K):Q244.f K (u,H,())=some ((true,()),()):=by
 simp only[Q244.f,Q244.pre,zc3ec45,zcf8680];by_cases h:(u.length:Int)>1048576
 ·rw[decide_eq_true h];rfl
 rw[decide_eq_false h];simp only[cond_false];by_cases h':(H.length:Int)>1048576
 ·rw[decide_eq_true h'];rfl
 rw[decide_eq_false h'];simp only[cond_false];obtain⟨⟨⟨n,to,⟨⟩⟩,⟨⟩⟩,e0,hn⟩:=FG K u hc I;have hn:NS 9 n:=hn;obtain⟨⟨⟨m,⟨⟩⟩,⟨⟩⟩,aw,M⟩:=FF K H hm I;have M:NS 9 m:=M;rw[e0,aw];simp only[FJ];obtain⟨x,ws,hx,x1,x2,x3,x4,x5⟩:=FD K n to hn.nb I;rw[x4];simp only[FJ];rw[x3];simp only[FJ];rw[vP K x hx I];simp only[rb,FJ,FK,cond_false];rw[uJ K ws x1 x2 I];simp only[rb,FJ,FK,cond_false];obtain⟨ok,o1,o2,o3⟩:=pm K n hn.nb I;rw[o1,o2];simp only[rb,FJ,bne_self_eq_false,cond_false];obtain⟨b6,b1,b3,b4⟩:=Fz K (aa.table n) to hn.nb.table I;obtain⟨a9,b2,t3,t4⟩:=Fz K (aa.table m) n.1 M.nb.table I;refine bT' b3 ?_;simp only[FJ];refine bT' t3 ?_;simp only[FJ];rcases x5 with rfl|⟨X,hg,ba,a6,O,rfl,rfl⟩
 ·rfl
 refine Z2 (show (((([Fu x to]:List aj).length:Nat):Int) != 1)=false from rfl) ?_;simp only[cond_false];by_cases a3:m.1=to
 case neg=>rw[show (m.1 != to)=true by simpa using a3];rfl
 rw[show (m.1 != to)=false by simpa using a3];simp only[cond_false];obtain⟨k,k1,_,k3⟩:=pm K m M.nb I;rw[k1];simp only[rb,FJ];cases k with
 |false=>rfl
 |true =>
  simp only[FK,cond_false];rcases Bool.eq_false_or_eq_true m.2.1 with hu|hu
  case inr=>exact (congrArg (λb=>bif !b then _ else _) hu).trans rfl
  refine (congrArg (λb=>bif !b then _ else _) hu).trans ?_;simp only[FK,cond_false];rcases Bool.eq_false_or_eq_true m.2.2.1 with J|J
  ·exact (congrArg (λb=>bif b then _ else _) J).trans rfl
  refine (congrArg (λb=>bif b then _ else _) J).trans ?_;simp only[cond_false];by_cases ho:b6.2.1>=999
  ·exact x9c (decide_eq_true ho) rfl
  refine x9b (decide_eq_false ho) ?_;by_cases hi:a9.2.1>=999
  ·exact x9c (decide_eq_true hi) rfl
  refine x9b (decide_eq_false hi) ?_;have hM:=UpN.of (k3.1 rfl) hu;subst a3;have a7:x.1≠m.1:=λe=>a6 e.symm
  have w1:=FA X hM J (k:=4) (.inl rfl) a7 O.symm;have w2:=Fy K w1 (.inl rfl);obtain⟨y,us,hy,y2,y3,_⟩:=EQ K m (Ft 4 x m.1) M.nb hn.nb.table I;obtain⟨y4,y5⟩:=y3 ⟨hM.ok,w1.1,w1.2⟩;rw[w2]at y4 y5;obtain⟨Z,l2,l3⟩:=jP hM J X.x.table (λf Y=>(X.x.site f Y).trans O.symm) (b:=x.1) ⟨X.x.me,O.symm⟩;obtain⟨j1,j2⟩:=FH X hM hg J a7 O.symm (λf Y e=>by rw[<- b4 X.x.table f Y e];omega) (λf Y e=>by rw[<- t4 hM.x.table f Y e];omega);have y4:y=gB m (aa.table x) x.1:=y4;rw[<- y4]at Z l2 l3 j1 j2;have y5:us=[Ft 5 y x.1]:=by rw[y4];exact y5
  subst y5;have a8:y.1≠x.1:=λe=>a6 (l2.symm.trans e)
  have a2:ak y.1=ak x.1:=(congrArg ak l2).trans O;have v1:=FA Z X hg (k:=5) (.inr rfl) a8 a2;have v2:=Fy K v1 (.inr rfl);obtain⟨z,vs,hz,z2,z3,_⟩:=EQ K x (Ft 5 y x.1) hn.nb hy.table I;obtain⟨z4,z5⟩:=z3 ⟨X.ok,v1.1,v1.2⟩;rw[v2]at z4 z5;have z4:z=gB x (aa.table y) y.1:=z4;have z5:vs=[]:=z5;subst z5;obtain⟨r1,r2,r3⟩:=jP X hg Z.x.table (λf Y=>(Z.x.site f Y).trans a2) (b:=y.1) ⟨Z.x.me,a2⟩;rw[<- z4]at r1;rw[<- l2]at j1 j2;rw[<- z4]at j1 j2;have b0:=FE Z.x.table r1.x.table j1;refine x9a (show idx [Fu x m.1] 0=some (Ft 4 x m.1) from rfl) ?_;refine x9a (show idx [Fu x m.1] ((Int.toNat 0:Nat):Int)=some (Ft 4 x m.1) from rfl) ?_;refine x9a y2 ?_;refine x9b (show (((([Ft 5 y x.1]:List aj).length:Nat):Int) != 1)=false from rfl) ?_;have ix:idx [Ft 5 y x.1] 0=some (Ft 5 y x.1):=rfl;have a4:idx [Ft 5 y x.1] ((Int.toNat 0:Nat):Int)=some (Ft 5 y x.1):=rfl;refine x9a ix ?_;refine x9a a4 ?_;refine x9b (show ((Ft 5 y x.1).2.1 != 5)=false from rfl) ?_;refine x9a ix ?_;refine x9a a4 ?_;refine x9b (show ((Ft 5 y x.1).2.2.2.1 != x.1)=false from bne_self_eq_false x.1) ?_;refine x9a ix ?_;refine x9a a4 ?_;refine x9a z2 ?_;refine x9b (show (((([]:List aj).length:Nat):Int) != 0)=false from rfl) ?_;refine x9a (show Q54.f K (aa.table y,aa.table z,())=some ((aa.table z,()),()) by rw[Cz K _ _ Z.x.table r1.x.table I,b0]) ?_;have ay:=Z.x.table;have a5:=r1.x.table;have hl:=cf a5;refine fV (k:=K) (step:=Q244.s0 K (u,H,())) (aa.table z).length (λi=>(aa.table z,(i:Int),_)) (some ((true,()),())) ?_ ?_ (by omega)
  ·intro rec i hi;have hm:=FO hi;have r:idx (aa.table z) (i:Int)=some (aa.table z)[i]:=af hi;obtain⟨f,Y,ef,az⟩:=j2 _ hm;have ad:=Dt K ay Y I;rw[ef]at ad;have b5:=Dt K a5 hm I;simp only[Q244.s0];rw[ar i (by omega)];refine (congrArg (λb=>bif b then _ else _) (bt (Int.ofNat_lt.2 hi))).trans ?_;simp only[cond_true,Int.toNat_natCast];refine bT' r ?_;simp only[FJ];refine bT' r ?_;simp only[FJ];refine bT' ad ?_;simp only[FJ];refine bT' r ?_;simp only[FJ];refine bT' r ?_;simp only[FJ];refine bT' b5 ?_;simp only[FJ,FK,cond_false];refine bT' r ?_;simp only[FJ];refine bT' r ?_;simp only[FJ];have a0:∀ R:Option Q244.Res,((idx (aa.table z) (i:Int)).bind λ_=>(idx (aa.table z) (i:Int)).bind λb9=>bif !Ty.eqv t2 (aa.table z)[i] b9 then some ((false,()),()) else R)=R:=λR=>by
    rw[r];simp only[FJ];rw[show Ty.eqv t2 (aa.table z)[i] (aa.table z)[i]=decide ((aa.table z)[i]=(aa.table z)[i]) from iE _ _,decide_eq_true rfl];rfl
   by_cases a1:(aa.table z)[i].1=x.1
   ·refine Z2 (show ((aa.table z)[i].1 != x.1)=false by simp[a1]) ?_;exact a0 _
   ·refine Z2 (show ((aa.table z)[i].1 != x.1)=true by simpa using a1) ?_;simp only[cond_true];refine bT' r ?_;simp only[FJ];refine bT' r ?_;simp only[FJ];obtain rfl:=az a1;refine (congrArg (λb=>bif !b then _ else _) (show Ty.eqv t2 (aa.table z)[i] (aa.table z)[i]=true by rw[show Ty.eqv t2 (aa.table z)[i] (aa.table z)[i]=decide ((aa.table z)[i]=(aa.table z)[i]) from iE _ _,decide_eq_true rfl])).trans ?_;exact a0 _
  ·intro rec;simp only[Q244.s0];exact (congrArg (λb=>bif b then _ else _) (aS _)).trans rfl
end Go.Proofs.YtmibehbhnkeaiaaGreatEv
