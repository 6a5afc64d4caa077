/- slices.DeleteFunc: from what its walk says to its contract; the headers of a copy. -/
import Derived.Test.YtaegajachoklkaaGreatEvQ
set_option linter.unusedVariables false
set_option linter.unusedSimpArgs false
open Bool renaming false_eq_true->BG
open Go.Value renaming ownBlock->BR
open List renaming getElem?_eq_getElem->AT,append_nil->AV,flatten_cons->AW,flatten_nil->AX,length_map->AY,getElem?_eq_none->BB,mem_append_right->BC,mem_append_left->BD,getElem?_take->BE,getElem?_drop->BF,flatMap_cons->BJ,ext_getElem?->BK,nodup_append->BL,getElem?_map->BM,filter_cons->BN,filter_nil->BO,length_nil->BP,nil_append->BQ
open List.Sublist renaming refl->AZ
open List.cons renaming injEq->BA
open Nat renaming lt_of_lt_of_le->BH
open Option renaming map_eq_some_iff->AU
open Option.some renaming injEq->BI
namespace Go.Proofs.YtaegajachoklkaaGreatEv
open Go Go.RowKit
def gl (s:Nat)(del:Nat->Bool)(flat:List Value):Nat->List Value
 |0=>[]
 |j+1=>gl s del flat j++(if del j=true then [] else (flat.drop (j*s)).take s)
def dE (del:Nat->Bool):Nat->Nat
 |0=>0
 |j+1=>dE del j+(if del j=true then 0 else 1)
theorem rA {α:Type}{u:α×Unit->Option Bool}:∀ {xs r:List α},o6 u xs=some r->(∀ x∈xs,∃ b,u (x,())=some b)/\r=xs.filter (λx=>!decide (u (x,())=some true))
 |[],r,h=>by
  simp only[o6,BI]at h;subst h;exact⟨by simp,rfl⟩
 |x::xs,r,h=>by
  simp only[o6]at h;obtain⟨b,H,h⟩:=Option.bind_eq_some_iff.1 h;obtain⟨O,I,rfl⟩:=AU.1 h;obtain⟨M,J⟩:=rA I;subst J;refine⟨λy z=>?_,?_⟩
  ·rcases List.mem_cons.1 z with rfl|z
   ·exact⟨b,H⟩
   ·exact M y z
  ·cases b <;> simp[H]
theorem oe {f g:Nat->List Nat}(h:∀ j,(f j).Sublist (g j)):∀ l:List Nat,(l.flatMap f).Sublist (l.flatMap g)
 |[]=>AZ _
 |a::l=>by
  rw[BJ,BJ];exact (h a).append (oe h l)
theorem yI {w:World}{G:Nat->Prop}{e:Ty}{xs:List e.den}{flat:List Value}{B:List Nat}(H:Els w G e xs flat B)(p:e.den->Bool)(del:Nat->Bool)(u:∀ (j:Nat) (x:e.den),xs[j]?=some x->del j=p x) :
  ∃ Y,Els w G e (xs.filter λx=>!p x) (gl e.cells del flat xs.length) Y/\Y.Sublist B/\(xs.filter λx=>!p x).length=dE del xs.length:=by
 obtain⟨z,hB,hx⟩:=H.to;have M:∀ j,j<=xs.length->Els w G e ((xs.take j).filter λx=>!p x) (gl e.cells del flat j) ((List.range j).flatMap λi=>if del i=true then [] else z i)/\((xs.take j).filter λx=>!p x).length=dE del j:=by
  intro j;induction j with
  |zero=>intro _;exact⟨⟨rfl,rfl⟩,rfl⟩
  |succ j ih =>
   intro hj;have r:j<xs.length:=by omega
   obtain⟨I,y⟩:=ih (by omega);obtain⟨c,X,h4⟩:=hx j xs[j] (AT r);have R:=u j xs[j] (AT r);have hc:(flat.drop (j*e.cells)).take e.cells=c:=by
    refine BK λi=>?_
    rw[BE];split
    ·rename_i Z;have O:i<c.length:=by rw[X.len];exact Z
     rw[BF,h4 i c[i] (AT O),AT O]
    ·rename_i Z;exact (BB (by rw[X.len];omega)).symm
   rw[List.take_add_one,AT r,List.filter_append,List.range_succ,List.flatMap_append,List.length_append];simp only[gl,dE,List.flatMap_singleton,Option.toList_some,hc];cases J:del j with
   |true =>
    rw[J]at R;simp only[if_true,AV,BN,<- R,Bool.not_true,BG,if_false,BO,BP];exact⟨I,y⟩
   |false =>
    rw[J]at R;simp only[BG,if_false,BN,<- R,Bool.not_false,if_true,BO,List.length_cons,BP,y];exact⟨I.append ⟨c,z j,[],[],by simp,by simp,X,rfl,rfl⟩,trivial⟩
 obtain⟨I,y⟩:=M xs.length (Nat.le_refl _);rw[List.take_length]at I y;refine⟨_,I,?_,y⟩;rw[hB];exact oe (λj=>by split <;> simp) _
structure uQ (P:Program) (f idx:FuncId) (E:TypeId) (s:Nat):Prop where
 none_:∀ (w:World) (v0 fv:Value) (n:Nat) (flat:List Value),Row w E s v0 n flat->Calls P idx #[v0,fv] w (λe w'=>e=.returned (.int .i64 (-1))/\Below w.heap.size w w') ->
  Calls P f #[v0,fv] w λe w'=>e=.returned v0/\Below w.heap.size w w'
 some_:∀ (w:World) (g n cap:Nat) (flat:List Value) (fi:FuncId) (caps:Array Value) (del:Nat->Bool) (p0:Nat),Row w E s (.slice (some ⟨g,0,none⟩) n cap) n flat->(∀ u∈flat,u.oneCell'=true)->gv P fi->p0<n->del p0=true->(∀ j,j<p0->del j=false) ->
  (∀ w1:World,w.heap.size<=w1.heap.size->(∀ k,k<w.heap.size->k≠g->w1.heap[k]?=w.heap[k]?)->∀ j,j<n->Calls P fi (#[.agg ((flat.drop (j*s)).take s).toArray]++caps) w1 (λe w2=>e=.returned (.bool (del j))/\Below w1.heap.size w1 w2)) ->
  Calls P idx #[.slice (some ⟨g,0,none⟩) n cap,.func (.func fi) #[] caps] w (λe w'=>e=.returned (.int .i64 p0)/\Below w.heap.size w w') ->
  Calls P f #[.slice (some ⟨g,0,none⟩) n cap,.func (.func fi) #[] caps] w λe w'=>∃ v',e=.returned v'/\Row w' E s v' (dE del n) (gl s del flat n)/\w.grownBy w' (some g)/\v'.ownBlock=some g
def qz {α β:Type}(xs:List α)(r:α×Unit->Option Bool)(o:Option ((Int×Unit)×β)):Prop :=
 ((∀ x∈xs,r (x,())=some false)/\∃ u,o=some ((-1,()),u)) \/
 ∃ p x u,xs[p]?=some x/\r (x,())=some true/\(∀ j y,j<p->xs[j]?=some y->r (y,())=some false)/\o=some ((((p:Nat):Int),()),u)
theorem zY {A u:Type}(h:A=u)(cv:A->u)(r:∀ x,HEq x (cv x))(xs:List A):HEq xs (xs.map cv):=by
 subst h;have:cv=id:=funext λx=>(eq_of_heq (r x)).symm
 subst this;simp
theorem tG {P:Program}{f idx:FuncId}{E:TypeId}{e e':Ty}{M f2:Bool}{cv:e.den->e'.den}(dd:∀ x,HEq x (cv x))(c1:e.sh=e'.sh)
  {b4:ab [PK.rd (.list false E e'),PK.fn [e'] .bool]->Option (ah [RK.v (.int .i64)]×ag [PK.rd (.list false E e'),PK.fn [e'] .bool])}
  (hE:gv P f) (hd:e.shy=false) (cp:e'.isAgg=true) (d5:bT P ⟨idx,[.rd (.list false E e'),.fn [e'] .bool],[.v (.int .i64)],f2,b4⟩)
  (cc:∀ (xs:List e'.den) (Y:Tup [e']->Option Bool),xs.length<=1048576->(∀ x∈xs,∃ b,Y (x,())=some b)->qz xs Y (b4 (xs,Y,())))
  (ad:uQ P f idx E e.cells) :
  bT P ⟨f,[.own (.list true E e),.fn [e'] .bool],[.v (.list true E e)],M,λx=>la e x.1 (λy=>x.2.1 (cv y.1,()))⟩:=by
 refine⟨hE,?_⟩;intro w ro x vs ba y c0 cy b5 hy;obtain⟨xs,Y,_⟩:=x;obtain⟨v0,g1,b0,fd,rfl,rfl,⟨f0,bx,c3⟩,v1,g3,b1,fo,rfl,rfl,⟨f3,a2⟩,rfl,rfl⟩:=c0;have bx:f0=[v0]:=bx;subst bx f3;have d2:=c3;rw[bB (by simp)]at c3;obtain⟨u0,e0,H0⟩:=c3;simp only[BA,and_true]at e0;subst e0;obtain⟨H,B0,r0,X,l0⟩:=qy H0;have a2:gT P w (λk=>k<w.heap.size/\k∉([b0,[]]:List (List Nat)).flatten) [e'] .bool Y v1:=a2;have hy:la e xs (λy=>Y (cv y.1,()))=some y:=hy;simp only[AW,AX,AV]at b5 cy a2 ⊢;unfold la at hy;split at hy
 rotate_left
 ·cases hy
 rename_i d4;obtain⟨ys,c4,rfl⟩:=AU.1 hy;obtain⟨a4,rfl⟩:=rA c4;simp only at a4;have a1:∀ k∈b0,k<w.heap.size:=H0.lt;have hT:e.den=e'.den:=je c1;have bn:qz (xs.map cv) Y (b4 (xs.map cv,Y,())):=cc _ _ (by rw[AY];exact d4) (λx hx=>by
  obtain⟨x',ef,rfl⟩:=List.mem_map.1 hx;exact a4 x' ef)
 have f7:Rd w (λk=>k<w.heap.size) (.list false E e') (xs.map cv) [v0] :=
  Rd.flags (a:=.list true E e) (by simp only[Ty.sh,c1]) (zY hT cv dd xs) (Mx.rd (λk r=>(cy k r).1) a1 d2)
 have Z:∀ (i:Int) (u:ag [PK.rd (.list false E e'),PK.fn [e'] .bool]),b4 (xs.map cv,Y,())=some ((i,()),u)->Calls P idx #[v0,v1] w (λe w'=>e=.returned (.int .i64 i)/\Below w.heap.size w w'):=by
  intro i u hi;have:=d5.2 w (λk=>k<w.heap.size) (xs.map cv,Y,()) [v0,v1] [[],[]] _
   ⟨v0,[v1],[],[[]],rfl,rfl,⟨rfl,[v0],rfl,f7⟩,v1,[],[],[],rfl,rfl,⟨rfl,gT.mono (λk r=>⟨r.1,by simp⟩) a2⟩,rfl,rfl⟩
   (λk r=>⟨r,by simp⟩) (by simp) hi
  refine this.mono λe w' hp=>?_
  obtain⟨v,us,N,fc,fv,rfl,a5,et,eg,ed,ev,em,_,_,cw,_,_⟩:=hp;refine⟨?_,⟨eg,ed,ev,et,λk r=>em k r (by simp)⟩⟩;obtain⟨u,fr,b,f8,e1,e2,⟨cs,O,hm⟩,e3,e4⟩:=cw;subst e3;subst e1;have a5:v=u:=a5;subst a5;have O:cs=[v]:=O;have hm:cs=[.int .i64 i]:=hm.1;rw[O]at hm;simp only[BA,and_true]at hm;rw[hm]
 have a3:∀ (ys:List e.den) (v':Value) (w':World) (b2:List Value) (B':List Nat),Row w' E e.cells v' ys.length b2->w.grownBy w' v0.ownBlock->v'.ownBlock=v0.ownBlock->Els w (λ_=>False) e ys b2 B'->B'.Sublist B0 ->
   tc ⟨f,[.own (.list true E e),.fn [e'] .bool],[.v (.list true E e)],M,λx=>la e x.1 (λy=>x.2.1 (cv y.1,()))⟩ w ro [v0,v1] [b0,[]] ((ys,()),()) (.returned v') w':=by
  intro ys v' w' b2 B' r' z a6 L a0;have I:b0.Nodup:=b5;have hB:∀ k∈B',w'.heap[k]?=w.heap[k]?:=λk r=>by
   have dc:k∈B0:=a0.subset r;refine z.block k (a1 k (by rw[X];exact BC _ dc)) λh=>?_
   rw[X]at I;exact (BL.1 I).2.2 k (by rw[<- h];simp) k dc rfl
  have L':Els w' (λk=>False\/(M=false/\ro k)) e ys b2 B':=L.carry (λ_ h=>h.elim) (λ_ h=>h.elim) hB;have R:=uP r' L';rw[a6]at R;have J:(v0.ownBlock.toList++B').Sublist b0:=by rw[X];exact (AZ _).append a0
  refine⟨v',[v'],λ_=>False,[[],[]],[v0.ownBlock.toList++B'],rfl,rfl,z.size,z.os,z.tape,z.output,?_,?_,?_,?_,?_,?_⟩
  ·intro k r hn;refine z.block k r (λh=>hn ?_);simp only[AW,AX,AV];rw[X];exact BD _ (by rw[<- h];simp)
  ·intro k h;exact h.elim
  ·exact⟨rfl,rfl,trivial⟩
  ·refine⟨v',[],_,[],rfl,rfl,⟨[v'],rfl,?_⟩,rfl,rfl⟩;rw[bB (by simp)];exact⟨v',rfl,R⟩
  ·simp only[AW,AX,AV,BQ];exact b5.sublist J
  ·intro k r;simp only[AW,AX,AV,BQ]at r;refine⟨⟨BH (a1 k (J.subset r)) z.size,.inr ?_⟩,λh=>h⟩;simp only[AW,AX,AV];exact J.subset r
 have c2:Els w (λ_=>False) e xs H B0:=l0.deep hd;rcases bn with ⟨f5,u,hi⟩|⟨p,x,u,hx,ex,b9,hi⟩
 ·have c4:xs.filter (λx=>!decide (Y (cv x,())=some true))=xs:=by
   rw[List.filter_eq_self];intro a ha;rw[f5 (cv a) (List.mem_map_of_mem ha)];simp
  refine (ad.none_ w v0 v1 xs.length H r0 (Z _ _ hi)).mono λen w'=>?_
  rintro⟨rfl,hb⟩;rw[c4];exact a3 xs v0 w' H B0 (r0.same (λk r=>hb.block k (r0.lt k r))) ⟨hb.os,hb.tape,hb.output,hb.size,λk r _=>hb.block k r⟩ rfl c2 (AZ _)
 ·obtain⟨fi,d1,rfl,f6,bl⟩:=a2;have b3:p<xs.length:=by
   have:=(List.getElem?_eq_some_iff.1 hx).1
   rwa [AY]at this
  have f1:=r0;rcases r0.2 with ⟨_,h⟩|⟨g,ej,fz,mk,rfl,hg,g2,fl,fx,f4⟩
  ·exact absurd b3 (by rw[h];omega)
  obtain⟨ba,hB,es⟩:=c2.to;have I:b0.Nodup:=b5;rw[X]at I;have e7:∀ k∈B0,k≠g:=λk r h=>(BL.1 I).2.2 g (by simp[BR]) k r h.symm
  have c5:∀ (j:Nat) (x:e.den),xs[j]?=some x->(λj=>match xs[j]? with|some x=>decide (Y (cv x,())=some true)|none=>false) j=decide (Y (cv x,())=some true):=λj x hj=>by simp only[hj]
  obtain⟨B',L,a0,eb⟩:=yI c2 (λx=>decide (Y (cv x,())=some true)) _ c5;have bb:∀ j,(xs.map cv)[j]?=(xs[j]?).map cv:=λj=>BM
  refine (ad.some_ w g xs.length ej H fi d1 (λj=>match xs[j]? with|some x=>decide (Y (cv x,())=some true)|none=>false) p f1 l0.one f6 b3 ?_ ?_ ?_ (Z _ _ hi)).mono λen w'=>?_
  ·rw[bb,AT b3,Option.map_some,BI]at hx;simp only[AT b3,hx,ex,decide_true]
  ·intro j hj;have e5:j<xs.length:=by omega
   have:=b9 j (cv xs[j]) hj (by rw[bb,AT e5];rfl);simp only[AT e5,this];simp
  ·intro w1 cx c6 j hj;have cb:=AT hj;obtain⟨c,h3,h4⟩:=es j xs[j] cb;have hc:(H.drop (j*e.cells)).take e.cells=c:=by
    refine BK λi=>?_
    rw[BE];split
    ·rename_i hi;have d3:i<c.length:=by rw[h3.len];exact hi
     rw[BF,h4 i c[i] (AT d3),AT d3]
    ·rename_i hi;exact (BB (by rw[h3.len];omega)).symm
   rw[hc];have d6:∀ k∈ba j,k∈B0:=λk r=>by rw[hB];exact dG.2 ⟨j,hj,r⟩
   have e6:∀ k∈ba j,k<w.heap.size:=λk r=>a1 k (by rw[X];exact BC _ (d6 k r))
   have M1:Mx w1 (λ_=>False) e none 0 xs[j] c (ba j):=h3.carry (λ_ h=>h) (λ_ h=>h.elim) (λk r=>c6 k (e6 k r) (e7 k (d6 k r)));have R1:Rd w1 (λk=>k<w1.heap.size) e' (cv xs[j]) c:=Rd.flags c1 (dd _) (Mx.rd (λ_ h=>h.elim) (λk r=>BH (e6 k r) cx) M1);obtain⟨b,hb⟩:=a4 xs[j] (List.getElem_mem hj);have:=bl w1 cx (λk r=>c6 k r.1 (λh=>r.2 (by rw[h,X];exact BD _ (by simp[BR])))) (cv xs[j],()) [.agg c.toArray] b ⟨.agg c.toArray,c,[],rfl,by unfold cQ;rw[cp];rfl,R1,rfl⟩ hb;refine Calls.mono (h:=this) λe2 w2 hp=>?_
   obtain⟨u,cu,rfl,O,a9,ec⟩:=hp;have O:cu=[u]:=O;have a9:cu=[.bool b]:=a9;rw[O]at a9;simp only[BA,and_true]at a9;refine⟨?_,ec⟩;rw[a9];simp only[cb,hb];cases b <;> simp
  ·rintro⟨v',rfl,r',z,a6⟩;rw[<- eb]at r';exact a3 _ v' w' _ B' r' z a6 L a0
theorem mn:∀ a:Ty,a.hd.cells=a.cells
 |.pair a b=>by show a.hd.cells+b.hd.cells=a.cells+b.cells;rw[mn a,mn b]
 |.list _ _ _=>rfl
 |.int _=>rfl
 |.bool=>rfl
 |.str=>rfl
 |.unit=>rfl
 |.hdr=>rfl
theorem Mx.hd {w w':World}{G G':Nat->Prop}:∀ {a:Ty} {pos:Nat} {x:a.den} {cs:List Value} {bs:List Nat},a.sh=a->Mx w G a none pos x cs bs->Mx w' G' a.hd none pos (hdD a x) cs bs
 |.int _,_,_,_,_,_,h=>h
 |.bool,_,_,_,_,_,h=>h
 |.str,_,_,_,_,_,h=>h
 |.unit,_,_,_,_,_,h=>h
 |.hdr,_,_,_,_,_,h=>h
 |.pair a b,pos,x,_,_,r,⟨J,O,I,H,R,M,y,z⟩=>by
  simp only[Ty.sh,Ty.pair.injEq]at r;exact⟨J,O,I,H,R,M,Mx.hd r.1 y,Mx.hd r.2 (Mx.pos z)⟩
 |.list m E e,_,X,cs,bs,r,h=>by
  simp only[Ty.sh,Ty.list.injEq]at r;obtain⟨rfl,_⟩:=r;rw[cg]at h;obtain⟨A,u,y,_⟩:=h.2;exact⟨⟨A,u,y⟩,h.1⟩
theorem AQ {P:Program}{f:FuncId}{E:TypeId}{e:Ty}{H:Nat}{fr:Bool}(he:e.sh=e)
  (hs:bT P ⟨f,[.rd (.list false E e)],[.v (.list true E e)],fr,λx=>eD e H x.1⟩):bT P ⟨f,[.rd (.list false E e)],[.v (.list true E e.hd)],true,λx=>yW e H x.1⟩:=by
 refine⟨hs.1,λw ro x vs a3 y r a9 b4 hy=>?_⟩;obtain⟨z,hz,rfl⟩:=AU.1 hy;obtain⟨⟨xs,⟨⟩⟩,⟨⟩⟩:=z;refine (hs.2 w ro x vs a3 _ r a9 b4 hz).mono λen w' hp=>?_
 obtain⟨v,us,N,M,a2,h1,X,a5,a0,b0,a6,a4,hN,J,R,Z,I⟩:=hp;obtain⟨u,b5,b,O,e1,e2,⟨cs,a1,hm⟩,e3,e4⟩:=R;refine⟨v,us,N,M,a2,h1,X,a5,a0,b0,a6,a4,hN,?_,⟨u,b5,b,O,e1,e2,⟨cs,a1,?_⟩,e3,e4⟩,Z,I⟩
 ·obtain⟨v1,ba,b1,b9,rfl,rfl,_,rfl,rfl⟩:=r
  match M,J with
  |[b2],J=>exact J
  |[],J=>exact J.elim
  |_::_::_,J=>exact (J.2:False).elim
 ·rw[bB (by simp)]at hm ⊢;obtain⟨v2,h2,Y,ad,h3,h4,h5⟩:=hm;refine⟨v2,h2,Y,ad,?_,?_,λj y hj=>?_⟩
  ·rw[mn,AY];exact h3
  ·rw[AY];exact h4
  ·rw[BM]at hj;obtain⟨x',b3,rfl⟩:=AU.1 hj;obtain⟨c,h6,h7⟩:=h5 j x' b3;exact⟨c,h6.hd he,λi u hi=>by rw[mn];exact h7 i u hi⟩
end Go.Proofs.YtaegajachoklkaaGreatEv
