/- slices.DeleteFunc: from what its walk says to its contract; the headers of a copy. -/
import Derived.Test.YtaegajachoklkabGreatEvQ
set_option linter.unusedVariables false
set_option linter.unusedSimpArgs false
open Bool renaming false_eq_true->BT
open Go.Value renaming ownBlock->B7
open List renaming getElem?_eq_getElem->BG,append_nil->BI,flatten_cons->BJ,flatten_nil->BK,length_map->BL,getElem?_eq_none->BO,mem_append_right->BP,mem_append_left->BQ,getElem?_take->BR,getElem?_drop->BS,flatMap_cons->BW,ext_getElem?->BX,nodup_append->BY,getElem?_map->BZ,filter_cons->B3,filter_nil->B4,length_nil->B5,nil_append->B6
open List.Sublist renaming refl->BM
open List.cons renaming injEq->BN
open Nat renaming lt_of_lt_of_le->BU
open Option renaming map_eq_some_iff->BH
open Option.some renaming injEq->BV
namespace Go.Proofs.YtaegajachoklkabGreatEv
open Go Go.RowKit
def fE (s:Nat)(del:Nat->Bool)(flat:List Value):Nat->List Value
 |0=>[]
 |j+1=>fE s del flat j++(if del j=true then [] else (flat.drop (j*s)).take s)
def dw (del:Nat->Bool):Nat->Nat
 |0=>0
 |j+1=>dw del j+(if del j=true then 0 else 1)
theorem rU {α:Type}{u:α×Unit->Option Bool}:∀ {xs r:List α},lY u xs=some r->(∀ x∈xs,∃ b,u (x,())=some b)/\r=xs.filter (λx=>!decide (u (x,())=some true))
 |[],r,h=>by
  simp only[lY,BV]at h;subst h;exact⟨by simp,rfl⟩
 |x::xs,r,h=>by
  simp only[lY]at h;obtain⟨b,H,h⟩:=Option.bind_eq_some_iff.1 h;obtain⟨O,I,rfl⟩:=BH.1 h;obtain⟨J,M⟩:=rU I;subst M;refine⟨λy z=>?_,?_⟩
  ·rcases List.mem_cons.1 z with rfl|z
   ·exact⟨b,H⟩
   ·exact J y z
  ·cases b <;> simp[H]
theorem oI {f g:Nat->List Nat}(h:∀ j,(f j).Sublist (g j)):∀ l:List Nat,(l.flatMap f).Sublist (l.flatMap g)
 |[]=>BM _
 |a::l=>by
  rw[BW,BW];exact (h a).append (oI h l)
theorem zD {w:World}{G:Nat->Prop}{e:Ty}{xs:List e.den}{flat:List Value}{B:List Nat}(H:Els w G e xs flat B)(p:e.den->Bool)(del:Nat->Bool)(J:∀ (j:Nat) (x:e.den),xs[j]?=some x->del j=p x) :
  ∃ Z,Els w G e (xs.filter λx=>!p x) (fE e.cells del flat xs.length) Z/\Z.Sublist B/\(xs.filter λx=>!p x).length=dw del xs.length:=by
 obtain⟨O,hB,hx⟩:=H.to;have y:∀ j,j<=xs.length->Els w G e ((xs.take j).filter λx=>!p x) (fE e.cells del flat j) ((List.range j).flatMap λi=>if del i=true then [] else O i)/\((xs.take j).filter λx=>!p x).length=dw del j:=by
  intro j;induction j with
  |zero=>intro _;exact⟨⟨rfl,rfl⟩,rfl⟩
  |succ j ih =>
   intro hj;have r:j<xs.length:=by omega
   obtain⟨u,I⟩:=ih (by omega);obtain⟨c,X,h4⟩:=hx j xs[j] (BG r);have R:=J j xs[j] (BG r);have hc:(flat.drop (j*e.cells)).take e.cells=c:=by
    refine BX λi=>?_
    rw[BR];split
    ·rename_i Y;have z:i<c.length:=by rw[X.len];exact Y
     rw[BS,h4 i c[i] (BG z),BG z]
    ·rename_i Y;exact (BO (by rw[X.len];omega)).symm
   rw[List.take_add_one,BG r,List.filter_append,List.range_succ,List.flatMap_append,List.length_append];simp only[fE,dw,List.flatMap_singleton,Option.toList_some,hc];cases M:del j with
   |true =>
    rw[M]at R;simp only[if_true,BI,B3,<- R,Bool.not_true,BT,if_false,B4,B5];exact⟨u,I⟩
   |false =>
    rw[M]at R;simp only[BT,if_false,B3,<- R,Bool.not_false,if_true,B4,List.length_cons,B5,I];exact⟨u.append ⟨c,O j,[],[],by simp,by simp,X,rfl,rfl⟩,trivial⟩
 obtain⟨u,I⟩:=y xs.length (Nat.le_refl _);rw[List.take_length]at u I;refine⟨_,u,?_,I⟩;rw[hB];exact oI (λj=>by split <;> simp) _
structure qW (P:Program) (f idx:FuncId) (E:TypeId) (s:Nat):Prop where
 none_:∀ (w:World) (v0 fv:Value) (n:Nat) (flat:List Value),Row w E s v0 n flat->Calls P idx #[v0,fv] w (λe w'=>e=.returned (.int .i64 (-1))/\Below w.heap.size w w') ->
  Calls P f #[v0,fv] w λe w'=>e=.returned v0/\Below w.heap.size w w'
 some_:∀ (w:World) (g n cap:Nat) (flat:List Value) (fi:FuncId) (caps:Array Value) (del:Nat->Bool) (p0:Nat),Row w E s (.slice (some ⟨g,0,none⟩) n cap) n flat->(∀ u∈flat,u.oneCell'=true)->fR P fi->p0<n->del p0=true->(∀ j,j<p0->del j=false) ->
  (∀ w1:World,w.heap.size<=w1.heap.size->(∀ k,k<w.heap.size->k≠g->w1.heap[k]?=w.heap[k]?)->∀ j,j<n->Calls P fi (#[.agg ((flat.drop (j*s)).take s).toArray]++caps) w1 (λe w2=>e=.returned (.bool (del j))/\Below w1.heap.size w1 w2)) ->
  Calls P idx #[.slice (some ⟨g,0,none⟩) n cap,.func (.func fi) #[] caps] w (λe w'=>e=.returned (.int .i64 p0)/\Below w.heap.size w w') ->
  Calls P f #[.slice (some ⟨g,0,none⟩) n cap,.func (.func fi) #[] caps] w λe w'=>∃ v',e=.returned v'/\Row w' E s v' (dw del n) (fE s del flat n)/\w.grownBy w' (some g)/\v'.ownBlock=some g
def nZ {α β:Type}(xs:List α)(r:α×Unit->Option Bool)(o:Option ((Int×Unit)×β)):Prop :=
 ((∀ x∈xs,r (x,())=some false)/\∃ u,o=some ((-1,()),u)) \/
 ∃ p x u,xs[p]?=some x/\r (x,())=some true/\(∀ j y,j<p->xs[j]?=some y->r (y,())=some false)/\o=some ((((p:Nat):Int),()),u)
theorem AR {A u:Type}(h:A=u)(cv:A->u)(r:∀ x,HEq x (cv x))(xs:List A):HEq xs (xs.map cv):=by
 subst h;have:cv=id:=funext λx=>(eq_of_heq (r x)).symm
 subst this;simp
theorem nI {P:Program}{f idx:FuncId}{E:TypeId}{e e':Ty}{M f3:Bool}{cv:e.den->e'.den}(dc:∀ x,HEq x (cv x))(bl:e.sh=e'.sh)
  {ba:ab [PK.rd (.list false E e'),PK.fn [e'] .bool]->Option (ai [RK.v (.int .i64)]×ah [PK.rd (.list false E e'),PK.fn [e'] .bool])}
  (hE:fR P f) (hd:e.shy=false) (e6:e'.isAgg=true) (cx:bN P ⟨idx,[.rd (.list false E e'),.fn [e'] .bool],[.v (.int .i64)],f3,ba⟩)
  (cc:∀ (xs:List e'.den) (J:Tup [e']->Option Bool),xs.length<=1048576->(∀ x∈xs,∃ b,J (x,())=some b)->nZ xs J (ba (xs,J,())))
  (ad:qW P f idx E e.cells) :
  bN P ⟨f,[.own (.list true E e),.fn [e'] .bool],[.v (.list true E e)],M,λx=>gI e x.1 (λy=>x.2.1 (cv y.1,()))⟩:=by
 refine⟨hE,?_⟩;intro w ro x vs b9 y c1 ef b2 hy;obtain⟨xs,J,_⟩:=x;obtain⟨v0,g1,b0,fx,rfl,rfl,⟨em,c4,c2⟩,v1,g7,b1,g8,rfl,rfl,⟨fd,a3⟩,rfl,rfl⟩:=c1;have c4:em=[v0]:=c4;subst c4 fd;have cp:=c2;rw[bH (by simp)]at c2;obtain⟨u0,e0,H0⟩:=c2;simp only[BN,and_true]at e0;subst e0;obtain⟨H,B0,r0,Y,l0⟩:=qU H0;have a3:ii P w (λk=>k<w.heap.size/\k∉([b0,[]]:List (List Nat)).flatten) [e'] .bool J v1:=a3;have hy:gI e xs (λy=>J (cv y.1,()))=some y:=hy;simp only[BJ,BK,BI]at b2 ef a3 ⊢;unfold gI at hy;split at hy
 rotate_left
 ·cases hy
 rename_i d2;obtain⟨ys,bn,rfl⟩:=BH.1 hy;obtain⟨a4,rfl⟩:=rU bn;simp only at a4;have Z:∀ k∈b0,k<w.heap.size:=H0.lt;have hT:e.den=e'.den:=jA bl;have c0:nZ (xs.map cv) J (ba (xs.map cv,J,())):=cc _ _ (by rw[BL];exact d2) (λx hx=>by
  obtain⟨x',es,rfl⟩:=List.mem_map.1 hx;exact a4 x' es)
 have eg:Rd w (λk=>k<w.heap.size) (.list false E e') (xs.map cv) [v0] :=
  Rd.flags (a:=.list true E e) (by simp only[Ty.sh,bl]) (AR hT cv dc xs) (Mx.rd (λk r=>(ef k r).1) Z cp)
 have a1:∀ (i:Int) (u:ah [PK.rd (.list false E e'),PK.fn [e'] .bool]),ba (xs.map cv,J,())=some ((i,()),u)->Calls P idx #[v0,v1] w (λe w'=>e=.returned (.int .i64 i)/\Below w.heap.size w w'):=by
  intro i u hi;have:=cx.2 w (λk=>k<w.heap.size) (xs.map cv,J,()) [v0,v1] [[],[]] _
   ⟨v0,[v1],[],[[]],rfl,rfl,⟨rfl,[v0],rfl,eg⟩,v1,[],[],[],rfl,rfl,⟨rfl,ii.mono (λk r=>⟨r.1,by simp⟩) a3⟩,rfl,rfl⟩
   (λk r=>⟨r,by simp⟩) (by simp) hi
  refine this.mono λe w' hp=>?_
  obtain⟨v,us,N,fz,g2,rfl,a2,fo,fl,f7,fc,f1,_,_,d3,_,_⟩:=hp;refine⟨?_,⟨fl,f7,fc,fo,λk r=>f1 k r (by simp)⟩⟩;obtain⟨u,fv,b,fr,e1,e2,⟨cs,X,hm⟩,e3,e4⟩:=d3;subst e3;subst e1;have a2:v=u:=a2;subst a2;have X:cs=[v]:=X;have hm:cs=[.int .i64 i]:=hm.1;rw[X]at hm;simp only[BN,and_true]at hm;rw[hm]
 have a6:∀ (ys:List e.den) (v':Value) (w':World) (b3:List Value) (B':List Nat),Row w' E e.cells v' ys.length b3->w.grownBy w' v0.ownBlock->v'.ownBlock=v0.ownBlock->Els w (λ_=>False) e ys b3 B'->B'.Sublist B0 ->
   tD ⟨f,[.own (.list true E e),.fn [e'] .bool],[.v (.list true E e)],M,λx=>gI e x.1 (λy=>x.2.1 (cv y.1,()))⟩ w ro [v0,v1] [b0,[]] ((ys,()),()) (.returned v') w':=by
  intro ys v' w' b3 B' r' z a5 L a0;have I:b0.Nodup:=b2;have hB:∀ k∈B',w'.heap[k]?=w.heap[k]?:=λk r=>by
   have e5:k∈B0:=a0.subset r;refine z.block k (Z k (by rw[Y];exact BP _ e5)) λh=>?_
   rw[Y]at I;exact (BY.1 I).2.2 k (by rw[<- h];simp) k e5 rfl
  have L':Els w' (λk=>False\/(M=false/\ro k)) e ys b3 B':=L.carry (λ_ h=>h.elim) (λ_ h=>h.elim) hB;have R:=vB r' L';rw[a5]at R;have O:(v0.ownBlock.toList++B').Sublist b0:=by rw[Y];exact (BM _).append a0
  refine⟨v',[v'],λ_=>False,[[],[]],[v0.ownBlock.toList++B'],rfl,rfl,z.size,z.os,z.tape,z.output,?_,?_,?_,?_,?_,?_⟩
  ·intro k r hn;refine z.block k r (λh=>hn ?_);simp only[BJ,BK,BI];rw[Y];exact BQ _ (by rw[<- h];simp)
  ·intro k h;exact h.elim
  ·exact⟨rfl,rfl,trivial⟩
  ·refine⟨v',[],_,[],rfl,rfl,⟨[v'],rfl,?_⟩,rfl,rfl⟩;rw[bH (by simp)];exact⟨v',rfl,R⟩
  ·simp only[BJ,BK,BI,B6];exact b2.sublist O
  ·intro k r;simp only[BJ,BK,BI,B6]at r;refine⟨⟨BU (Z k (O.subset r)) z.size,.inr ?_⟩,λh=>h⟩;simp only[BJ,BK,BI];exact O.subset r
 have c3:Els w (λ_=>False) e xs H B0:=l0.deep hd;rcases c0 with ⟨ex,u,hi⟩|⟨p,x,u,hx,ej,b4,hi⟩
 ·have bn:xs.filter (λx=>!decide (J (cv x,())=some true))=xs:=by
   rw[List.filter_eq_self];intro a ha;rw[ex (cv a) (List.mem_map_of_mem ha)];simp
  refine (ad.none_ w v0 v1 xs.length H r0 (a1 _ _ hi)).mono λen w'=>?_
  rintro⟨rfl,hb⟩;rw[bn];exact a6 xs v0 w' H B0 (r0.same (λk r=>hb.block k (r0.lt k r))) ⟨hb.os,hb.tape,hb.output,hb.size,λk r _=>hb.block k r⟩ rfl c3 (BM _)
 ·obtain⟨fi,eb,rfl,f5,cb⟩:=a3;have b5:p<xs.length:=by
   have:=(List.getElem?_eq_some_iff.1 hx).1
   rwa [BL]at this
  have f6:=r0;rcases r0.2 with ⟨_,h⟩|⟨g,f2,g3,mk,rfl,hg,g6,g5,g4,f4⟩
  ·exact absurd b5 (by rw[h];omega)
  obtain⟨b9,hB,f0⟩:=c3.to;have I:b0.Nodup:=b2;rw[Y]at I;have ev:∀ k∈B0,k≠g:=λk r h=>(BY.1 I).2.2 g (by simp[B7]) k r h.symm
  have bx:∀ (j:Nat) (x:e.den),xs[j]?=some x->(λj=>match xs[j]? with|some x=>decide (J (cv x,())=some true)|none=>false) j=decide (J (cv x,())=some true):=λj x hj=>by simp only[hj]
  obtain⟨B',L,a0,f8⟩:=zD c3 (λx=>decide (J (cv x,())=some true)) _ bx;have bb:∀ j,(xs.map cv)[j]?=(xs[j]?).map cv:=λj=>BZ
  refine (ad.some_ w g xs.length f2 H fi eb (λj=>match xs[j]? with|some x=>decide (J (cv x,())=some true)|none=>false) p f6 l0.one f5 b5 ?_ ?_ ?_ (a1 _ _ hi)).mono λen w'=>?_
  ·rw[bb,BG b5,Option.map_some,BV]at hx;simp only[BG b5,hx,ej,decide_true]
  ·intro j hj;have ec:j<xs.length:=by omega
   have:=b4 j (cv xs[j]) hj (by rw[bb,BG ec];rfl);simp only[BG ec,this];simp
  ·intro w1 cy ed j hj;have d1:=BG hj;obtain⟨c,h3,h4⟩:=f0 j xs[j] d1;have hc:(H.drop (j*e.cells)).take e.cells=c:=by
    refine BX λi=>?_
    rw[BR];split
    ·rename_i hi;have cw:i<c.length:=by rw[h3.len];exact hi
     rw[BS,h4 i c[i] (BG cw),BG cw]
    ·rename_i hi;exact (BO (by rw[h3.len];omega)).symm
   rw[hc];have e7:∀ k∈b9 j,k∈B0:=λk r=>by rw[hB];exact dQ.2 ⟨j,hj,r⟩
   have dd:∀ k∈b9 j,k<w.heap.size:=λk r=>Z k (by rw[Y];exact BP _ (e7 k r))
   have M1:Mx w1 (λ_=>False) e none 0 xs[j] c (b9 j):=h3.carry (λ_ h=>h) (λ_ h=>h.elim) (λk r=>ed k (dd k r) (ev k (e7 k r)));have R1:Rd w1 (λk=>k<w1.heap.size) e' (cv xs[j]) c:=Rd.flags bl (dc _) (Mx.rd (λ_ h=>h.elim) (λk r=>BU (dd k r) cy) M1);obtain⟨b,hb⟩:=a4 xs[j] (List.getElem_mem hj);have:=cb w1 cy (λk r=>ed k r.1 (λh=>r.2 (by rw[h,Y];exact BQ _ (by simp[B7])))) (cv xs[j],()) [.agg c.toArray] b ⟨.agg c.toArray,c,[],rfl,by unfold da;rw[e6];rfl,R1,rfl⟩ hb;refine Calls.mono (h:=this) λe2 w2 hp=>?_
   obtain⟨u,cu,rfl,X,a9,et⟩:=hp;have X:cu=[u]:=X;have a9:cu=[.bool b]:=a9;rw[X]at a9;simp only[BN,and_true]at a9;refine⟨?_,et⟩;rw[a9];simp only[d1,hb];cases b <;> simp
  ·rintro⟨v',rfl,r',z,a5⟩;rw[<- f8]at r';exact a6 _ v' w' _ B' r' z a5 L a0
theorem mD:∀ a:Ty,a.hd.cells=a.cells
 |.pair a b=>by show a.hd.cells+b.hd.cells=a.cells+b.cells;rw[mD a,mD b]
 |.list _ _ _=>rfl
 |.int _=>rfl
 |.bool=>rfl
 |.str=>rfl
 |.unit=>rfl
 |.hdr=>rfl
theorem Mx.hd {w w':World}{G G':Nat->Prop}:∀ {a:Ty} {pos:Nat} {x:a.den} {cs:List Value} {bs:List Nat},a.sh=a->Mx w G a none pos x cs bs->Mx w' G' a.hd none pos (hdD a x) cs bs
 |.int _,_,_,_,_,_,h=>h
 |.bool,_,_,_,_,_,h=>h
 |.str,_,_,_,_,_,h=>h
 |.unit,_,_,_,_,_,h=>h
 |.hdr,_,_,_,_,_,h=>h
 |.pair a b,pos,x,_,_,r,⟨z,R,I,M,O,J,u,H⟩=>by
  simp only[Ty.sh,Ty.pair.injEq]at r;exact⟨z,R,I,M,O,J,Mx.hd r.1 u,Mx.hd r.2 (Mx.pos H)⟩
 |.list m E e,_,X,cs,bs,r,h=>by
  simp only[Ty.sh,Ty.list.injEq]at r;obtain⟨rfl,_⟩:=r;rw[cm]at h;obtain⟨A,y,u,_⟩:=h.2;exact⟨⟨A,y,u⟩,h.1⟩
theorem uc {P:Program}{f:FuncId}{E:TypeId}{e:Ty}{r:Nat}{fr:Bool}(he:e.sh=e)
  (hs:bN P ⟨f,[.rd (.list false E e)],[.v (.list true E e)],fr,λx=>e8 e r x.1⟩):bN P ⟨f,[.rd (.list false E e)],[.v (.list true E e.hd)],true,λx=>qq e r x.1⟩:=by
 refine⟨hs.1,λw ro x vs b3 y H b4 a2 hy=>?_⟩;obtain⟨z,hz,rfl⟩:=BH.1 hy;obtain⟨⟨xs,⟨⟩⟩,⟨⟩⟩:=z;refine (hs.2 w ro x vs b3 _ H b4 a2 hz).mono λen w' hp=>?_
 obtain⟨v,us,N,X,b5,h1,R,ad,a4,a3,a9,a6,hN,J,Z,Y,I⟩:=hp;obtain⟨u,a1,b,O,e1,e2,⟨cs,a5,hm⟩,e3,e4⟩:=Z;refine⟨v,us,N,X,b5,h1,R,ad,a4,a3,a9,a6,hN,?_,⟨u,a1,b,O,e1,e2,⟨cs,a5,?_⟩,e3,e4⟩,Y,I⟩
 ·obtain⟨v1,ba,b1,b9,rfl,rfl,_,rfl,rfl⟩:=H
  match X,J with
  |[b2],J=>exact J
  |[],J=>exact J.elim
  |_::_::_,J=>exact (J.2:False).elim
 ·rw[bH (by simp)]at hm ⊢;obtain⟨v2,h2,M,b0,h3,h4,h5⟩:=hm;refine⟨v2,h2,M,b0,?_,?_,λj y hj=>?_⟩
  ·rw[mD,BL];exact h3
  ·rw[BL];exact h4
  ·rw[BZ]at hj;obtain⟨x',a0,rfl⟩:=BH.1 hj;obtain⟨c,h6,h7⟩:=h5 j x' a0;exact⟨c,h6.hd he,λi u hi=>by rw[mD];exact h7 i u hi⟩
end Go.Proofs.YtaegajachoklkabGreatEv
