/- slices.DeleteFunc: from what its walk says to its contract; the headers of a copy. -/
import Derived.Test.YtaegajachoklkaaGreatEvQ
set_option linter.unusedVariables false
set_option linter.unusedSimpArgs false
open Bool renaming false_eq_true->BX
open Go.Value renaming ownBlock->CB
open List renaming getElem?_eq_getElem->BK,append_nil->BM,flatten_cons->BN,flatten_nil->BO,length_map->BP,getElem?_eq_none->BS,mem_append_right->BT,mem_append_left->BU,getElem?_take->BV,getElem?_drop->BW,flatMap_cons->B3,ext_getElem?->B4,nodup_append->B5,getElem?_map->B6,filter_cons->B7,filter_nil->B8,length_nil->B9,nil_append->CA
open List.Sublist renaming refl->BQ
open List.cons renaming injEq->BR
open Nat renaming lt_of_lt_of_le->BY
open Option renaming map_eq_some_iff->BL
open Option.some renaming injEq->BZ
namespace Go.Proofs.YtaegajachoklkaaGreatEv
open Go Go.RowKit
def fF (s:Nat)(del:Nat->Bool)(flat:List Value):Nat->List Value
 |0=>[]
 |j+1=>fF s del flat j++(if del j=true then [] else (flat.drop (j*s)).take s)
def dy (del:Nat->Bool):Nat->Nat
 |0=>0
 |j+1=>dy del j+(if del j=true then 0 else 1)
theorem rV {α:Type}{u:α×Unit->Option Bool}:∀ {xs r:List α},l7 u xs=some r->(∀ x∈xs,∃ b,u (x,())=some b)/\r=xs.filter (λx=>!decide (u (x,())=some true))
 |[],r,h=>by
  simp only[l7,BZ]at h;subst h;exact⟨by simp,rfl⟩
 |x::xs,r,h=>by
  simp only[l7]at h;obtain⟨b,H,h⟩:=Option.bind_eq_some_iff.1 h;obtain⟨O,I,rfl⟩:=BL.1 h;obtain⟨M,J⟩:=rV I;subst J;refine⟨λy z=>?_,?_⟩
  ·rcases List.mem_cons.1 z with rfl|z
   ·exact⟨b,H⟩
   ·exact M y z
  ·cases b <;> simp[H]
theorem oJ {f g:Nat->List Nat}(h:∀ j,(f j).Sublist (g j)):∀ l:List Nat,(l.flatMap f).Sublist (l.flatMap g)
 |[]=>BQ _
 |a::l=>by
  rw[B3,B3];exact (h a).append (oJ h l)
theorem zH {w:World}{G:Nat->Prop}{e:Ty}{xs:List e.den}{flat:List Value}{B:List Nat}(H:Els w G e xs flat B)(p:e.den->Bool)(del:Nat->Bool)(J:∀ (j:Nat) (x:e.den),xs[j]?=some x->del j=p x) :
  ∃ Y,Els w G e (xs.filter λx=>!p x) (fF e.cells del flat xs.length) Y/\Y.Sublist B/\(xs.filter λx=>!p x).length=dy del xs.length:=by
 obtain⟨I,hB,hx⟩:=H.to;have y:∀ j,j<=xs.length->Els w G e ((xs.take j).filter λx=>!p x) (fF e.cells del flat j) ((List.range j).flatMap λi=>if del i=true then [] else I i)/\((xs.take j).filter λx=>!p x).length=dy del j:=by
  intro j;induction j with
  |zero=>intro _;exact⟨⟨rfl,rfl⟩,rfl⟩
  |succ j ih =>
   intro hj;have r:j<xs.length:=by omega
   obtain⟨z,M⟩:=ih (by omega);obtain⟨c,X,h4⟩:=hx j xs[j] (BK r);have R:=J j xs[j] (BK r);have hc:(flat.drop (j*e.cells)).take e.cells=c:=by
    refine B4 λi=>?_
    rw[BV];split
    ·rename_i Z;have O:i<c.length:=by rw[X.len];exact Z
     rw[BW,h4 i c[i] (BK O),BK O]
    ·rename_i Z;exact (BS (by rw[X.len];omega)).symm
   rw[List.take_add_one,BK r,List.filter_append,List.range_succ,List.flatMap_append,List.length_append];simp only[fF,dy,List.flatMap_singleton,Option.toList_some,hc];cases u:del j with
   |true =>
    rw[u]at R;simp only[if_true,BM,B7,<- R,Bool.not_true,BX,if_false,B8,B9];exact⟨z,M⟩
   |false =>
    rw[u]at R;simp only[BX,if_false,B7,<- R,Bool.not_false,if_true,B8,List.length_cons,B9,M];exact⟨z.append ⟨c,I j,[],[],by simp,by simp,X,rfl,rfl⟩,trivial⟩
 obtain⟨z,M⟩:=y xs.length (Nat.le_refl _);rw[List.take_length]at z M;refine⟨_,z,?_,M⟩;rw[hB];exact oJ (λj=>by split <;> simp) _
structure qX (P:Program) (f idx:FuncId) (E:TypeId) (s:Nat):Prop where
 none_:∀ (w:World) (v0 fv:Value) (n:Nat) (flat:List Value),Row w E s v0 n flat->Calls P idx #[v0,fv] w (λe w'=>e=.returned (.int .i64 (-1))/\Below w.heap.size w w') ->
  Calls P f #[v0,fv] w λe w'=>e=.returned v0/\Below w.heap.size w w'
 some_:∀ (w:World) (g n cap:Nat) (flat:List Value) (fi:FuncId) (caps:Array Value) (del:Nat->Bool) (p0:Nat),Row w E s (.slice (some ⟨g,0,none⟩) n cap) n flat->(∀ u∈flat,u.oneCell'=true)->fT P fi->p0<n->del p0=true->(∀ j,j<p0->del j=false) ->
  (∀ w1:World,w.heap.size<=w1.heap.size->(∀ k,k<w.heap.size->k≠g->w1.heap[k]?=w.heap[k]?)->∀ j,j<n->Calls P fi (#[.agg ((flat.drop (j*s)).take s).toArray]++caps) w1 (λe w2=>e=.returned (.bool (del j))/\Below w1.heap.size w1 w2)) ->
  Calls P idx #[.slice (some ⟨g,0,none⟩) n cap,.func (.func fi) #[] caps] w (λe w'=>e=.returned (.int .i64 p0)/\Below w.heap.size w w') ->
  Calls P f #[.slice (some ⟨g,0,none⟩) n cap,.func (.func fi) #[] caps] w λe w'=>∃ v',e=.returned v'/\Row w' E s v' (dy del n) (fF s del flat n)/\w.grownBy w' (some g)/\v'.ownBlock=some g
def oa {α β:Type}(xs:List α)(r:α×Unit->Option Bool)(o:Option ((Int×Unit)×β)):Prop :=
 ((∀ x∈xs,r (x,())=some false)/\∃ u,o=some ((-1,()),u)) \/
 ∃ p x u,xs[p]?=some x/\r (x,())=some true/\(∀ j y,j<p->xs[j]?=some y->r (y,())=some false)/\o=some ((((p:Nat):Int),()),u)
theorem AU {A u:Type}(h:A=u)(cv:A->u)(r:∀ x,HEq x (cv x))(xs:List A):HEq xs (xs.map cv):=by
 subst h;have:cv=id:=funext λx=>(eq_of_heq (r x)).symm
 subst this;simp
theorem nM {P:Program}{f idx:FuncId}{E:TypeId}{e e':Ty}{X em:Bool}{cv:e.den->e'.den}(cw:∀ x,HEq x (cv x))(cb:e.sh=e'.sh)
  {b4:ab [PK.rd (.list false E e'),PK.fn [e'] .bool]->Option (ai [RK.v (.int .i64)]×ah [PK.rd (.list false E e'),PK.fn [e'] .bool])}
  (hE:fT P f) (hd:e.shy=false) (d1:e'.isAgg=true) (ec:bO P ⟨idx,[.rd (.list false E e'),.fn [e'] .bool],[.v (.int .i64)],em,b4⟩)
  (ed:∀ (xs:List e'.den) (O:Tup [e']->Option Bool),xs.length<=1048576->(∀ x∈xs,∃ b,O (x,())=some b)->oa xs O (b4 (xs,O,())))
  (a6:qX P f idx E e.cells) :
  bO P ⟨f,[.own (.list true E e),.fn [e'] .bool],[.v (.list true E e)],X,λx=>gK e x.1 (λy=>x.2.1 (cv y.1,()))⟩:=by
 refine⟨hE,?_⟩;intro w ro x vs b3 y bl cc b5 hy;obtain⟨xs,O,_⟩:=x;obtain⟨v0,g5,b0,fz,rfl,rfl,⟨f7,bn,c0⟩,v1,g3,b1,g2,rfl,rfl,⟨es,a2⟩,rfl,rfl⟩:=bl;have bn:f7=[v0]:=bn;subst bn es;have cy:=c0;rw[bJ (by simp)]at c0;obtain⟨u0,e0,H0⟩:=c0;simp only[BR,and_true]at e0;subst e0;obtain⟨I,B0,r0,J,l0⟩:=qW H0;have a2:ik P w (λk=>k<w.heap.size/\k∉([b0,[]]:List (List Nat)).flatten) [e'] .bool O v1:=a2;have hy:gK e xs (λy=>O (cv y.1,()))=some y:=hy;simp only[BN,BO,BM]at b5 cc a2 ⊢;unfold gK at hy;split at hy
 rotate_left
 ·cases hy
 rename_i dc;obtain⟨ys,c4,rfl⟩:=BL.1 hy;obtain⟨a5,rfl⟩:=rV c4;simp only at a5;have a0:∀ k∈b0,k<w.heap.size:=H0.lt;have hT:e.den=e'.den:=jG cb;have c1:oa (xs.map cv) O (b4 (xs.map cv,O,())):=ed _ _ (by rw[BP];exact dc) (λx hx=>by
  obtain⟨x',f4,rfl⟩:=List.mem_map.1 hx;exact a5 x' f4)
 have fd:Rd w (λk=>k<w.heap.size) (.list false E e') (xs.map cv) [v0] :=
  Rd.flags (a:=.list true E e) (by simp only[Ty.sh,cb]) (AU hT cv cw xs) (Mx.rd (λk r=>(cc k r).1) a0 cy)
 have Z:∀ (i:Int) (u:ah [PK.rd (.list false E e'),PK.fn [e'] .bool]),b4 (xs.map cv,O,())=some ((i,()),u)->Calls P idx #[v0,v1] w (λe w'=>e=.returned (.int .i64 i)/\Below w.heap.size w w'):=by
  intro i u hi;have:=ec.2 w (λk=>k<w.heap.size) (xs.map cv,O,()) [v0,v1] [[],[]] _
   ⟨v0,[v1],[],[[]],rfl,rfl,⟨rfl,[v0],rfl,fd⟩,v1,[],[],[],rfl,rfl,⟨rfl,ik.mono (λk r=>⟨r.1,by simp⟩) a2⟩,rfl,rfl⟩
   (λk r=>⟨r,by simp⟩) (by simp) hi
  refine this.mono λe w' hp=>?_
  obtain⟨v,us,N,fv,g1,rfl,a3,f6,f2,et,ex,f3,_,_,dd,_,_⟩:=hp;refine⟨?_,⟨f2,et,ex,f6,λk r=>f3 k r (by simp)⟩⟩;obtain⟨u,g7,b,fo,e1,e2,⟨cs,Y,hm⟩,e3,e4⟩:=dd;subst e3;subst e1;have a3:v=u:=a3;subst a3;have Y:cs=[v]:=Y;have hm:cs=[.int .i64 i]:=hm.1;rw[Y]at hm;simp only[BR,and_true]at hm;rw[hm]
 have ad:∀ (ys:List e.den) (v':Value) (w':World) (b2:List Value) (B':List Nat),Row w' E e.cells v' ys.length b2->w.grownBy w' v0.ownBlock->v'.ownBlock=v0.ownBlock->Els w (λ_=>False) e ys b2 B'->B'.Sublist B0 ->
   tD ⟨f,[.own (.list true E e),.fn [e'] .bool],[.v (.list true E e)],X,λx=>gK e x.1 (λy=>x.2.1 (cv y.1,()))⟩ w ro [v0,v1] [b0,[]] ((ys,()),()) (.returned v') w':=by
  intro ys v' w' b2 B' r' z a9 L a1;have H:b0.Nodup:=b5;have hB:∀ k∈B',w'.heap[k]?=w.heap[k]?:=λk r=>by
   have d4:k∈B0:=a1.subset r;refine z.block k (a0 k (by rw[J];exact BT _ d4)) λh=>?_
   rw[J]at H;exact (B5.1 H).2.2 k (by rw[<- h];simp) k d4 rfl
  have L':Els w' (λk=>False\/(X=false/\ro k)) e ys b2 B':=L.carry (λ_ h=>h.elim) (λ_ h=>h.elim) hB;have R:=vB r' L';rw[a9]at R;have M:(v0.ownBlock.toList++B').Sublist b0:=by rw[J];exact (BQ _).append a1
  refine⟨v',[v'],λ_=>False,[[],[]],[v0.ownBlock.toList++B'],rfl,rfl,z.size,z.os,z.tape,z.output,?_,?_,?_,?_,?_,?_⟩
  ·intro k r hn;refine z.block k r (λh=>hn ?_);simp only[BN,BO,BM];rw[J];exact BU _ (by rw[<- h];simp)
  ·intro k h;exact h.elim
  ·exact⟨rfl,rfl,trivial⟩
  ·refine⟨v',[],_,[],rfl,rfl,⟨[v'],rfl,?_⟩,rfl,rfl⟩;rw[bJ (by simp)];exact⟨v',rfl,R⟩
  ·simp only[BN,BO,BM,CA];exact b5.sublist M
  ·intro k r;simp only[BN,BO,BM,CA]at r;refine⟨⟨BY (a0 k (M.subset r)) z.size,.inr ?_⟩,λh=>h⟩;simp only[BN,BO,BM];exact M.subset r
 have c2:Els w (λ_=>False) e xs I B0:=l0.deep hd;rcases c1 with ⟨fl,u,hi⟩|⟨p,x,u,hx,ev,ba,hi⟩
 ·have c4:xs.filter (λx=>!decide (O (cv x,())=some true))=xs:=by
   rw[List.filter_eq_self];intro a ha;rw[fl (cv a) (List.mem_map_of_mem ha)];simp
  refine (a6.none_ w v0 v1 xs.length I r0 (Z _ _ hi)).mono λen w'=>?_
  rintro⟨rfl,hb⟩;rw[c4];exact ad xs v0 w' I B0 (r0.same (λk r=>hb.block k (r0.lt k r))) ⟨hb.os,hb.tape,hb.output,hb.size,λk r _=>hb.block k r⟩ rfl c2 (BQ _)
 ·obtain⟨fi,cp,rfl,f1,c3⟩:=a2;have b9:p<xs.length:=by
   have:=(List.getElem?_eq_some_iff.1 hx).1
   rwa [BP]at this
  have fc:=r0;rcases r0.2 with ⟨_,h⟩|⟨g,f8,g4,mk,rfl,hg,g6,fr,fx,f0⟩
  ·exact absurd b9 (by rw[h];omega)
  obtain⟨b3,hB,f5⟩:=c2.to;have H:b0.Nodup:=b5;rw[J]at H;have ef:∀ k∈B0,k≠g:=λk r h=>(B5.1 H).2.2 g (by simp[CB]) k r h.symm
  have bx:∀ (j:Nat) (x:e.den),xs[j]?=some x->(λj=>match xs[j]? with|some x=>decide (O (cv x,())=some true)|none=>false) j=decide (O (cv x,())=some true):=λj x hj=>by simp only[hj]
  obtain⟨B',L,a1,eg⟩:=zH c2 (λx=>decide (O (cv x,())=some true)) _ bx;have bb:∀ j,(xs.map cv)[j]?=(xs[j]?).map cv:=λj=>B6
  refine (a6.some_ w g xs.length f8 I fi cp (λj=>match xs[j]? with|some x=>decide (O (cv x,())=some true)|none=>false) p fc l0.one f1 b9 ?_ ?_ ?_ (Z _ _ hi)).mono λen w'=>?_
  ·rw[bb,BK b9,Option.map_some,BZ]at hx;simp only[BK b9,hx,ev,decide_true]
  ·intro j hj;have d2:j<xs.length:=by omega
   have:=ba j (cv xs[j]) hj (by rw[bb,BK d2];rfl);simp only[BK d2,this];simp
  ·intro w1 eb d3 j hj;have e6:=BK hj;obtain⟨c,h3,h4⟩:=f5 j xs[j] e6;have hc:(I.drop (j*e.cells)).take e.cells=c:=by
    refine B4 λi=>?_
    rw[BV];split
    ·rename_i hi;have cx:i<c.length:=by rw[h3.len];exact hi
     rw[BW,h4 i c[i] (BK cx),BK cx]
    ·rename_i hi;exact (BS (by rw[h3.len];omega)).symm
   rw[hc];have e7:∀ k∈b3 j,k∈B0:=λk r=>by rw[hB];exact dV.2 ⟨j,hj,r⟩
   have e5:∀ k∈b3 j,k<w.heap.size:=λk r=>a0 k (by rw[J];exact BT _ (e7 k r))
   have M1:Mx w1 (λ_=>False) e none 0 xs[j] c (b3 j):=h3.carry (λ_ h=>h) (λ_ h=>h.elim) (λk r=>d3 k (e5 k r) (ef k (e7 k r)));have R1:Rd w1 (λk=>k<w1.heap.size) e' (cv xs[j]) c:=Rd.flags cb (cw _) (Mx.rd (λ_ h=>h.elim) (λk r=>BY (e5 k r) eb) M1);obtain⟨b,hb⟩:=a5 xs[j] (List.getElem_mem hj);have:=c3 w1 eb (λk r=>d3 k r.1 (λh=>r.2 (by rw[h,J];exact BU _ (by simp[CB])))) (cv xs[j],()) [.agg c.toArray] b ⟨.agg c.toArray,c,[],rfl,by unfold db;rw[d1];rfl,R1,rfl⟩ hb;refine Calls.mono (h:=this) λe2 w2 hp=>?_
   obtain⟨u,cu,rfl,Y,a4,ej⟩:=hp;have Y:cu=[u]:=Y;have a4:cu=[.bool b]:=a4;rw[Y]at a4;simp only[BR,and_true]at a4;refine⟨?_,ej⟩;rw[a4];simp only[e6,hb];cases b <;> simp
  ·rintro⟨v',rfl,r',z,a9⟩;rw[<- eg]at r';exact ad _ v' w' _ B' r' z a9 L a1
theorem mK:∀ a:Ty,a.hd.cells=a.cells
 |.pair a b=>by show a.hd.cells+b.hd.cells=a.cells+b.cells;rw[mK a,mK b]
 |.list _ _ _=>rfl
 |.int _=>rfl
 |.bool=>rfl
 |.str=>rfl
 |.unit=>rfl
 |.hdr=>rfl
theorem Mx.hd {w w':World}{G G':Nat->Prop}:∀ {a:Ty} {pos:Nat} {x:a.den} {cs:List Value} {bs:List Nat},a.sh=a->Mx w G a none pos x cs bs->Mx w' G' a.hd none pos (hdD a x) cs bs
 |.int _,_,_,_,_,_,h=>h
 |.bool,_,_,_,_,_,h=>h
 |.str,_,_,_,_,_,h=>h
 |.unit,_,_,_,_,_,h=>h
 |.hdr,_,_,_,_,_,h=>h
 |.pair a b,pos,x,_,_,r,⟨H,M,O,z,R,I,y,J⟩=>by
  simp only[Ty.sh,Ty.pair.injEq]at r;exact⟨H,M,O,z,R,I,Mx.hd r.1 y,Mx.hd r.2 (Mx.pos J)⟩
 |.list m E e,_,X,cs,bs,r,h=>by
  simp only[Ty.sh,Ty.list.injEq]at r;obtain⟨rfl,_⟩:=r;rw[cm]at h;obtain⟨A,u,y,_⟩:=h.2;exact⟨⟨A,u,y⟩,h.1⟩
theorem uc {P:Program}{f:FuncId}{E:TypeId}{e:Ty}{H:Nat}{fr:Bool}(he:e.sh=e)
  (hs:bO P ⟨f,[.rd (.list false E e)],[.v (.list true E e)],fr,λx=>e9 e H x.1⟩):bO P ⟨f,[.rd (.list false E e)],[.v (.list true E e.hd)],true,λx=>qq e H x.1⟩:=by
 refine⟨hs.1,λw ro x vs a9 y r a1 a4 hy=>?_⟩;obtain⟨z,hz,rfl⟩:=BL.1 hy;obtain⟨⟨xs,⟨⟩⟩,⟨⟩⟩:=z;refine (hs.2 w ro x vs a9 _ r a1 a4 hz).mono λen w' hp=>?_
 obtain⟨v,us,N,X,ad,h1,Y,a2,a6,a3,b4,b0,hN,J,O,M,I⟩:=hp;obtain⟨u,a0,b,R,e1,e2,⟨cs,a5,hm⟩,e3,e4⟩:=O;refine⟨v,us,N,X,ad,h1,Y,a2,a6,a3,b4,b0,hN,?_,⟨u,a0,b,R,e1,e2,⟨cs,a5,?_⟩,e3,e4⟩,M,I⟩
 ·obtain⟨v1,b9,b1,ba,rfl,rfl,_,rfl,rfl⟩:=r
  match X,J with
  |[b2],J=>exact J
  |[],J=>exact J.elim
  |_::_::_,J=>exact (J.2:False).elim
 ·rw[bJ (by simp)]at hm ⊢;obtain⟨v2,h2,Z,b5,h3,h4,h5⟩:=hm;refine⟨v2,h2,Z,b5,?_,?_,λj y hj=>?_⟩
  ·rw[mK,BP];exact h3
  ·rw[BP];exact h4
  ·rw[B6]at hj;obtain⟨x',b3,rfl⟩:=BL.1 hj;obtain⟨c,h6,h7⟩:=h5 j x' b3;exact⟨c,h6.hd he,λi u hi=>by rw[mK];exact h7 i u hi⟩
end Go.Proofs.YtaegajachoklkaaGreatEv
