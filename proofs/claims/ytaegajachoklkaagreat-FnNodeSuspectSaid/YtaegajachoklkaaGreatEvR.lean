/- slices.DeleteFunc: from what its walk says to its contract; the headers of a copy. -/
import Derived.Test.YtaegajachoklkaaGreatEvQ
set_option linter.unusedVariables false
set_option linter.unusedSimpArgs false
open Bool renaming false_eq_true->BQ
open Go.Value renaming ownBlock->B4
open List renaming getElem?_eq_getElem->BD,append_nil->BF,flatten_cons->BG,flatten_nil->BH,length_map->BI,getElem?_eq_none->BL,mem_append_right->BM,mem_append_left->BN,getElem?_take->BO,getElem?_drop->BP,flatMap_cons->BT,ext_getElem?->BU,nodup_append->BV,getElem?_map->BW,filter_cons->BX,filter_nil->BY,length_nil->BZ,nil_append->B3
open List.Sublist renaming refl->BJ
open List.cons renaming injEq->BK
open Nat renaming lt_of_lt_of_le->BR
open Option renaming map_eq_some_iff->BE
open Option.some renaming injEq->BS
namespace Go.Proofs.YtaegajachoklkaaGreatEv
open Go Go.RowKit
def fD (s:Nat)(del:Nat->Bool)(flat:List Value):Nat->List Value
 |0=>[]
 |j+1=>fD s del flat j++(if del j=true then [] else (flat.drop (j*s)).take s)
def dy (del:Nat->Bool):Nat->Nat
 |0=>0
 |j+1=>dy del j+(if del j=true then 0 else 1)
theorem rS {α:Type}{z:α×Unit->Option Bool}:∀ {xs r:List α},l6 z xs=some r->(∀ x∈xs,∃ b,z (x,())=some b)/\r=xs.filter (λx=>!decide (z (x,())=some true))
 |[],r,h=>by
  simp only[l6,BS]at h;subst h;exact⟨by simp,rfl⟩
 |x::xs,r,h=>by
  simp only[l6]at h;obtain⟨b,H,h⟩:=Option.bind_eq_some_iff.1 h;obtain⟨O,M,rfl⟩:=BE.1 h;obtain⟨J,I⟩:=rS M;subst I;refine⟨λy u=>?_,?_⟩
  ·rcases List.mem_cons.1 u with rfl|u
   ·exact⟨b,H⟩
   ·exact J y u
  ·cases b <;> simp[H]
theorem oI {f g:Nat->List Nat}(h:∀ j,(f j).Sublist (g j)):∀ l:List Nat,(l.flatMap f).Sublist (l.flatMap g)
 |[]=>BJ _
 |a::l=>by
  rw[BT,BT];exact (h a).append (oI h l)
theorem zC {w:World}{G:Nat->Prop}{e:Ty}{xs:List e.den}{flat:List Value}{B:List Nat}(H:Els w G e xs flat B)(p:e.den->Bool)(del:Nat->Bool)(y:∀ (j:Nat) (x:e.den),xs[j]?=some x->del j=p x) :
  ∃ Z,Els w G e (xs.filter λx=>!p x) (fD e.cells del flat xs.length) Z/\Z.Sublist B/\(xs.filter λx=>!p x).length=dy del xs.length:=by
 obtain⟨M,hB,hx⟩:=H.to;have u:∀ j,j<=xs.length->Els w G e ((xs.take j).filter λx=>!p x) (fD e.cells del flat j) ((List.range j).flatMap λi=>if del i=true then [] else M i)/\((xs.take j).filter λx=>!p x).length=dy del j:=by
  intro j;induction j with
  |zero=>intro _;exact⟨⟨rfl,rfl⟩,rfl⟩
  |succ j ih =>
   intro hj;have r:j<xs.length:=by omega
   obtain⟨J,z⟩:=ih (by omega);obtain⟨c,X,h4⟩:=hx j xs[j] (BD r);have R:=y j xs[j] (BD r);have hc:(flat.drop (j*e.cells)).take e.cells=c:=by
    refine BU λi=>?_
    rw[BO];split
    ·rename_i Y;have O:i<c.length:=by rw[X.len];exact Y
     rw[BP,h4 i c[i] (BD O),BD O]
    ·rename_i Y;exact (BL (by rw[X.len];omega)).symm
   rw[List.take_add_one,BD r,List.filter_append,List.range_succ,List.flatMap_append,List.length_append];simp only[fD,dy,List.flatMap_singleton,Option.toList_some,hc];cases I:del j with
   |true =>
    rw[I]at R;simp only[if_true,BF,BX,<- R,Bool.not_true,BQ,if_false,BY,BZ];exact⟨J,z⟩
   |false =>
    rw[I]at R;simp only[BQ,if_false,BX,<- R,Bool.not_false,if_true,BY,List.length_cons,BZ,z];exact⟨J.append ⟨c,M j,[],[],by simp,by simp,X,rfl,rfl⟩,trivial⟩
 obtain⟨J,z⟩:=u xs.length (Nat.le_refl _);rw[List.take_length]at J z;refine⟨_,J,?_,z⟩;rw[hB];exact oI (λj=>by split <;> simp) _
structure qU (P:Program) (f idx:FuncId) (E:TypeId) (s:Nat):Prop where
 none_:∀ (w:World) (v0 fv:Value) (n:Nat) (flat:List Value),Row w E s v0 n flat->Calls P idx #[v0,fv] w (λe w'=>e=.returned (.int .i64 (-1))/\Below w.heap.size w w') ->
  Calls P f #[v0,fv] w λe w'=>e=.returned v0/\Below w.heap.size w w'
 some_:∀ (w:World) (g n cap:Nat) (flat:List Value) (fi:FuncId) (caps:Array Value) (del:Nat->Bool) (p0:Nat),Row w E s (.slice (some ⟨g,0,none⟩) n cap) n flat->(∀ u∈flat,u.oneCell'=true)->fQ P fi->p0<n->del p0=true->(∀ j,j<p0->del j=false) ->
  (∀ w1:World,w.heap.size<=w1.heap.size->(∀ k,k<w.heap.size->k≠g->w1.heap[k]?=w.heap[k]?)->∀ j,j<n->Calls P fi (#[.agg ((flat.drop (j*s)).take s).toArray]++caps) w1 (λe w2=>e=.returned (.bool (del j))/\Below w1.heap.size w1 w2)) ->
  Calls P idx #[.slice (some ⟨g,0,none⟩) n cap,.func (.func fi) #[] caps] w (λe w'=>e=.returned (.int .i64 p0)/\Below w.heap.size w w') ->
  Calls P f #[.slice (some ⟨g,0,none⟩) n cap,.func (.func fi) #[] caps] w λe w'=>∃ v',e=.returned v'/\Row w' E s v' (dy del n) (fD s del flat n)/\w.grownBy w' (some g)/\v'.ownBlock=some g
def nZ {α β:Type}(xs:List α)(r:α×Unit->Option Bool)(o:Option ((Int×Unit)×β)):Prop :=
 ((∀ x∈xs,r (x,())=some false)/\∃ u,o=some ((-1,()),u)) \/
 ∃ p x u,xs[p]?=some x/\r (x,())=some true/\(∀ j y,j<p->xs[j]?=some y->r (y,())=some false)/\o=some ((((p:Nat):Int),()),u)
theorem AO {A u:Type}(h:A=u)(cv:A->u)(r:∀ x,HEq x (cv x))(xs:List A):HEq xs (xs.map cv):=by
 subst h;have:cv=id:=funext λx=>(eq_of_heq (r x)).symm
 subst this;simp
theorem nL {P:Program}{f idx:FuncId}{E:TypeId}{e e':Ty}{M f2:Bool}{cv:e.den->e'.den}(e7:∀ x,HEq x (cv x))(c1:e.sh=e'.sh)
  {b2:ab [PK.rd (.list false E e'),PK.fn [e'] .bool]->Option (ai [RK.v (.int .i64)]×ah [PK.rd (.list false E e'),PK.fn [e'] .bool])}
  (hE:fQ P f) (hd:e.shy=false) (d1:e'.isAgg=true) (e6:bO P ⟨idx,[.rd (.list false E e'),.fn [e'] .bool],[.v (.int .i64)],f2,b2⟩)
  (ef:∀ (xs:List e'.den) (J:Tup [e']->Option Bool),xs.length<=1048576->(∀ x∈xs,∃ b,J (x,())=some b)->nZ xs J (b2 (xs,J,())))
  (ad:qU P f idx E e.cells) :
  bO P ⟨f,[.own (.list true E e),.fn [e'] .bool],[.v (.list true E e)],M,λx=>gG e x.1 (λy=>x.2.1 (cv y.1,()))⟩:=by
 refine⟨hE,?_⟩;intro w ro x vs b4 y c4 cp ba hy;obtain⟨xs,J,_⟩:=x;obtain⟨v0,fx,b0,g7,rfl,rfl,⟨fo,bn,bl⟩,v1,g8,b1,fv,rfl,rfl,⟨f5,a5⟩,rfl,rfl⟩:=c4;have bn:fo=[v0]:=bn;subst bn f5;have cc:=bl;rw[bI (by simp)]at bl;obtain⟨u0,e0,H0⟩:=bl;simp only[BK,and_true]at e0;subst e0;obtain⟨H,B0,r0,O,l0⟩:=qT H0;have a5:ii P w (λk=>k<w.heap.size/\k∉([b0,[]]:List (List Nat)).flatten) [e'] .bool J v1:=a5;have hy:gG e xs (λy=>J (cv y.1,()))=some y:=hy;simp only[BG,BH,BF]at ba cp a5 ⊢;unfold gG at hy;split at hy
 rotate_left
 ·cases hy
 rename_i d3;obtain⟨ys,c2,rfl⟩:=BE.1 hy;obtain⟨a6,rfl⟩:=rS c2;simp only at a6;have a1:∀ k∈b0,k<w.heap.size:=H0.lt;have hT:e.den=e'.den:=jD c1;have cb:nZ (xs.map cv) J (b2 (xs.map cv,J,())):=ef _ _ (by rw[BI];exact d3) (λx hx=>by
  obtain⟨x',fl,rfl⟩:=List.mem_map.1 hx;exact a6 x' fl)
 have f1:Rd w (λk=>k<w.heap.size) (.list false E e') (xs.map cv) [v0] :=
  Rd.flags (a:=.list true E e) (by simp only[Ty.sh,c1]) (AO hT cv e7 xs) (Mx.rd (λk r=>(cp k r).1) a1 cc)
 have a0:∀ (i:Int) (u:ah [PK.rd (.list false E e'),PK.fn [e'] .bool]),b2 (xs.map cv,J,())=some ((i,()),u)->Calls P idx #[v0,v1] w (λe w'=>e=.returned (.int .i64 i)/\Below w.heap.size w w'):=by
  intro i u hi;have:=e6.2 w (λk=>k<w.heap.size) (xs.map cv,J,()) [v0,v1] [[],[]] _
   ⟨v0,[v1],[],[[]],rfl,rfl,⟨rfl,[v0],rfl,f1⟩,v1,[],[],[],rfl,rfl,⟨rfl,ii.mono (λk r=>⟨r.1,by simp⟩) a5⟩,rfl,rfl⟩
   (λk r=>⟨r,by simp⟩) (by simp) hi
  refine this.mono λe w' hp=>?_
  obtain⟨v,us,N,g3,fz,rfl,a9,ev,es,ej,em,f4,_,_,e5,_,_⟩:=hp;refine⟨?_,⟨es,ej,em,ev,λk r=>f4 k r (by simp)⟩⟩;obtain⟨u,g6,b,fr,e1,e2,⟨cs,X,hm⟩,e3,e4⟩:=e5;subst e3;subst e1;have a9:v=u:=a9;subst a9;have X:cs=[v]:=X;have hm:cs=[.int .i64 i]:=hm.1;rw[X]at hm;simp only[BK,and_true]at hm;rw[hm]
 have a4:∀ (ys:List e.den) (v':Value) (w':World) (b5:List Value) (B':List Nat),Row w' E e.cells v' ys.length b5->w.grownBy w' v0.ownBlock->v'.ownBlock=v0.ownBlock->Els w (λ_=>False) e ys b5 B'->B'.Sublist B0 ->
   tC ⟨f,[.own (.list true E e),.fn [e'] .bool],[.v (.list true E e)],M,λx=>gG e x.1 (λy=>x.2.1 (cv y.1,()))⟩ w ro [v0,v1] [b0,[]] ((ys,()),()) (.returned v') w':=by
  intro ys v' w' b5 B' r' z a3 L Z;have I:b0.Nodup:=ba;have hB:∀ k∈B',w'.heap[k]?=w.heap[k]?:=λk r=>by
   have dd:k∈B0:=Z.subset r;refine z.block k (a1 k (by rw[O];exact BM _ dd)) λh=>?_
   rw[O]at I;exact (BV.1 I).2.2 k (by rw[<- h];simp) k dd rfl
  have L':Els w' (λk=>False\/(M=false/\ro k)) e ys b5 B':=L.carry (λ_ h=>h.elim) (λ_ h=>h.elim) hB;have R:=vA r' L';rw[a3]at R;have Y:(v0.ownBlock.toList++B').Sublist b0:=by rw[O];exact (BJ _).append Z
  refine⟨v',[v'],λ_=>False,[[],[]],[v0.ownBlock.toList++B'],rfl,rfl,z.size,z.os,z.tape,z.output,?_,?_,?_,?_,?_,?_⟩
  ·intro k r hn;refine z.block k r (λh=>hn ?_);simp only[BG,BH,BF];rw[O];exact BN _ (by rw[<- h];simp)
  ·intro k h;exact h.elim
  ·exact⟨rfl,rfl,trivial⟩
  ·refine⟨v',[],_,[],rfl,rfl,⟨[v'],rfl,?_⟩,rfl,rfl⟩;rw[bI (by simp)];exact⟨v',rfl,R⟩
  ·simp only[BG,BH,BF,B3];exact ba.sublist Y
  ·intro k r;simp only[BG,BH,BF,B3]at r;refine⟨⟨BR (a1 k (Y.subset r)) z.size,.inr ?_⟩,λh=>h⟩;simp only[BG,BH,BF];exact Y.subset r
 have c3:Els w (λ_=>False) e xs H B0:=l0.deep hd;rcases cb with ⟨f0,u,hi⟩|⟨p,x,u,hx,et,b9,hi⟩
 ·have c2:xs.filter (λx=>!decide (J (cv x,())=some true))=xs:=by
   rw[List.filter_eq_self];intro a ha;rw[f0 (cv a) (List.mem_map_of_mem ha)];simp
  refine (ad.none_ w v0 v1 xs.length H r0 (a0 _ _ hi)).mono λen w'=>?_
  rintro⟨rfl,hb⟩;rw[c2];exact a4 xs v0 w' H B0 (r0.same (λk r=>hb.block k (r0.lt k r))) ⟨hb.os,hb.tape,hb.output,hb.size,λk r _=>hb.block k r⟩ rfl c3 (BJ _)
 ·obtain⟨fi,dc,rfl,fd,c0⟩:=a5;have b3:p<xs.length:=by
   have:=(List.getElem?_eq_some_iff.1 hx).1
   rwa [BI]at this
  have eg:=r0;rcases r0.2 with ⟨_,h⟩|⟨g,fc,g5,mk,rfl,hg,g1,g4,g2,f8⟩
  ·exact absurd b3 (by rw[h];omega)
  obtain⟨b4,hB,f7⟩:=c3.to;have I:b0.Nodup:=ba;rw[O]at I;have ex:∀ k∈B0,k≠g:=λk r h=>(BV.1 I).2.2 g (by simp[B4]) k r h.symm
  have bx:∀ (j:Nat) (x:e.den),xs[j]?=some x->(λj=>match xs[j]? with|some x=>decide (J (cv x,())=some true)|none=>false) j=decide (J (cv x,())=some true):=λj x hj=>by simp only[hj]
  obtain⟨B',L,Z,f3⟩:=zC c3 (λx=>decide (J (cv x,())=some true)) _ bx;have bb:∀ j,(xs.map cv)[j]?=(xs[j]?).map cv:=λj=>BW
  refine (ad.some_ w g xs.length fc H fi dc (λj=>match xs[j]? with|some x=>decide (J (cv x,())=some true)|none=>false) p eg l0.one fd b3 ?_ ?_ ?_ (a0 _ _ hi)).mono λen w'=>?_
  ·rw[bb,BD b3,Option.map_some,BS]at hx;simp only[BD b3,hx,et,decide_true]
  ·intro j hj;have cx:j<xs.length:=by omega
   have:=b9 j (cv xs[j]) hj (by rw[bb,BD cx];rfl);simp only[BD cx,this];simp
  ·intro w1 cw ec j hj;have ed:=BD hj;obtain⟨c,h3,h4⟩:=f7 j xs[j] ed;have hc:(H.drop (j*e.cells)).take e.cells=c:=by
    refine BU λi=>?_
    rw[BO];split
    ·rename_i hi;have d2:i<c.length:=by rw[h3.len];exact hi
     rw[BP,h4 i c[i] (BD d2),BD d2]
    ·rename_i hi;exact (BL (by rw[h3.len];omega)).symm
   rw[hc];have cy:∀ k∈b4 j,k∈B0:=λk r=>by rw[hB];exact dV.2 ⟨j,hj,r⟩
   have eb:∀ k∈b4 j,k<w.heap.size:=λk r=>a1 k (by rw[O];exact BM _ (cy k r))
   have M1:Mx w1 (λ_=>False) e none 0 xs[j] c (b4 j):=h3.carry (λ_ h=>h) (λ_ h=>h.elim) (λk r=>ec k (eb k r) (ex k (cy k r)));have R1:Rd w1 (λk=>k<w1.heap.size) e' (cv xs[j]) c:=Rd.flags c1 (e7 _) (Mx.rd (λ_ h=>h.elim) (λk r=>BR (eb k r) cw) M1);obtain⟨b,hb⟩:=a6 xs[j] (List.getElem_mem hj);have:=c0 w1 cw (λk r=>ec k r.1 (λh=>r.2 (by rw[h,O];exact BN _ (by simp[B4])))) (cv xs[j],()) [.agg c.toArray] b ⟨.agg c.toArray,c,[],rfl,by unfold de;rw[d1];rfl,R1,rfl⟩ hb;refine Calls.mono (h:=this) λe2 w2 hp=>?_
   obtain⟨u,cu,rfl,X,a2,f6⟩:=hp;have X:cu=[u]:=X;have a2:cu=[.bool b]:=a2;rw[X]at a2;simp only[BK,and_true]at a2;refine⟨?_,f6⟩;rw[a2];simp only[ed,hb];cases b <;> simp
  ·rintro⟨v',rfl,r',z,a3⟩;rw[<- f3]at r';exact a4 _ v' w' _ B' r' z a3 L Z
theorem mI:∀ a:Ty,a.hd.cells=a.cells
 |.pair a b=>by show a.hd.cells+b.hd.cells=a.cells+b.cells;rw[mI a,mI b]
 |.list _ _ _=>rfl
 |.int _=>rfl
 |.bool=>rfl
 |.str=>rfl
 |.unit=>rfl
 |.hdr=>rfl
theorem Mx.hd {w w':World}{G G':Nat->Prop}:∀ {a:Ty} {pos:Nat} {x:a.den} {cs:List Value} {bs:List Nat},a.sh=a->Mx w G a none pos x cs bs->Mx w' G' a.hd none pos (hdD a x) cs bs
 |.int _,_,_,_,_,_,h=>h
 |.bool,_,_,_,_,_,h=>h
 |.str,_,_,_,_,_,h=>h
 |.unit,_,_,_,_,_,h=>h
 |.hdr,_,_,_,_,_,h=>h
 |.pair a b,pos,x,_,_,r,⟨O,M,z,R,J,H,u,I⟩=>by
  simp only[Ty.sh,Ty.pair.injEq]at r;exact⟨O,M,z,R,J,H,Mx.hd r.1 u,Mx.hd r.2 (Mx.pos I)⟩
 |.list m E e,_,X,cs,bs,r,h=>by
  simp only[Ty.sh,Ty.list.injEq]at r;obtain⟨rfl,_⟩:=r;rw[cm]at h;obtain⟨A,y,u,_⟩:=h.2;exact⟨⟨A,y,u⟩,h.1⟩
theorem ub {P:Program}{f:FuncId}{E:TypeId}{e:Ty}{H:Nat}{fr:Bool}(he:e.sh=e)
  (hs:bO P ⟨f,[.rd (.list false E e)],[.v (.list true E e)],fr,λx=>e8 e H x.1⟩):bO P ⟨f,[.rd (.list false E e)],[.v (.list true E e.hd)],true,λx=>qp e H x.1⟩:=by
 refine⟨hs.1,λw ro x vs a9 y r b0 a6 hy=>?_⟩;obtain⟨z,hz,rfl⟩:=BE.1 hy;obtain⟨⟨xs,⟨⟩⟩,⟨⟩⟩:=z;refine (hs.2 w ro x vs a9 _ r b0 a6 hz).mono λen w' hp=>?_
 obtain⟨v,us,N,O,a4,h1,M,a3,b3,a0,a5,ad,hN,J,Z,R,I⟩:=hp;obtain⟨u,a2,b,Y,e1,e2,⟨cs,a1,hm⟩,e3,e4⟩:=Z;refine⟨v,us,N,O,a4,h1,M,a3,b3,a0,a5,ad,hN,?_,⟨u,a2,b,Y,e1,e2,⟨cs,a1,?_⟩,e3,e4⟩,R,I⟩
 ·obtain⟨v1,b9,b1,ba,rfl,rfl,_,rfl,rfl⟩:=r
  match O,J with
  |[b2],J=>exact J
  |[],J=>exact J.elim
  |_::_::_,J=>exact (J.2:False).elim
 ·rw[bI (by simp)]at hm ⊢;obtain⟨v2,h2,X,b5,h3,h4,h5⟩:=hm;refine⟨v2,h2,X,b5,?_,?_,λj y hj=>?_⟩
  ·rw[mI,BI];exact h3
  ·rw[BI];exact h4
  ·rw[BW]at hj;obtain⟨x',b4,rfl⟩:=BE.1 hj;obtain⟨c,h6,h7⟩:=h5 j x' b4;exact⟨c,h6.hd he,λi u hi=>by rw[mI];exact h7 i u hi⟩
end Go.Proofs.YtaegajachoklkaaGreatEv
