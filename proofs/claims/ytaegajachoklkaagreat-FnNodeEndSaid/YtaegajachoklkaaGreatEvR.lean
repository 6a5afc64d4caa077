/- slices.DeleteFunc: from what its walk says to its contract; the headers of a copy. -/
import Derived.Test.YtaegajachoklkaaGreatEvQ
set_option linter.unusedVariables false
set_option linter.unusedSimpArgs false
open Bool renaming false_eq_true->BQ
open Go.Value renaming ownBlock->B4
open List renaming getElem?_eq_getElem->BD,append_nil->BF,flatten_cons->BG,flatten_nil->BH,length_map->BI,getElem?_eq_none->BL,mem_append_right->BM,mem_append_left->BN,getElem?_take->BO,getElem?_drop->BP,flatMap_cons->BT,ext_getElem?->BU,nodup_append->BV,getElem?_map->BW,filter_cons->BX,filter_nil->BY,length_nil->BZ,nil_append->B3
open List.Sublist renaming refl->BJ
open List.cons renaming injEq->BK
open Nat renaming lt_of_lt_of_le->BR
open Option renaming map_eq_some_iff->BE
open Option.some renaming injEq->BS
namespace Go.Proofs.YtaegajachoklkaaGreatEv
open Go Go.RowKit
def fG (s:Nat)(del:Nat->Bool)(flat:List Value):Nat->List Value
 |0=>[]
 |j+1=>fG s del flat j++(if del j=true then [] else (flat.drop (j*s)).take s)
def dD (del:Nat->Bool):Nat->Nat
 |0=>0
 |j+1=>dD del j+(if del j=true then 0 else 1)
theorem rU {α:Type}{z:α×Unit->Option Bool}:∀ {xs r:List α},lY z xs=some r->(∀ x∈xs,∃ b,z (x,())=some b)/\r=xs.filter (λx=>!decide (z (x,())=some true))
 |[],r,h=>by
  simp only[lY,BS]at h;subst h;exact⟨by simp,rfl⟩
 |x::xs,r,h=>by
  simp only[lY]at h;obtain⟨b,H,h⟩:=Option.bind_eq_some_iff.1 h;obtain⟨O,I,rfl⟩:=BE.1 h;obtain⟨J,M⟩:=rU I;subst M;refine⟨λy u=>?_,?_⟩
  ·rcases List.mem_cons.1 u with rfl|u
   ·exact⟨b,H⟩
   ·exact J y u
  ·cases b <;> simp[H]
theorem oH {f g:Nat->List Nat}(h:∀ j,(f j).Sublist (g j)):∀ l:List Nat,(l.flatMap f).Sublist (l.flatMap g)
 |[]=>BJ _
 |a::l=>by
  rw[BT,BT];exact (h a).append (oH h l)
theorem zC {w:World}{G:Nat->Prop}{e:Ty}{xs:List e.den}{flat:List Value}{B:List Nat}(H:Els w G e xs flat B)(p:e.den->Bool)(del:Nat->Bool)(z:∀ (j:Nat) (x:e.den),xs[j]?=some x->del j=p x) :
  ∃ Z,Els w G e (xs.filter λx=>!p x) (fG e.cells del flat xs.length) Z/\Z.Sublist B/\(xs.filter λx=>!p x).length=dD del xs.length:=by
 obtain⟨u,hB,hx⟩:=H.to;have J:∀ j,j<=xs.length->Els w G e ((xs.take j).filter λx=>!p x) (fG e.cells del flat j) ((List.range j).flatMap λi=>if del i=true then [] else u i)/\((xs.take j).filter λx=>!p x).length=dD del j:=by
  intro j;induction j with
  |zero=>intro _;exact⟨⟨rfl,rfl⟩,rfl⟩
  |succ j ih =>
   intro hj;have r:j<xs.length:=by omega
   obtain⟨O,y⟩:=ih (by omega);obtain⟨c,X,h4⟩:=hx j xs[j] (BD r);have R:=z j xs[j] (BD r);have hc:(flat.drop (j*e.cells)).take e.cells=c:=by
    refine BU λi=>?_
    rw[BO];split
    ·rename_i Y;have I:i<c.length:=by rw[X.len];exact Y
     rw[BP,h4 i c[i] (BD I),BD I]
    ·rename_i Y;exact (BL (by rw[X.len];omega)).symm
   rw[List.take_add_one,BD r,List.filter_append,List.range_succ,List.flatMap_append,List.length_append];simp only[fG,dD,List.flatMap_singleton,Option.toList_some,hc];cases M:del j with
   |true =>
    rw[M]at R;simp only[if_true,BF,BX,<- R,Bool.not_true,BQ,if_false,BY,BZ];exact⟨O,y⟩
   |false =>
    rw[M]at R;simp only[BQ,if_false,BX,<- R,Bool.not_false,if_true,BY,List.length_cons,BZ,y];exact⟨O.append ⟨c,u j,[],[],by simp,by simp,X,rfl,rfl⟩,trivial⟩
 obtain⟨O,y⟩:=J xs.length (Nat.le_refl _);rw[List.take_length]at O y;refine⟨_,O,?_,y⟩;rw[hB];exact oH (λj=>by split <;> simp) _
structure qU (P:Program) (f idx:FuncId) (E:TypeId) (s:Nat):Prop where
 none_:∀ (w:World) (v0 fv:Value) (n:Nat) (flat:List Value),Row w E s v0 n flat->Calls P idx #[v0,fv] w (λe w'=>e=.returned (.int .i64 (-1))/\Below w.heap.size w w') ->
  Calls P f #[v0,fv] w λe w'=>e=.returned v0/\Below w.heap.size w w'
 some_:∀ (w:World) (g n cap:Nat) (flat:List Value) (fi:FuncId) (caps:Array Value) (del:Nat->Bool) (p0:Nat),Row w E s (.slice (some ⟨g,0,none⟩) n cap) n flat->(∀ u∈flat,u.oneCell'=true)->fU P fi->p0<n->del p0=true->(∀ j,j<p0->del j=false) ->
  (∀ w1:World,w.heap.size<=w1.heap.size->(∀ k,k<w.heap.size->k≠g->w1.heap[k]?=w.heap[k]?)->∀ j,j<n->Calls P fi (#[.agg ((flat.drop (j*s)).take s).toArray]++caps) w1 (λe w2=>e=.returned (.bool (del j))/\Below w1.heap.size w1 w2)) ->
  Calls P idx #[.slice (some ⟨g,0,none⟩) n cap,.func (.func fi) #[] caps] w (λe w'=>e=.returned (.int .i64 p0)/\Below w.heap.size w w') ->
  Calls P f #[.slice (some ⟨g,0,none⟩) n cap,.func (.func fi) #[] caps] w λe w'=>∃ v',e=.returned v'/\Row w' E s v' (dD del n) (fG s del flat n)/\w.grownBy w' (some g)/\v'.ownBlock=some g
def nX {α β:Type}(xs:List α)(r:α×Unit->Option Bool)(o:Option ((Int×Unit)×β)):Prop :=
 ((∀ x∈xs,r (x,())=some false)/\∃ u,o=some ((-1,()),u)) \/
 ∃ p x u,xs[p]?=some x/\r (x,())=some true/\(∀ j y,j<p->xs[j]?=some y->r (y,())=some false)/\o=some ((((p:Nat):Int),()),u)
theorem AO {A u:Type}(h:A=u)(cv:A->u)(r:∀ x,HEq x (cv x))(xs:List A):HEq xs (xs.map cv):=by
 subst h;have:cv=id:=funext λx=>(eq_of_heq (r x)).symm
 subst this;simp
theorem nI {P:Program}{f idx:FuncId}{E:TypeId}{e e':Ty}{O es:Bool}{cv:e.den->e'.den}(ed:∀ x,HEq x (cv x))(c3:e.sh=e'.sh)
  {b4:ab [PK.rd (.list false E e'),PK.fn [e'] .bool]->Option (ai [RK.v (.int .i64)]×ah [PK.rd (.list false E e'),PK.fn [e'] .bool])}
  (hE:fU P f) (hd:e.shy=false) (d1:e'.isAgg=true) (e7:bP P ⟨idx,[.rd (.list false E e'),.fn [e'] .bool],[.v (.int .i64)],es,b4⟩)
  (cw:∀ (xs:List e'.den) (X:Tup [e']->Option Bool),xs.length<=1048576->(∀ x∈xs,∃ b,X (x,())=some b)->nX xs X (b4 (xs,X,())))
  (ad:qU P f idx E e.cells) :
  bP P ⟨f,[.own (.list true E e),.fn [e'] .bool],[.v (.list true E e)],O,λx=>gG e x.1 (λy=>x.2.1 (cv y.1,()))⟩:=by
 refine⟨hE,?_⟩;intro w ro x vs ba y c2 eb b3 hy;obtain⟨xs,X,_⟩:=x;obtain⟨v0,g4,b0,g8,rfl,rfl,⟨eg,c4,c0⟩,v1,g6,b1,g2,rfl,rfl,⟨fl,a3⟩,rfl,rfl⟩:=c2;have c4:eg=[v0]:=c4;subst c4 fl;have ec:=c0;rw[bJ (by simp)]at c0;obtain⟨u0,e0,H0⟩:=c0;simp only[BK,and_true]at e0;subst e0;obtain⟨I,B0,r0,J,l0⟩:=qT H0;have a3:ib P w (λk=>k<w.heap.size/\k∉([b0,[]]:List (List Nat)).flatten) [e'] .bool X v1:=a3;have hy:gG e xs (λy=>X (cv y.1,()))=some y:=hy;simp only[BG,BH,BF]at b3 eb a3 ⊢;unfold gG at hy;split at hy
 rotate_left
 ·cases hy
 rename_i cp;obtain⟨ys,bx,rfl⟩:=BE.1 hy;obtain⟨a5,rfl⟩:=rU bx;simp only at a5;have a1:∀ k∈b0,k<w.heap.size:=H0.lt;have hT:e.den=e'.den:=jA c3;have bl:nX (xs.map cv) X (b4 (xs.map cv,X,())):=cw _ _ (by rw[BI];exact cp) (λx hx=>by
  obtain⟨x',f1,rfl⟩:=List.mem_map.1 hx;exact a5 x' f1)
 have f2:Rd w (λk=>k<w.heap.size) (.list false E e') (xs.map cv) [v0] :=
  Rd.flags (a:=.list true E e) (by simp only[Ty.sh,c3]) (AO hT cv ed xs) (Mx.rd (λk r=>(eb k r).1) a1 ec)
 have Z:∀ (i:Int) (u:ah [PK.rd (.list false E e'),PK.fn [e'] .bool]),b4 (xs.map cv,X,())=some ((i,()),u)->Calls P idx #[v0,v1] w (λe w'=>e=.returned (.int .i64 i)/\Below w.heap.size w w'):=by
  intro i u hi;have:=e7.2 w (λk=>k<w.heap.size) (xs.map cv,X,()) [v0,v1] [[],[]] _
   ⟨v0,[v1],[],[[]],rfl,rfl,⟨rfl,[v0],rfl,f2⟩,v1,[],[],[],rfl,rfl,⟨rfl,ib.mono (λk r=>⟨r.1,by simp⟩) a3⟩,rfl,rfl⟩
   (λk r=>⟨r,by simp⟩) (by simp) hi
  refine this.mono λe w' hp=>?_
  obtain⟨v,us,N,fz,g3,rfl,a2,ej,f7,f3,ev,ex,_,_,e5,_,_⟩:=hp;refine⟨?_,⟨f7,f3,ev,ej,λk r=>ex k r (by simp)⟩⟩;obtain⟨u,fx,b,fr,e1,e2,⟨cs,Y,hm⟩,e3,e4⟩:=e5;subst e3;subst e1;have a2:v=u:=a2;subst a2;have Y:cs=[v]:=Y;have hm:cs=[.int .i64 i]:=hm.1;rw[Y]at hm;simp only[BK,and_true]at hm;rw[hm]
 have a9:∀ (ys:List e.den) (v':Value) (w':World) (b5:List Value) (B':List Nat),Row w' E e.cells v' ys.length b5->w.grownBy w' v0.ownBlock->v'.ownBlock=v0.ownBlock->Els w (λ_=>False) e ys b5 B'->B'.Sublist B0 ->
   tD ⟨f,[.own (.list true E e),.fn [e'] .bool],[.v (.list true E e)],O,λx=>gG e x.1 (λy=>x.2.1 (cv y.1,()))⟩ w ro [v0,v1] [b0,[]] ((ys,()),()) (.returned v') w':=by
  intro ys v' w' b5 B' r' z a6 L a0;have H:b0.Nodup:=b3;have hB:∀ k∈B',w'.heap[k]?=w.heap[k]?:=λk r=>by
   have ef:k∈B0:=a0.subset r;refine z.block k (a1 k (by rw[J];exact BM _ ef)) λh=>?_
   rw[J]at H;exact (BV.1 H).2.2 k (by rw[<- h];simp) k ef rfl
  have L':Els w' (λk=>False\/(O=false/\ro k)) e ys b5 B':=L.carry (λ_ h=>h.elim) (λ_ h=>h.elim) hB;have R:=vz r' L';rw[a6]at R;have M:(v0.ownBlock.toList++B').Sublist b0:=by rw[J];exact (BJ _).append a0
  refine⟨v',[v'],λ_=>False,[[],[]],[v0.ownBlock.toList++B'],rfl,rfl,z.size,z.os,z.tape,z.output,?_,?_,?_,?_,?_,?_⟩
  ·intro k r hn;refine z.block k r (λh=>hn ?_);simp only[BG,BH,BF];rw[J];exact BN _ (by rw[<- h];simp)
  ·intro k h;exact h.elim
  ·exact⟨rfl,rfl,trivial⟩
  ·refine⟨v',[],_,[],rfl,rfl,⟨[v'],rfl,?_⟩,rfl,rfl⟩;rw[bJ (by simp)];exact⟨v',rfl,R⟩
  ·simp only[BG,BH,BF,B3];exact b3.sublist M
  ·intro k r;simp only[BG,BH,BF,B3]at r;refine⟨⟨BR (a1 k (M.subset r)) z.size,.inr ?_⟩,λh=>h⟩;simp only[BG,BH,BF];exact M.subset r
 have cb:Els w (λ_=>False) e xs I B0:=l0.deep hd;rcases bl with ⟨fd,u,hi⟩|⟨p,x,u,hx,em,b9,hi⟩
 ·have bx:xs.filter (λx=>!decide (X (cv x,())=some true))=xs:=by
   rw[List.filter_eq_self];intro a ha;rw[fd (cv a) (List.mem_map_of_mem ha)];simp
  refine (ad.none_ w v0 v1 xs.length I r0 (Z _ _ hi)).mono λen w'=>?_
  rintro⟨rfl,hb⟩;rw[bx];exact a9 xs v0 w' I B0 (r0.same (λk r=>hb.block k (r0.lt k r))) ⟨hb.os,hb.tape,hb.output,hb.size,λk r _=>hb.block k r⟩ rfl cb (BJ _)
 ·obtain⟨fi,cx,rfl,et,bn⟩:=a3;have b2:p<xs.length:=by
   have:=(List.getElem?_eq_some_iff.1 hx).1
   rwa [BI]at this
  have f0:=r0;rcases r0.2 with ⟨_,h⟩|⟨g,fo,fv,mk,rfl,hg,g7,g5,g1,fc⟩
  ·exact absurd b2 (by rw[h];omega)
  obtain⟨ba,hB,f6⟩:=cb.to;have H:b0.Nodup:=b3;rw[J]at H;have f4:∀ k∈B0,k≠g:=λk r h=>(BV.1 H).2.2 g (by simp[B4]) k r h.symm
  have c1:∀ (j:Nat) (x:e.den),xs[j]?=some x->(λj=>match xs[j]? with|some x=>decide (X (cv x,())=some true)|none=>false) j=decide (X (cv x,())=some true):=λj x hj=>by simp only[hj]
  obtain⟨B',L,a0,f8⟩:=zC cb (λx=>decide (X (cv x,())=some true)) _ c1;have bb:∀ j,(xs.map cv)[j]?=(xs[j]?).map cv:=λj=>BW
  refine (ad.some_ w g xs.length fo I fi cx (λj=>match xs[j]? with|some x=>decide (X (cv x,())=some true)|none=>false) p f0 l0.one et b2 ?_ ?_ ?_ (Z _ _ hi)).mono λen w'=>?_
  ·rw[bb,BD b2,Option.map_some,BS]at hx;simp only[BD b2,hx,em,decide_true]
  ·intro j hj;have d2:j<xs.length:=by omega
   have:=b9 j (cv xs[j]) hj (by rw[bb,BD d2];rfl);simp only[BD d2,this];simp
  ·intro w1 cy cc j hj;have d3:=BD hj;obtain⟨c,h3,h4⟩:=f6 j xs[j] d3;have hc:(I.drop (j*e.cells)).take e.cells=c:=by
    refine BU λi=>?_
    rw[BO];split
    ·rename_i hi;have dc:i<c.length:=by rw[h3.len];exact hi
     rw[BP,h4 i c[i] (BD dc),BD dc]
    ·rename_i hi;exact (BL (by rw[h3.len];omega)).symm
   rw[hc];have dd:∀ k∈ba j,k∈B0:=λk r=>by rw[hB];exact dY.2 ⟨j,hj,r⟩
   have e6:∀ k∈ba j,k<w.heap.size:=λk r=>a1 k (by rw[J];exact BM _ (dd k r))
   have M1:Mx w1 (λ_=>False) e none 0 xs[j] c (ba j):=h3.carry (λ_ h=>h) (λ_ h=>h.elim) (λk r=>cc k (e6 k r) (f4 k (dd k r)));have R1:Rd w1 (λk=>k<w1.heap.size) e' (cv xs[j]) c:=Rd.flags c3 (ed _) (Mx.rd (λ_ h=>h.elim) (λk r=>BR (e6 k r) cy) M1);obtain⟨b,hb⟩:=a5 xs[j] (List.getElem_mem hj);have:=bn w1 cy (λk r=>cc k r.1 (λh=>r.2 (by rw[h,J];exact BN _ (by simp[B4])))) (cv xs[j],()) [.agg c.toArray] b ⟨.agg c.toArray,c,[],rfl,by unfold dg;rw[d1];rfl,R1,rfl⟩ hb;refine Calls.mono (h:=this) λe2 w2 hp=>?_
   obtain⟨u,cu,rfl,Y,a4,f5⟩:=hp;have Y:cu=[u]:=Y;have a4:cu=[.bool b]:=a4;rw[Y]at a4;simp only[BK,and_true]at a4;refine⟨?_,f5⟩;rw[a4];simp only[d3,hb];cases b <;> simp
  ·rintro⟨v',rfl,r',z,a6⟩;rw[<- f8]at r';exact a9 _ v' w' _ B' r' z a6 L a0
theorem mF:∀ a:Ty,a.hd.cells=a.cells
 |.pair a b=>by show a.hd.cells+b.hd.cells=a.cells+b.cells;rw[mF a,mF b]
 |.list _ _ _=>rfl
 |.int _=>rfl
 |.bool=>rfl
 |.str=>rfl
 |.unit=>rfl
 |.hdr=>rfl
theorem Mx.hd {w w':World}{G G':Nat->Prop}:∀ {a:Ty} {pos:Nat} {x:a.den} {cs:List Value} {bs:List Nat},a.sh=a->Mx w G a none pos x cs bs->Mx w' G' a.hd none pos (hdD a x) cs bs
 |.int _,_,_,_,_,_,h=>h
 |.bool,_,_,_,_,_,h=>h
 |.str,_,_,_,_,_,h=>h
 |.unit,_,_,_,_,_,h=>h
 |.hdr,_,_,_,_,_,h=>h
 |.pair a b,pos,x,_,_,r,⟨z,O,H,J,R,M,u,I⟩=>by
  simp only[Ty.sh,Ty.pair.injEq]at r;exact⟨z,O,H,J,R,M,Mx.hd r.1 u,Mx.hd r.2 (Mx.pos I)⟩
 |.list m E e,_,X,cs,bs,r,h=>by
  simp only[Ty.sh,Ty.list.injEq]at r;obtain⟨rfl,_⟩:=r;rw[cn]at h;obtain⟨A,y,u,_⟩:=h.2;exact⟨⟨A,y,u⟩,h.1⟩
theorem uc {P:Program}{f:FuncId}{E:TypeId}{e:Ty}{H:Nat}{fr:Bool}(he:e.sh=e)
  (hs:bP P ⟨f,[.rd (.list false E e)],[.v (.list true E e)],fr,λx=>fb e H x.1⟩):bP P ⟨f,[.rd (.list false E e)],[.v (.list true E e.hd)],true,λx=>qp e H x.1⟩:=by
 refine⟨hs.1,λw ro x vs a0 y r a5 b3 hy=>?_⟩;obtain⟨z,hz,rfl⟩:=BE.1 hy;obtain⟨⟨xs,⟨⟩⟩,⟨⟩⟩:=z;refine (hs.2 w ro x vs a0 _ r a5 b3 hz).mono λen w' hp=>?_
 obtain⟨v,us,N,R,a4,h1,M,a6,b5,a3,b0,b4,hN,J,Y,O,I⟩:=hp;obtain⟨u,ad,b,X,e1,e2,⟨cs,a9,hm⟩,e3,e4⟩:=Y;refine⟨v,us,N,R,a4,h1,M,a6,b5,a3,b0,b4,hN,?_,⟨u,ad,b,X,e1,e2,⟨cs,a9,?_⟩,e3,e4⟩,O,I⟩
 ·obtain⟨v1,b9,b1,ba,rfl,rfl,_,rfl,rfl⟩:=r
  match R,J with
  |[b2],J=>exact J
  |[],J=>exact J.elim
  |_::_::_,J=>exact (J.2:False).elim
 ·rw[bJ (by simp)]at hm ⊢;obtain⟨v2,h2,Z,a2,h3,h4,h5⟩:=hm;refine⟨v2,h2,Z,a2,?_,?_,λj y hj=>?_⟩
  ·rw[mF,BI];exact h3
  ·rw[BI];exact h4
  ·rw[BW]at hj;obtain⟨x',a1,rfl⟩:=BE.1 hj;obtain⟨c,h6,h7⟩:=h5 j x' a1;exact⟨c,h6.hd he,λi u hi=>by rw[mF];exact h7 i u hi⟩
end Go.Proofs.YtaegajachoklkaaGreatEv
