/- slices.DeleteFunc: from what its walk says to its contract; the headers of a copy. -/
import Derived.Test.YtadlacffdemoiaaGreatEvQ
set_option linter.unusedVariables false
set_option linter.unusedSimpArgs false
open Bool renaming false_eq_true->B6
open Go.Value renaming ownBlock->CH
open List renaming getElem?_eq_getElem->BQ,append_nil->BS,flatten_cons->BT,flatten_nil->BU,length_map->BV,getElem?_eq_none->BY,mem_append_right->BZ,mem_append_left->B3,getElem?_take->B4,getElem?_drop->B5,flatMap_cons->B9,ext_getElem?->CA,nodup_append->CB,getElem?_map->CC,filter_cons->CD,filter_nil->CE,length_nil->CF,nil_append->CG
open List.Sublist renaming refl->BW
open List.cons renaming injEq->BX
open Nat renaming lt_of_lt_of_le->B7
open Option renaming map_eq_some_iff->BR
open Option.some renaming injEq->B8
namespace Go.Proofs.YtadlacffdemoiaaGreatEv
open Go Go.RowKit
def fE (s:Nat)(del:Nat->Bool)(flat:List Value):Nat->List Value
 |0=>[]
 |j+1=>fE s del flat j++(if del j=true then [] else (flat.drop (j*s)).take s)
def dE (del:Nat->Bool):Nat->Nat
 |0=>0
 |j+1=>dE del j+(if del j=true then 0 else 1)
theorem sf {α:Type}{u:α×Unit->Option Bool}:∀ {xs r:List α},lY u xs=some r->(∀ x∈xs,∃ b,u (x,())=some b)/\r=xs.filter (λx=>!decide (u (x,())=some true))
 |[],r,h=>by
  simp only[lY,B8]at h;subst h;exact⟨by simp,rfl⟩
 |x::xs,r,h=>by
  simp only[lY]at h;obtain⟨b,H,h⟩:=Option.bind_eq_some_iff.1 h;obtain⟨O,J,rfl⟩:=BR.1 h;obtain⟨I,M⟩:=sf J;subst M;refine⟨λy z=>?_,?_⟩
  ·rcases List.mem_cons.1 z with rfl|z
   ·exact⟨b,H⟩
   ·exact I y z
  ·cases b <;> simp[H]
theorem oS {f g:Nat->List Nat}(h:∀ j,(f j).Sublist (g j)):∀ l:List Nat,(l.flatMap f).Sublist (l.flatMap g)
 |[]=>BW _
 |a::l=>by
  rw[B9,B9];exact (h a).append (oS h l)
theorem zE {w:World}{G:Nat->Prop}{e:Ty}{xs:List e.den}{flat:List Value}{B:List Nat}(H:Els w G e xs flat B)(p:e.den->Bool)(del:Nat->Bool)(O:∀ (j:Nat) (x:e.den),xs[j]?=some x->del j=p x) :
  ∃ Y,Els w G e (xs.filter λx=>!p x) (fE e.cells del flat xs.length) Y/\Y.Sublist B/\(xs.filter λx=>!p x).length=dE del xs.length:=by
 obtain⟨M,hB,hx⟩:=H.to;have I:∀ j,j<=xs.length->Els w G e ((xs.take j).filter λx=>!p x) (fE e.cells del flat j) ((List.range j).flatMap λi=>if del i=true then [] else M i)/\((xs.take j).filter λx=>!p x).length=dE del j:=by
  intro j;induction j with
  |zero=>intro _;exact⟨⟨rfl,rfl⟩,rfl⟩
  |succ j ih =>
   intro hj;have r:j<xs.length:=by omega
   obtain⟨u,J⟩:=ih (by omega);obtain⟨c,X,h4⟩:=hx j xs[j] (BQ r);have R:=O j xs[j] (BQ r);have hc:(flat.drop (j*e.cells)).take e.cells=c:=by
    refine CA λi=>?_
    rw[B4];split
    ·rename_i Z;have y:i<c.length:=by rw[X.len];exact Z
     rw[B5,h4 i c[i] (BQ y),BQ y]
    ·rename_i Z;exact (BY (by rw[X.len];omega)).symm
   rw[List.take_add_one,BQ r,List.filter_append,List.range_succ,List.flatMap_append,List.length_append];simp only[fE,dE,List.flatMap_singleton,Option.toList_some,hc];cases z:del j with
   |true =>
    rw[z]at R;simp only[if_true,BS,CD,<- R,Bool.not_true,B6,if_false,CE,CF];exact⟨u,J⟩
   |false =>
    rw[z]at R;simp only[B6,if_false,CD,<- R,Bool.not_false,if_true,CE,List.length_cons,CF,J];exact⟨u.append ⟨c,M j,[],[],by simp,by simp,X,rfl,rfl⟩,trivial⟩
 obtain⟨u,J⟩:=I xs.length (Nat.le_refl _);rw[List.take_length]at u J;refine⟨_,u,?_,J⟩;rw[hB];exact oS (λj=>by split <;> simp) _
structure ri (P:Program) (f idx:FuncId) (E:TypeId) (s:Nat):Prop where
 none_:∀ (w:World) (v0 fv:Value) (n:Nat) (flat:List Value),Row w E s v0 n flat->Calls P idx #[v0,fv] w (λe w'=>e=.returned (.int .i64 (-1))/\Below w.heap.size w w') ->
  Calls P f #[v0,fv] w λe w'=>e=.returned v0/\Below w.heap.size w w'
 some_:∀ (w:World) (g n cap:Nat) (flat:List Value) (fi:FuncId) (caps:Array Value) (del:Nat->Bool) (p0:Nat),Row w E s (.slice (some ⟨g,0,none⟩) n cap) n flat->(∀ u∈flat,u.oneCell'=true)->fW P fi->p0<n->del p0=true->(∀ j,j<p0->del j=false) ->
  (∀ w1:World,w.heap.size<=w1.heap.size->(∀ k,k<w.heap.size->k≠g->w1.heap[k]?=w.heap[k]?)->∀ j,j<n->Calls P fi (#[.agg ((flat.drop (j*s)).take s).toArray]++caps) w1 (λe w2=>e=.returned (.bool (del j))/\Below w1.heap.size w1 w2)) ->
  Calls P idx #[.slice (some ⟨g,0,none⟩) n cap,.func (.func fi) #[] caps] w (λe w'=>e=.returned (.int .i64 p0)/\Below w.heap.size w w') ->
  Calls P f #[.slice (some ⟨g,0,none⟩) n cap,.func (.func fi) #[] caps] w λe w'=>∃ v',e=.returned v'/\Row w' E s v' (dE del n) (fE s del flat n)/\w.grownBy w' (some g)/\v'.ownBlock=some g
def oj {α β:Type}(xs:List α)(r:α×Unit->Option Bool)(o:Option ((Int×Unit)×β)):Prop :=
 ((∀ x∈xs,r (x,())=some false)/\∃ u,o=some ((-1,()),u)) \/
 ∃ p x u,xs[p]?=some x/\r (x,())=some true/\(∀ j y,j<p->xs[j]?=some y->r (y,())=some false)/\o=some ((((p:Nat):Int),()),u)
theorem AT {A u:Type}(h:A=u)(cv:A->u)(r:∀ x,HEq x (cv x))(xs:List A):HEq xs (xs.map cv):=by
 subst h;have:cv=id:=funext λx=>(eq_of_heq (r x)).symm
 subst this;simp
theorem nN {P:Program}{f idx:FuncId}{E:TypeId}{e e':Ty}{Y ev:Bool}{cv:e.den->e'.den}(cw:∀ x,HEq x (cv x))(c0:e.sh=e'.sh)
  {b2:ab [PK.rd (.list false E e'),PK.fn [e'] .bool]->Option (aj [RK.v (.int .i64)]×ai [PK.rd (.list false E e'),PK.fn [e'] .bool])}
  (hE:fW P f) (hd:e.shy=false) (cp:e'.isAgg=true) (dc:bP P ⟨idx,[.rd (.list false E e'),.fn [e'] .bool],[.v (.int .i64)],ev,b2⟩)
  (dd:∀ (xs:List e'.den) (X:Tup [e']->Option Bool),xs.length<=1048576->(∀ x∈xs,∃ b,X (x,())=some b)->oj xs X (b2 (xs,X,())))
  (a3:ri P f idx E e.cells) :
  bP P ⟨f,[.own (.list true E e),.fn [e'] .bool],[.v (.list true E e)],Y,λx=>gP e x.1 (λy=>x.2.1 (cv y.1,()))⟩:=by
 refine⟨hE,?_⟩;intro w ro x vs b9 y c3 cb b6 hy;obtain⟨xs,X,_⟩:=x;obtain⟨v0,fr,b0,g3,rfl,rfl,⟨f7,bl,c1⟩,v1,fl,b1,fd,rfl,rfl,⟨ec,ad⟩,rfl,rfl⟩:=c3;have bl:f7=[v0]:=bl;subst bl ec;have d3:=c1;rw[bJ (by simp)]at c1;obtain⟨u0,e0,H0⟩:=c1;simp only[BX,and_true]at e0;subst e0;obtain⟨H,B0,r0,O,l0⟩:=rh H0;have ad:il P w (λk=>k<w.heap.size/\k∉([b0,[]]:List (List Nat)).flatten) [e'] .bool X v1:=ad;have hy:gP e xs (λy=>X (cv y.1,()))=some y:=hy;simp only[BT,BU,BS]at b6 cb ad ⊢;unfold gP at hy;split at hy
 rotate_left
 ·cases hy
 rename_i d2;obtain⟨ys,bx,rfl⟩:=BR.1 hy;obtain⟨a6,rfl⟩:=sf bx;simp only at a6;have a1:∀ k∈b0,k<w.heap.size:=H0.lt;have hT:e.den=e'.den:=jy c0;have bn:oj (xs.map cv) X (b2 (xs.map cv,X,())):=dd _ _ (by rw[BV];exact d2) (λx hx=>by
  obtain⟨x',f0,rfl⟩:=List.mem_map.1 hx;exact a6 x' f0)
 have ej:Rd w (λk=>k<w.heap.size) (.list false E e') (xs.map cv) [v0] :=
  Rd.flags (a:=.list true E e) (by simp only[Ty.sh,c0]) (AT hT cv cw xs) (Mx.rd (λk r=>(cb k r).1) a1 d3)
 have a0:∀ (i:Int) (u:ai [PK.rd (.list false E e'),PK.fn [e'] .bool]),b2 (xs.map cv,X,())=some ((i,()),u)->Calls P idx #[v0,v1] w (λe w'=>e=.returned (.int .i64 i)/\Below w.heap.size w w'):=by
  intro i u hi;have:=dc.2 w (λk=>k<w.heap.size) (xs.map cv,X,()) [v0,v1] [[],[]] _
   ⟨v0,[v1],[],[[]],rfl,rfl,⟨rfl,[v0],rfl,ej⟩,v1,[],[],[],rfl,rfl,⟨rfl,il.mono (λk r=>⟨r.1,by simp⟩) ad⟩,rfl,rfl⟩
   (λk r=>⟨r,by simp⟩) (by simp) hi
  refine this.mono λe w' hp=>?_
  obtain⟨v,us,N,fv,fx,rfl,a2,f1,f8,ex,f5,f4,_,_,cc,_,_⟩:=hp;refine⟨?_,⟨f8,ex,f5,f1,λk r=>f4 k r (by simp)⟩⟩;obtain⟨u,fo,b,fc,e1,e2,⟨cs,J,hm⟩,e3,e4⟩:=cc;subst e3;subst e1;have a2:v=u:=a2;subst a2;have J:cs=[v]:=J;have hm:cs=[.int .i64 i]:=hm.1;rw[J]at hm;simp only[BX,and_true]at hm;rw[hm]
 have a5:∀ (ys:List e.den) (v':Value) (w':World) (b4:List Value) (B':List Nat),Row w' E e.cells v' ys.length b4->w.grownBy w' v0.ownBlock->v'.ownBlock=v0.ownBlock->Els w (λ_=>False) e ys b4 B'->B'.Sublist B0 ->
   tP ⟨f,[.own (.list true E e),.fn [e'] .bool],[.v (.list true E e)],Y,λx=>gP e x.1 (λy=>x.2.1 (cv y.1,()))⟩ w ro [v0,v1] [b0,[]] ((ys,()),()) (.returned v') w':=by
  intro ys v' w' b4 B' r' z a9 L Z;have I:b0.Nodup:=b6;have hB:∀ k∈B',w'.heap[k]?=w.heap[k]?:=λk r=>by
   have cx:k∈B0:=Z.subset r;refine z.block k (a1 k (by rw[O];exact BZ _ cx)) λh=>?_
   rw[O]at I;exact (CB.1 I).2.2 k (by rw[<- h];simp) k cx rfl
  have L':Els w' (λk=>False\/(Y=false/\ro k)) e ys b4 B':=L.carry (λ_ h=>h.elim) (λ_ h=>h.elim) hB;have R:=vJ r' L';rw[a9]at R;have M:(v0.ownBlock.toList++B').Sublist b0:=by rw[O];exact (BW _).append Z
  refine⟨v',[v'],λ_=>False,[[],[]],[v0.ownBlock.toList++B'],rfl,rfl,z.size,z.os,z.tape,z.output,?_,?_,?_,?_,?_,?_⟩
  ·intro k r hn;refine z.block k r (λh=>hn ?_);simp only[BT,BU,BS];rw[O];exact B3 _ (by rw[<- h];simp)
  ·intro k h;exact h.elim
  ·exact⟨rfl,rfl,trivial⟩
  ·refine⟨v',[],_,[],rfl,rfl,⟨[v'],rfl,?_⟩,rfl,rfl⟩;rw[bJ (by simp)];exact⟨v',rfl,R⟩
  ·simp only[BT,BU,BS,CG];exact b6.sublist M
  ·intro k r;simp only[BT,BU,BS,CG]at r;refine⟨⟨B7 (a1 k (M.subset r)) z.size,.inr ?_⟩,λh=>h⟩;simp only[BT,BU,BS];exact M.subset r
 have bb:Els w (λ_=>False) e xs H B0:=l0.deep hd;rcases bn with ⟨eg,u,hi⟩|⟨p,x,u,hx,es,b3,hi⟩
 ·have bx:xs.filter (λx=>!decide (X (cv x,())=some true))=xs:=by
   rw[List.filter_eq_self];intro a ha;rw[eg (cv a) (List.mem_map_of_mem ha)];simp
  refine (a3.none_ w v0 v1 xs.length H r0 (a0 _ _ hi)).mono λen w'=>?_
  rintro⟨rfl,hb⟩;rw[bx];exact a5 xs v0 w' H B0 (r0.same (λk r=>hb.block k (r0.lt k r))) ⟨hb.os,hb.tape,hb.output,hb.size,λk r _=>hb.block k r⟩ rfl bb (BW _)
 ·obtain⟨fi,eb,rfl,em,c4⟩:=ad;have b5:p<xs.length:=by
   have:=(List.getElem?_eq_some_iff.1 hx).1
   rwa [BV]at this
  have et:=r0;rcases r0.2 with ⟨_,h⟩|⟨g,ey,g2,mk,rfl,hg,g4,g1,fz,ef⟩
  ·exact absurd b5 (by rw[h];omega)
  obtain⟨b9,hB,f3⟩:=bb.to;have I:b0.Nodup:=b6;rw[O]at I;have ed:∀ k∈B0,k≠g:=λk r h=>(CB.1 I).2.2 g (by simp[CH]) k r h.symm
  have c2:∀ (j:Nat) (x:e.den),xs[j]?=some x->(λj=>match xs[j]? with|some x=>decide (X (cv x,())=some true)|none=>false) j=decide (X (cv x,())=some true):=λj x hj=>by simp only[hj]
  obtain⟨B',L,Z,f6⟩:=zE bb (λx=>decide (X (cv x,())=some true)) _ c2;have ba:∀ j,(xs.map cv)[j]?=(xs[j]?).map cv:=λj=>CC
  refine (a3.some_ w g xs.length ey H fi eb (λj=>match xs[j]? with|some x=>decide (X (cv x,())=some true)|none=>false) p et l0.one em b5 ?_ ?_ ?_ (a0 _ _ hi)).mono λen w'=>?_
  ·rw[ba,BQ b5,Option.map_some,B8]at hx;simp only[BQ b5,hx,es,decide_true]
  ·intro j hj;have c6:j<xs.length:=by omega
   have:=b3 j (cv xs[j]) hj (by rw[ba,BQ c6];rfl);simp only[BQ c6,this];simp
  ·intro w1 c5 e6 j hj;have d1:=BQ hj;obtain⟨c,h3,h4⟩:=f3 j xs[j] d1;have hc:(H.drop (j*e.cells)).take e.cells=c:=by
    refine CA λi=>?_
    rw[B4];split
    ·rename_i hi;have e5:i<c.length:=by rw[h3.len];exact hi
     rw[B5,h4 i c[i] (BQ e5),BQ e5]
    ·rename_i hi;exact (BY (by rw[h3.len];omega)).symm
   rw[hc];have cy:∀ k∈b9 j,k∈B0:=λk r=>by rw[hB];exact dX.2 ⟨j,hj,r⟩
   have e7:∀ k∈b9 j,k<w.heap.size:=λk r=>a1 k (by rw[O];exact BZ _ (cy k r))
   have M1:Mx w1 (λ_=>False) e none 0 xs[j] c (b9 j):=h3.carry (λ_ h=>h) (λ_ h=>h.elim) (λk r=>e6 k (e7 k r) (ed k (cy k r)));have R1:Rd w1 (λk=>k<w1.heap.size) e' (cv xs[j]) c:=Rd.flags c0 (cw _) (Mx.rd (λ_ h=>h.elim) (λk r=>B7 (e7 k r) c5) M1);obtain⟨b,hb⟩:=a6 xs[j] (List.getElem_mem hj);have:=c4 w1 c5 (λk r=>e6 k r.1 (λh=>r.2 (by rw[h,O];exact B3 _ (by simp[CH])))) (cv xs[j],()) [.agg c.toArray] b ⟨.agg c.toArray,c,[],rfl,by unfold di;rw[cp];rfl,R1,rfl⟩ hb;refine Calls.mono (h:=this) λe2 w2 hp=>?_
   obtain⟨u,cu,rfl,J,a4,f2⟩:=hp;have J:cu=[u]:=J;have a4:cu=[.bool b]:=a4;rw[J]at a4;simp only[BX,and_true]at a4;refine⟨?_,f2⟩;rw[a4];simp only[d1,hb];cases b <;> simp
  ·rintro⟨v',rfl,r',z,a9⟩;rw[<- f6]at r';exact a5 _ v' w' _ B' r' z a9 L Z
theorem mK:∀ a:Ty,a.hd.cells=a.cells
 |.pair a b=>by show a.hd.cells+b.hd.cells=a.cells+b.cells;rw[mK a,mK b]
 |.list _ _ _=>rfl
 |.int _=>rfl
 |.bool=>rfl
 |.str=>rfl
 |.unit=>rfl
 |.hdr=>rfl
theorem Mx.hd {w w':World}{G G':Nat->Prop}:∀ {a:Ty} {pos:Nat} {x:a.den} {cs:List Value} {bs:List Nat},a.sh=a->Mx w G a none pos x cs bs->Mx w' G' a.hd none pos (hdD a x) cs bs
 |.int _,_,_,_,_,_,h=>h
 |.bool,_,_,_,_,_,h=>h
 |.str,_,_,_,_,_,h=>h
 |.unit,_,_,_,_,_,h=>h
 |.hdr,_,_,_,_,_,h=>h
 |.pair a b,pos,x,_,_,r,⟨z,M,I,R,J,H,u,O⟩=>by
  simp only[Ty.sh,Ty.pair.injEq]at r;exact⟨z,M,I,R,J,H,Mx.hd r.1 u,Mx.hd r.2 (Mx.pos O)⟩
 |.list m E e,_,X,cs,bs,r,h=>by
  simp only[Ty.sh,Ty.list.injEq]at r;obtain⟨rfl,_⟩:=r;rw[cr]at h;obtain⟨A,y,u,_⟩:=h.2;exact⟨⟨A,y,u⟩,h.1⟩
theorem BN {P:Program}{f:FuncId}{E:TypeId}{e:Ty}{r:Nat}{fr:Bool}(he:e.sh=e)
  (hs:bP P ⟨f,[.rd (.list false E e)],[.v (.list true E e)],fr,λx=>fR e r x.1⟩):bP P ⟨f,[.rd (.list false E e)],[.v (.list true E e.hd)],true,λx=>zT e r x.1⟩:=by
 refine⟨hs.1,λw ro x vs b3 y H b5 b0 hy=>?_⟩;obtain⟨z,hz,rfl⟩:=BR.1 hy;obtain⟨⟨xs,⟨⟩⟩,⟨⟩⟩:=z;refine (hs.2 w ro x vs b3 _ H b5 b0 hz).mono λen w' hp=>?_
 obtain⟨v,us,N,Y,a0,h1,X,b4,ad,a1,a6,a2,hN,J,Z,O,I⟩:=hp;obtain⟨u,a3,b,M,e1,e2,⟨cs,a5,hm⟩,e3,e4⟩:=Z;refine⟨v,us,N,Y,a0,h1,X,b4,ad,a1,a6,a2,hN,?_,⟨u,a3,b,M,e1,e2,⟨cs,a5,?_⟩,e3,e4⟩,O,I⟩
 ·obtain⟨v1,b9,b1,b6,rfl,rfl,_,rfl,rfl⟩:=H
  match Y,J with
  |[b2],J=>exact J
  |[],J=>exact J.elim
  |_::_::_,J=>exact (J.2:False).elim
 ·rw[bJ (by simp)]at hm ⊢;obtain⟨v2,h2,R,a4,h3,h4,h5⟩:=hm;refine⟨v2,h2,R,a4,?_,?_,λj y hj=>?_⟩
  ·rw[mK,BV];exact h3
  ·rw[BV];exact h4
  ·rw[CC]at hj;obtain⟨x',a9,rfl⟩:=BR.1 hj;obtain⟨c,h6,h7⟩:=h5 j x' a9;exact⟨c,h6.hd he,λi u hi=>by rw[mK];exact h7 i u hi⟩
end Go.Proofs.YtadlacffdemoiaaGreatEv
