/- slices.DeleteFunc: from what its walk says to its contract; the headers of a copy. -/
import Derived.Test.YtmibehbhnkeaiaaGreatEvQ
set_option linter.unusedVariables false
set_option linter.unusedSimpArgs false
open Bool renaming false_eq_true->FW
open Go.Value renaming ownBlock->F7
open List renaming getElem?_eq_getElem->FJ,append_nil->FL,flatten_cons->FM,flatten_nil->FN,length_map->FO,getElem?_eq_none->FR,mem_append_right->FS,mem_append_left->FT,getElem?_take->FU,getElem?_drop->FV,flatMap_cons->FZ,ext_getElem?->F0,nodup_append->F1,getElem?_map->F2,filter_cons->F3,filter_nil->F4,length_nil->F5,nil_append->F6
open List.Sublist renaming refl->FP
open List.cons renaming injEq->FQ
open Nat renaming lt_of_lt_of_le->FX
open Option renaming map_eq_some_iff->FK
open Option.some renaming injEq->FY
namespace Go.Proofs.YtmibehbhnkeaiaaGreatEv
open Go Go.RowKit
def kept (s:Nat)(del:Nat->Bool)(flat:List Value):Nat->List Value
 |0=>[]
 |j+1=>kept s del flat j++(if del j=true then [] else (flat.drop (j*s)).take s)
def dN (del:Nat->Bool):Nat->Nat
 |0=>0
 |j+1=>dN del j+(if del j=true then 0 else 1)
theorem tk {α:Type}{z:α×Unit->Option Bool}:∀ {xs r:List α},mK z xs=some r->(∀ x∈xs,∃ b,z (x,())=some b)/\r=xs.filter (λx=>!decide (z (x,())=some true))
 |[],r,h=>by
  simp only[mK,FY]at h;subst h;exact⟨by simp,rfl⟩
 |x::xs,r,h=>by
  simp only[mK]at h;obtain⟨b,H,h⟩:=Option.bind_eq_some_iff.1 h;obtain⟨O,M,rfl⟩:=FK.1 h;obtain⟨I,J⟩:=tk M;subst J;refine⟨λy u=>?_,?_⟩
  ·rcases List.mem_cons.1 u with rfl|u
   ·exact⟨b,H⟩
   ·exact I y u
  ·cases b <;> simp[H]
theorem pO {f g:Nat->List Nat}(h:∀ j,(f j).Sublist (g j)):∀ l:List Nat,(l.flatMap f).Sublist (l.flatMap g)
 |[]=>FP _
 |a::l=>by
  rw[FZ,FZ];exact (h a).append (pO h l)
theorem AR {w:World}{G:Nat->Prop}{e:Ty}{xs:List e.den}{flat:List Value}{B:List Nat}(H:Els w G e xs flat B)(p:e.den->Bool)(del:Nat->Bool)(I:∀ (j:Nat) (x:e.den),xs[j]?=some x->del j=p x) :
  ∃ Y,Els w G e (xs.filter λx=>!p x) (kept e.cells del flat xs.length) Y/\Y.Sublist B/\(xs.filter λx=>!p x).length=dN del xs.length:=by
 obtain⟨u,hB,hx⟩:=H.to;have O:∀ j,j<=xs.length->Els w G e ((xs.take j).filter λx=>!p x) (kept e.cells del flat j) ((List.range j).flatMap λi=>if del i=true then [] else u i)/\((xs.take j).filter λx=>!p x).length=dN del j:=by
  intro j;induction j with
  |zero=>intro _;exact⟨⟨rfl,rfl⟩,rfl⟩
  |succ j ih =>
   intro hj;have r:j<xs.length:=by omega
   obtain⟨y,z⟩:=ih (by omega);obtain⟨c,X,h4⟩:=hx j xs[j] (FJ r);have R:=I j xs[j] (FJ r);have hc:(flat.drop (j*e.cells)).take e.cells=c:=by
    refine F0 λi=>?_
    rw[FU];split
    ·rename_i Z;have M:i<c.length:=by rw[X.len];exact Z
     rw[FV,h4 i c[i] (FJ M),FJ M]
    ·rename_i Z;exact (FR (by rw[X.len];omega)).symm
   rw[List.take_add_one,FJ r,List.filter_append,List.range_succ,List.flatMap_append,List.length_append];simp only[kept,dN,List.flatMap_singleton,Option.toList_some,hc];cases J:del j with
   |true =>
    rw[J]at R;simp only[if_true,FL,F3,<- R,Bool.not_true,FW,if_false,F4,F5];exact⟨y,z⟩
   |false =>
    rw[J]at R;simp only[FW,if_false,F3,<- R,Bool.not_false,if_true,F4,List.length_cons,F5,z];exact⟨y.append ⟨c,u j,[],[],by simp,by simp,X,rfl,rfl⟩,trivial⟩
 obtain⟨y,z⟩:=O xs.length (Nat.le_refl _);rw[List.take_length]at y z;refine⟨_,y,?_,z⟩;rw[hB];exact pO (λj=>by split <;> simp) _
structure si (P:Program) (f idx:FuncId) (E:TypeId) (s:Nat):Prop where
 none_:∀ (w:World) (v0 fv:Value) (n:Nat) (flat:List Value),Row w E s v0 n flat->Calls P idx #[v0,fv] w (λe w'=>e=.returned (.int .i64 (-1))/\Below w.heap.size w w') ->
  Calls P f #[v0,fv] w λe w'=>e=.returned v0/\Below w.heap.size w w'
 some_:∀ (w:World) (g n cap:Nat) (flat:List Value) (fi:FuncId) (caps:Array Value) (del:Nat->Bool) (p0:Nat),Row w E s (.slice (some ⟨g,0,none⟩) n cap) n flat->(∀ u∈flat,u.oneCell'=true)->fR P fi->p0<n->del p0=true->(∀ j,j<p0->del j=false) ->
  (∀ w1:World,w.heap.size<=w1.heap.size->(∀ k,k<w.heap.size->k≠g->w1.heap[k]?=w.heap[k]?)->∀ j,j<n->Calls P fi (#[.agg ((flat.drop (j*s)).take s).toArray]++caps) w1 (λe w2=>e=.returned (.bool (del j))/\Below w1.heap.size w1 w2)) ->
  Calls P idx #[.slice (some ⟨g,0,none⟩) n cap,.func (.func fi) #[] caps] w (λe w'=>e=.returned (.int .i64 p0)/\Below w.heap.size w w') ->
  Calls P f #[.slice (some ⟨g,0,none⟩) n cap,.func (.func fi) #[] caps] w λe w'=>∃ v',e=.returned v'/\Row w' E s v' (dN del n) (kept s del flat n)/\w.grownBy w' (some g)/\v'.ownBlock=some g
def pf {α β:Type}(xs:List α)(r:α×Unit->Option Bool)(o:Option ((Int×Unit)×β)):Prop :=
 ((∀ x∈xs,r (x,())=some false)/\∃ u,o=some ((-1,()),u)) \/
 ∃ p x u,xs[p]?=some x/\r (x,())=some true/\(∀ j y,j<p->xs[j]?=some y->r (y,())=some false)/\o=some ((((p:Nat):Int),()),u)
theorem Ci {A u:Type}(h:A=u)(cv:A->u)(r:∀ x,HEq x (cv x))(xs:List A):HEq xs (xs.map cv):=by
 subst h;have:cv=id:=funext λx=>(eq_of_heq (r x)).symm
 subst this;simp
theorem oR {P:Program}{f idx:FuncId}{E:TypeId}{e e':Ty}{M d5:Bool}{cv:e.den->e'.den}(c2:∀ x,HEq x (cv x))(bb:e.sh=e'.sh)
  {den:ab [PK.rd (.list false E e'),PK.fn [e'] .bool]->Option (ai [RK.v (.int .i64)]×ag [PK.rd (.list false E e'),PK.fn [e'] .bool])}
  (hE:fR P f) (hd:e.shy=false) (bx:e'.isAgg=true) (c5:bI P ⟨idx,[.rd (.list false E e'),.fn [e'] .bool],[.v (.int .i64)],d5,den⟩)
  (c3:∀ (xs:List e'.den) (Y:Tup [e']->Option Bool),xs.length<=1048576->(∀ x∈xs,∃ b,Y (x,())=some b)->pf xs Y (den (xs,Y,())))
  (a8:si P f idx E e.cells) :
  bI P ⟨f,[.own (.list true E e),.fn [e'] .bool],[.v (.list true E e)],M,λx=>ir e x.1 (λy=>x.2.1 (cv y.1,()))⟩:=by
 refine⟨hE,?_⟩;intro w ro x vs a9 y b3 cy ay hy;obtain⟨xs,Y,_⟩:=x;obtain⟨v0,f7,b0,ex,rfl,rfl,⟨d4,b9,b6⟩,v1,f8,b1,ey,rfl,rfl,⟨d6,a3⟩,rfl,rfl⟩:=b3;have b9:d4=[v0]:=b9;subst b9 d6;have cw:=b6;rw[bF (by simp)]at b6;obtain⟨u0,e0,H0⟩:=b6;simp only[FQ,and_true]at e0;subst e0;obtain⟨H,B0,r0,J,l0⟩:=pe H0;have a3:iQ P w (λk=>k<w.heap.size/\k∉([b0,[]]:List (List Nat)).flatten) [e'] .bool Y v1:=a3;have hy:ir e xs (λy=>Y (cv y.1,()))=some y:=hy;simp only[FM,FN,FL]at ay cy a3 ⊢;unfold ir at hy;split at hy
 rotate_left
 ·cases hy
 rename_i cp;obtain⟨ys,bl,rfl⟩:=FK.1 hy;obtain⟨a2,rfl⟩:=tk bl;simp only at a2;have a0:∀ k∈b0,k<w.heap.size:=H0.lt;have hT:e.den=e'.den:=ke bb;have ba:pf (xs.map cv) Y (den (xs.map cv,Y,())):=c3 _ _ (by rw[FO];exact cp) (λx hx=>by
  obtain⟨x',em,rfl⟩:=List.mem_map.1 hx;exact a2 x' em)
 have ed:Rd w (λk=>k<w.heap.size) (.list false E e') (xs.map cv) [v0] :=
  Rd.flags (a:=.list true E e) (by simp only[Ty.sh,bb]) (Ci hT cv c2 xs) (Mx.rd (λk r=>(cy k r).1) a0 cw)
 have Z:∀ (i:Int) (u:ag [PK.rd (.list false E e'),PK.fn [e'] .bool]),den (xs.map cv,Y,())=some ((i,()),u)->Calls P idx #[v0,v1] w (λe w'=>e=.returned (.int .i64 i)/\Below w.heap.size w w'):=by
  intro i u hi;have:=c5.2 w (λk=>k<w.heap.size) (xs.map cv,Y,()) [v0,v1] [[],[]] _
   ⟨v0,[v1],[],[[]],rfl,rfl,⟨rfl,[v0],rfl,ed⟩,v1,[],[],[],rfl,rfl,⟨rfl,iQ.mono (λk r=>⟨r.1,by simp⟩) a3⟩,rfl,rfl⟩
   (λk r=>⟨r,by simp⟩) (by simp) hi
  refine this.mono λe w' hp=>?_
  obtain⟨v,us,N,f4,f5,rfl,a6,ef,eb,ej,ec,e5,_,_,cx,_,_⟩:=hp;refine⟨?_,⟨eb,ej,ec,ef,λk r=>e5 k r (by simp)⟩⟩;obtain⟨u,f6,b,ev,e1,e2,⟨cs,X,hm⟩,e3,e4⟩:=cx;subst e3;subst e1;have a6:v=u:=a6;subst a6;have X:cs=[v]:=X;have hm:cs=[.int .i64 i]:=hm.1;rw[X]at hm;simp only[FQ,and_true]at hm;rw[hm]
 have a5:∀ (ys:List e.den) (v':Value) (w':World) (ad:List Value) (B':List Nat),Row w' E e.cells v' ys.length ad->w.grownBy w' v0.ownBlock->v'.ownBlock=v0.ownBlock->Els w (λ_=>False) e ys ad B'->B'.Sublist B0 ->
   uN ⟨f,[.own (.list true E e),.fn [e'] .bool],[.v (.list true E e)],M,λx=>ir e x.1 (λy=>x.2.1 (cv y.1,()))⟩ w ro [v0,v1] [b0,[]] ((ys,()),()) (.returned v') w':=by
  intro ys v' w' ad B' r' z a4 L a1;have I:b0.Nodup:=ay;have hB:∀ k∈B',w'.heap[k]?=w.heap[k]?:=λk r=>by
   have cb:k∈B0:=a1.subset r;refine z.block k (a0 k (by rw[J];exact FS _ cb)) λh=>?_
   rw[J]at I;exact (F1.1 I).2.2 k (by rw[<- h];simp) k cb rfl
  have L':Els w' (λk=>False\/(M=false/\ro k)) e ys ad B':=L.carry (λ_ h=>h.elim) (λ_ h=>h.elim) hB;have R:=sg r' L';rw[a4]at R;have O:(v0.ownBlock.toList++B').Sublist b0:=by rw[J];exact (FP _).append a1
  refine⟨v',[v'],λ_=>False,[[],[]],[v0.ownBlock.toList++B'],rfl,rfl,z.size,z.os,z.tape,z.output,?_,?_,?_,?_,?_,?_⟩
  ·intro k r hn;refine z.block k r (λh=>hn ?_);simp only[FM,FN,FL];rw[J];exact FT _ (by rw[<- h];simp)
  ·intro k h;exact h.elim
  ·exact⟨rfl,rfl,trivial⟩
  ·refine⟨v',[],_,[],rfl,rfl,⟨[v'],rfl,?_⟩,rfl,rfl⟩;rw[bF (by simp)];exact⟨v',rfl,R⟩
  ·simp only[FM,FN,FL,F6];exact ay.sublist O
  ·intro k r;simp only[FM,FN,FL,F6]at r;refine⟨⟨FX (a0 k (O.subset r)) z.size,.inr ?_⟩,λh=>h⟩;simp only[FM,FN,FL];exact O.subset r
 have bn:Els w (λ_=>False) e xs H B0:=l0.deep hd;rcases ba with ⟨ea,u,hi⟩|⟨p,x,u,hx,es,aw,hi⟩
 ·have bl:xs.filter (λx=>!decide (Y (cv x,())=some true))=xs:=by
   rw[List.filter_eq_self];intro a ha;rw[ea (cv a) (List.mem_map_of_mem ha)];simp
  refine (a8.none_ w v0 v1 xs.length H r0 (Z _ _ hi)).mono λen w'=>?_
  rintro⟨rfl,hb⟩;rw[bl];exact a5 xs v0 w' H B0 (r0.same (λk r=>hb.block k (r0.lt k r))) ⟨hb.os,hb.tape,hb.output,hb.size,λk r _=>hb.block k r⟩ rfl bn (FP _)
 ·obtain⟨fi,bo,rfl,dd,b4⟩:=a3;have az:p<xs.length:=by
   have:=(List.getElem?_eq_some_iff.1 hx).1
   rwa [FO]at this
  have et:=r0;rcases r0.2 with ⟨_,h⟩|⟨g,d3,f0,mk,rfl,hg,f3,f1,f2,eg⟩
  ·exact absurd az (by rw[h];omega)
  obtain⟨a9,hB,eq⟩:=bn.to;have I:b0.Nodup:=ay;rw[J]at I;have e6:∀ k∈B0,k≠g:=λk r h=>(F1.1 I).2.2 g (by simp[F7]) k r h.symm
  have b5:∀ (j:Nat) (x:e.den),xs[j]?=some x->(λj=>match xs[j]? with|some x=>decide (Y (cv x,())=some true)|none=>false) j=decide (Y (cv x,())=some true):=λj x hj=>by simp only[hj]
  obtain⟨B',L,a1,e7⟩:=AR bn (λx=>decide (Y (cv x,())=some true)) _ b5;have b2:∀ j,(xs.map cv)[j]?=(xs[j]?).map cv:=λj=>F2
  refine (a8.some_ w g xs.length d3 H fi bo (λj=>match xs[j]? with|some x=>decide (Y (cv x,())=some true)|none=>false) p et l0.one dd az ?_ ?_ ?_ (Z _ _ hi)).mono λen w'=>?_
  ·rw[b2,FJ az,Option.map_some,FY]at hx;simp only[FJ az,hx,es,decide_true]
  ·intro j hj;have c6:j<xs.length:=by omega
   have:=aw j (cv xs[j]) hj (by rw[b2,FJ c6];rfl);simp only[FJ c6,this];simp
  ·intro w1 d1 cc j hj;have d2:=FJ hj;obtain⟨c,h3,h4⟩:=eq j xs[j] d2;have hc:(H.drop (j*e.cells)).take e.cells=c:=by
    refine F0 λi=>?_
    rw[FU];split
    ·rename_i hi;have c4:i<c.length:=by rw[h3.len];exact hi
     rw[FV,h4 i c[i] (FJ c4),FJ c4]
    ·rename_i hi;exact (FR (by rw[h3.len];omega)).symm
   rw[hc];have c0:∀ k∈a9 j,k∈B0:=λk r=>by rw[hB];exact ei.2 ⟨j,hj,r⟩
   have c1:∀ k∈a9 j,k<w.heap.size:=λk r=>a0 k (by rw[J];exact FS _ (c0 k r))
   have M1:Mx w1 (λ_=>False) e none 0 xs[j] c (a9 j):=h3.carry (λ_ h=>h) (λ_ h=>h.elim) (λk r=>cc k (c1 k r) (e6 k (c0 k r)));have R1:Rd w1 (λk=>k<w1.heap.size) e' (cv xs[j]) c:=Rd.flags bb (c2 _) (Mx.rd (λ_ h=>h.elim) (λk r=>FX (c1 k r) d1) M1);obtain⟨b,hb⟩:=a2 xs[j] (List.getElem_mem hj);have:=b4 w1 d1 (λk r=>cc k r.1 (λh=>r.2 (by rw[h,J];exact FT _ (by simp[F7])))) (cv xs[j],()) [.agg c.toArray] b ⟨.agg c.toArray,c,[],rfl,by unfold dr;rw[bx];rfl,R1,rfl⟩ hb;refine Calls.mono (h:=this) λe2 w2 hp=>?_
   obtain⟨u,cu,rfl,X,a7,dc⟩:=hp;have X:cu=[u]:=X;have a7:cu=[.bool b]:=a7;rw[X]at a7;simp only[FQ,and_true]at a7;refine⟨?_,dc⟩;rw[a7];simp only[d2,hb];cases b <;> simp
  ·rintro⟨v',rfl,r',z,a4⟩;rw[<- e7]at r';exact a5 _ v' w' _ B' r' z a4 L a1
theorem nF:∀ a:Ty,a.hd.cells=a.cells
 |.pair a b=>by show a.hd.cells+b.hd.cells=a.cells+b.cells;rw[nF a,nF b]
 |.list _ _ _=>rfl
 |.int _=>rfl
 |.bool=>rfl
 |.str=>rfl
 |.unit=>rfl
 |.hdr=>rfl
theorem Mx.hd {w w':World}{G G':Nat->Prop}:∀ {a:Ty} {pos:Nat} {x:a.den} {cs:List Value} {bs:List Nat},a.sh=a->Mx w G a none pos x cs bs->Mx w' G' a.hd none pos (hdD a x) cs bs
 |.int _,_,_,_,_,_,h=>h
 |.bool,_,_,_,_,_,h=>h
 |.str,_,_,_,_,_,h=>h
 |.unit,_,_,_,_,_,h=>h
 |.hdr,_,_,_,_,_,h=>h
 |.pair a b,pos,x,_,_,r,⟨I,J,z,H,M,O,y,R⟩=>by
  simp only[Ty.sh,Ty.pair.injEq]at r;exact⟨I,J,z,H,M,O,Mx.hd r.1 y,Mx.hd r.2 (Mx.pos R)⟩
 |.list m E e,_,X,cs,bs,r,h=>by
  simp only[Ty.sh,Ty.list.injEq]at r;obtain⟨rfl,_⟩:=r;rw[cF]at h;obtain⟨A,u,y,_⟩:=h.2;exact⟨⟨A,u,y⟩,h.1⟩
theorem C8 {P:Program}{f:FuncId}{E:TypeId}{e:Ty}{r:Nat}{fr:Bool}(he:e.sh=e)
  (hs:bI P ⟨f,[.rd (.list false E e)],[.v (.list true E e)],fr,λx=>gx e r x.1⟩):bI P ⟨f,[.rd (.list false E e)],[.v (.list true E e.hd)],true,λx=>Bl e r x.1⟩:=by
 refine⟨hs.1,λw ro x vs a1 y H a6 a3 hy=>?_⟩;obtain⟨z,hz,rfl⟩:=FK.1 hy;obtain⟨⟨xs,⟨⟩⟩,⟨⟩⟩:=z;refine (hs.2 w ro x vs a1 _ H a6 a3 hz).mono λen w' hp=>?_
 obtain⟨v,us,N,Z,aw,h1,Y,a7,a4,a8,a5,a2,hN,J,X,R,I⟩:=hp;obtain⟨u,ay,b,M,e1,e2,⟨cs,a9,hm⟩,e3,e4⟩:=X;refine⟨v,us,N,Z,aw,h1,Y,a7,a4,a8,a5,a2,hN,?_,⟨u,ay,b,M,e1,e2,⟨cs,a9,?_⟩,e3,e4⟩,R,I⟩
 ·obtain⟨v1,b0,b1,az,rfl,rfl,_,rfl,rfl⟩:=H
  match Z,J with
  |[b2],J=>exact J
  |[],J=>exact J.elim
  |_::_::_,J=>exact (J.2:False).elim
 ·rw[bF (by simp)]at hm ⊢;obtain⟨v2,h2,O,a0,h3,h4,h5⟩:=hm;refine⟨v2,h2,O,a0,?_,?_,λj y hj=>?_⟩
  ·rw[nF,FO];exact h3
  ·rw[FO];exact h4
  ·rw[F2]at hj;obtain⟨x',ad,rfl⟩:=FK.1 hj;obtain⟨c,h6,h7⟩:=h5 j x' ad;exact⟨c,h6.hd he,λi u hi=>by rw[nF];exact h7 i u hi⟩
end Go.Proofs.YtmibehbhnkeaiaaGreatEv
