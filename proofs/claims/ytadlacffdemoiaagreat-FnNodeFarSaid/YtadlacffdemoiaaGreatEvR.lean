/- slices.DeleteFunc: from what its walk says to its contract; the headers of a copy. -/
import Derived.Test.YtadlacffdemoiaaGreatEvQ
set_option linter.unusedVariables false
set_option linter.unusedSimpArgs false
open Bool renaming false_eq_true->CB
open Go.Value renaming ownBlock->CM
open List renaming getElem?_eq_getElem->BV,append_nil->BX,flatten_cons->BY,flatten_nil->BZ,length_map->B3,getElem?_eq_none->B6,mem_append_right->B7,mem_append_left->B8,getElem?_take->B9,getElem?_drop->CA,flatMap_cons->CE,ext_getElem?->CF,nodup_append->CG,getElem?_map->CH,filter_cons->CI,filter_nil->CJ,length_nil->CK,nil_append->CL
open List.Sublist renaming refl->B4
open List.cons renaming injEq->B5
open Nat renaming lt_of_lt_of_le->CC
open Option renaming map_eq_some_iff->BW
open Option.some renaming injEq->CD
namespace Go.Proofs.YtadlacffdemoiaaGreatEv
open Go Go.RowKit
def fA (s:Nat)(del:Nat->Bool)(flat:List Value):Nat->List Value
 |0=>[]
 |j+1=>fA s del flat j++(if del j=true then [] else (flat.drop (j*s)).take s)
def dD (del:Nat->Bool):Nat->Nat
 |0=>0
 |j+1=>dD del j+(if del j=true then 0 else 1)
theorem sb {α:Type}{z:α×Unit->Option Bool}:∀ {xs r:List α},lZ z xs=some r->(∀ x∈xs,∃ b,z (x,())=some b)/\r=xs.filter (λx=>!decide (z (x,())=some true))
 |[],r,h=>by
  simp only[lZ,CD]at h;subst h;exact⟨by simp,rfl⟩
 |x::xs,r,h=>by
  simp only[lZ]at h;obtain⟨b,H,h⟩:=Option.bind_eq_some_iff.1 h;obtain⟨O,J,rfl⟩:=BW.1 h;obtain⟨M,I⟩:=sb J;subst I;refine⟨λy u=>?_,?_⟩
  ·rcases List.mem_cons.1 u with rfl|u
   ·exact⟨b,H⟩
   ·exact M y u
  ·cases b <;> simp[H]
theorem oV {f g:Nat->List Nat}(h:∀ j,(f j).Sublist (g j)):∀ l:List Nat,(l.flatMap f).Sublist (l.flatMap g)
 |[]=>B4 _
 |a::l=>by
  rw[CE,CE];exact (h a).append (oV h l)
theorem zJ {w:World}{G:Nat->Prop}{e:Ty}{xs:List e.den}{flat:List Value}{B:List Nat}(H:Els w G e xs flat B)(p:e.den->Bool)(del:Nat->Bool)(z:∀ (j:Nat) (x:e.den),xs[j]?=some x->del j=p x) :
  ∃ Z,Els w G e (xs.filter λx=>!p x) (fA e.cells del flat xs.length) Z/\Z.Sublist B/\(xs.filter λx=>!p x).length=dD del xs.length:=by
 obtain⟨M,hB,hx⟩:=H.to;have y:∀ j,j<=xs.length->Els w G e ((xs.take j).filter λx=>!p x) (fA e.cells del flat j) ((List.range j).flatMap λi=>if del i=true then [] else M i)/\((xs.take j).filter λx=>!p x).length=dD del j:=by
  intro j;induction j with
  |zero=>intro _;exact⟨⟨rfl,rfl⟩,rfl⟩
  |succ j ih =>
   intro hj;have r:j<xs.length:=by omega
   obtain⟨I,u⟩:=ih (by omega);obtain⟨c,X,h4⟩:=hx j xs[j] (BV r);have R:=z j xs[j] (BV r);have hc:(flat.drop (j*e.cells)).take e.cells=c:=by
    refine CF λi=>?_
    rw[B9];split
    ·rename_i Y;have O:i<c.length:=by rw[X.len];exact Y
     rw[CA,h4 i c[i] (BV O),BV O]
    ·rename_i Y;exact (B6 (by rw[X.len];omega)).symm
   rw[List.take_add_one,BV r,List.filter_append,List.range_succ,List.flatMap_append,List.length_append];simp only[fA,dD,List.flatMap_singleton,Option.toList_some,hc];cases J:del j with
   |true =>
    rw[J]at R;simp only[if_true,BX,CI,<- R,Bool.not_true,CB,if_false,CJ,CK];exact⟨I,u⟩
   |false =>
    rw[J]at R;simp only[CB,if_false,CI,<- R,Bool.not_false,if_true,CJ,List.length_cons,CK,u];exact⟨I.append ⟨c,M j,[],[],by simp,by simp,X,rfl,rfl⟩,trivial⟩
 obtain⟨I,u⟩:=y xs.length (Nat.le_refl _);rw[List.take_length]at I u;refine⟨_,I,?_,u⟩;rw[hB];exact oV (λj=>by split <;> simp) _
structure re (P:Program) (f idx:FuncId) (E:TypeId) (s:Nat):Prop where
 none_:∀ (w:World) (v0 fv:Value) (n:Nat) (flat:List Value),Row w E s v0 n flat->Calls P idx #[v0,fv] w (λe w'=>e=.returned (.int .i64 (-1))/\Below w.heap.size w w') ->
  Calls P f #[v0,fv] w λe w'=>e=.returned v0/\Below w.heap.size w w'
 some_:∀ (w:World) (g n cap:Nat) (flat:List Value) (fi:FuncId) (caps:Array Value) (del:Nat->Bool) (p0:Nat),Row w E s (.slice (some ⟨g,0,none⟩) n cap) n flat->(∀ u∈flat,u.oneCell'=true)->fV P fi->p0<n->del p0=true->(∀ j,j<p0->del j=false) ->
  (∀ w1:World,w.heap.size<=w1.heap.size->(∀ k,k<w.heap.size->k≠g->w1.heap[k]?=w.heap[k]?)->∀ j,j<n->Calls P fi (#[.agg ((flat.drop (j*s)).take s).toArray]++caps) w1 (λe w2=>e=.returned (.bool (del j))/\Below w1.heap.size w1 w2)) ->
  Calls P idx #[.slice (some ⟨g,0,none⟩) n cap,.func (.func fi) #[] caps] w (λe w'=>e=.returned (.int .i64 p0)/\Below w.heap.size w w') ->
  Calls P f #[.slice (some ⟨g,0,none⟩) n cap,.func (.func fi) #[] caps] w λe w'=>∃ v',e=.returned v'/\Row w' E s v' (dD del n) (fA s del flat n)/\w.grownBy w' (some g)/\v'.ownBlock=some g
def oo {α β:Type}(xs:List α)(r:α×Unit->Option Bool)(o:Option ((Int×Unit)×β)):Prop :=
 ((∀ x∈xs,r (x,())=some false)/\∃ u,o=some ((-1,()),u)) \/
 ∃ p x u,xs[p]?=some x/\r (x,())=some true/\(∀ j y,j<p->xs[j]?=some y->r (y,())=some false)/\o=some ((((p:Nat):Int),()),u)
theorem Ba {A u:Type}(h:A=u)(cv:A->u)(r:∀ x,HEq x (cv x))(xs:List A):HEq xs (xs.map cv):=by
 subst h;have:cv=id:=funext λx=>(eq_of_heq (r x)).symm
 subst this;simp
theorem nR {P:Program}{f idx:FuncId}{E:TypeId}{e e':Ty}{M ez:Bool}{cv:e.den->e'.den}(cb:∀ x,HEq x (cv x))(c0:e.sh=e'.sh)
  {b5:ab [PK.rd (.list false E e'),PK.fn [e'] .bool]->Option (ai [RK.v (.int .i64)]×ah [PK.rd (.list false E e'),PK.fn [e'] .bool])}
  (hE:fV P f) (hd:e.shy=false) (c6:e'.isAgg=true) (eb:bR P ⟨idx,[.rd (.list false E e'),.fn [e'] .bool],[.v (.int .i64)],ez,b5⟩)
  (d1:∀ (xs:List e'.den) (J:Tup [e']->Option Bool),xs.length<=1048576->(∀ x∈xs,∃ b,J (x,())=some b)->oo xs J (b5 (xs,J,())))
  (a3:re P f idx E e.cells) :
  bR P ⟨f,[.own (.list true E e),.fn [e'] .bool],[.v (.list true E e)],M,λx=>gO e x.1 (λy=>x.2.1 (cv y.1,()))⟩:=by
 refine⟨hE,?_⟩;intro w ro x vs b4 y bn cy b2 hy;obtain⟨xs,J,_⟩:=x;obtain⟨v0,g1,b0,g4,rfl,rfl,⟨es,c2,bx⟩,v1,fd,b1,g3,rfl,rfl,⟨ed,a4⟩,rfl,rfl⟩:=bn;have c2:es=[v0]:=c2;subst c2 ed;have cw:=bx;rw[bJ (by simp)]at bx;obtain⟨u0,e0,H0⟩:=bx;simp only[B5,and_true]at e0;subst e0;obtain⟨I,B0,r0,O,l0⟩:=ra H0;have a4:il P w (λk=>k<w.heap.size/\k∉([b0,[]]:List (List Nat)).flatten) [e'] .bool J v1:=a4;have hy:gO e xs (λy=>J (cv y.1,()))=some y:=hy;simp only[BY,BZ,BX]at b2 cy a4 ⊢;unfold gO at hy;split at hy
 rotate_left
 ·cases hy
 rename_i ec;obtain⟨ys,c5,rfl⟩:=BW.1 hy;obtain⟨a2,rfl⟩:=sb c5;simp only at a2;have a0:∀ k∈b0,k<w.heap.size:=H0.lt;have hT:e.den=e'.den:=jz c0;have c1:oo (xs.map cv) J (b5 (xs.map cv,J,())):=d1 _ _ (by rw[B3];exact ec) (λx hx=>by
  obtain⟨x',f1,rfl⟩:=List.mem_map.1 hx;exact a2 x' f1)
 have ev:Rd w (λk=>k<w.heap.size) (.list false E e') (xs.map cv) [v0] :=
  Rd.flags (a:=.list true E e) (by simp only[Ty.sh,c0]) (Ba hT cv cb xs) (Mx.rd (λk r=>(cy k r).1) a0 cw)
 have Z:∀ (i:Int) (u:ah [PK.rd (.list false E e'),PK.fn [e'] .bool]),b5 (xs.map cv,J,())=some ((i,()),u)->Calls P idx #[v0,v1] w (λe w'=>e=.returned (.int .i64 i)/\Below w.heap.size w w'):=by
  intro i u hi;have:=eb.2 w (λk=>k<w.heap.size) (xs.map cv,J,()) [v0,v1] [[],[]] _
   ⟨v0,[v1],[],[[]],rfl,rfl,⟨rfl,[v0],rfl,ev⟩,v1,[],[],[],rfl,rfl,⟨rfl,il.mono (λk r=>⟨r.1,by simp⟩) a4⟩,rfl,rfl⟩
   (λk r=>⟨r,by simp⟩) (by simp) hi
  refine this.mono λe w' hp=>?_
  obtain⟨v,us,N,fo,fx,rfl,ad,f7,f2,f8,eg,ey,_,_,cc,_,_⟩:=hp;refine⟨?_,⟨f2,f8,eg,f7,λk r=>ey k r (by simp)⟩⟩;obtain⟨u,fr,b,fc,e1,e2,⟨cs,X,hm⟩,e3,e4⟩:=cc;subst e3;subst e1;have ad:v=u:=ad;subst ad;have X:cs=[v]:=X;have hm:cs=[.int .i64 i]:=hm.1;rw[X]at hm;simp only[B5,and_true]at hm;rw[hm]
 have a5:∀ (ys:List e.den) (v':Value) (w':World) (ba:List Value) (B':List Nat),Row w' E e.cells v' ys.length ba->w.grownBy w' v0.ownBlock->v'.ownBlock=v0.ownBlock->Els w (λ_=>False) e ys ba B'->B'.Sublist B0 ->
   tL ⟨f,[.own (.list true E e),.fn [e'] .bool],[.v (.list true E e)],M,λx=>gO e x.1 (λy=>x.2.1 (cv y.1,()))⟩ w ro [v0,v1] [b0,[]] ((ys,()),()) (.returned v') w':=by
  intro ys v' w' ba B' r' z a9 L a1;have H:b0.Nodup:=b2;have hB:∀ k∈B',w'.heap[k]?=w.heap[k]?:=λk r=>by
   have dc:k∈B0:=a1.subset r;refine z.block k (a0 k (by rw[O];exact B7 _ dc)) λh=>?_
   rw[O]at H;exact (CG.1 H).2.2 k (by rw[<- h];simp) k dc rfl
  have L':Els w' (λk=>False\/(M=false/\ro k)) e ys ba B':=L.carry (λ_ h=>h.elim) (λ_ h=>h.elim) hB;have R:=vH r' L';rw[a9]at R;have Y:(v0.ownBlock.toList++B').Sublist b0:=by rw[O];exact (B4 _).append a1
  refine⟨v',[v'],λ_=>False,[[],[]],[v0.ownBlock.toList++B'],rfl,rfl,z.size,z.os,z.tape,z.output,?_,?_,?_,?_,?_,?_⟩
  ·intro k r hn;refine z.block k r (λh=>hn ?_);simp only[BY,BZ,BX];rw[O];exact B8 _ (by rw[<- h];simp)
  ·intro k h;exact h.elim
  ·exact⟨rfl,rfl,trivial⟩
  ·refine⟨v',[],_,[],rfl,rfl,⟨[v'],rfl,?_⟩,rfl,rfl⟩;rw[bJ (by simp)];exact⟨v',rfl,R⟩
  ·simp only[BY,BZ,BX,CL];exact b2.sublist Y
  ·intro k r;simp only[BY,BZ,BX,CL]at r;refine⟨⟨CC (a0 k (Y.subset r)) z.size,.inr ?_⟩,λh=>h⟩;simp only[BY,BZ,BX];exact Y.subset r
 have bl:Els w (λ_=>False) e xs I B0:=l0.deep hd;rcases c1 with ⟨ef,u,hi⟩|⟨p,x,u,hx,ex,b3,hi⟩
 ·have c5:xs.filter (λx=>!decide (J (cv x,())=some true))=xs:=by
   rw[List.filter_eq_self];intro a ha;rw[ef (cv a) (List.mem_map_of_mem ha)];simp
  refine (a3.none_ w v0 v1 xs.length I r0 (Z _ _ hi)).mono λen w'=>?_
  rintro⟨rfl,hb⟩;rw[c5];exact a5 xs v0 w' I B0 (r0.same (λk r=>hb.block k (r0.lt k r))) ⟨hb.os,hb.tape,hb.output,hb.size,λk r _=>hb.block k r⟩ rfl bl (B4 _)
 ·obtain⟨fi,d3,rfl,f3,c4⟩:=a4;have b9:p<xs.length:=by
   have:=(List.getElem?_eq_some_iff.1 hx).1
   rwa [B3]at this
  have f6:=r0;rcases r0.2 with ⟨_,h⟩|⟨g,f0,fz,mk,rfl,hg,g2,fv,fl,ej⟩
  ·exact absurd b9 (by rw[h];omega)
  obtain⟨b4,hB,f4⟩:=bl.to;have H:b0.Nodup:=b2;rw[O]at H;have em:∀ k∈B0,k≠g:=λk r h=>(CG.1 H).2.2 g (by simp[CM]) k r h.symm
  have c3:∀ (j:Nat) (x:e.den),xs[j]?=some x->(λj=>match xs[j]? with|some x=>decide (J (cv x,())=some true)|none=>false) j=decide (J (cv x,())=some true):=λj x hj=>by simp only[hj]
  obtain⟨B',L,a1,f5⟩:=zJ bl (λx=>decide (J (cv x,())=some true)) _ c3;have bb:∀ j,(xs.map cv)[j]?=(xs[j]?).map cv:=λj=>CH
  refine (a3.some_ w g xs.length f0 I fi d3 (λj=>match xs[j]? with|some x=>decide (J (cv x,())=some true)|none=>false) p f6 l0.one f3 b9 ?_ ?_ ?_ (Z _ _ hi)).mono λen w'=>?_
  ·rw[bb,BV b9,Option.map_some,CD]at hx;simp only[BV b9,hx,ex,decide_true]
  ·intro j hj;have e6:j<xs.length:=by omega
   have:=b3 j (cv xs[j]) hj (by rw[bb,BV e6];rfl);simp only[BV e6,this];simp
  ·intro w1 e5 e7 j hj;have cx:=BV hj;obtain⟨c,h3,h4⟩:=f4 j xs[j] cx;have hc:(I.drop (j*e.cells)).take e.cells=c:=by
    refine CF λi=>?_
    rw[B9];split
    ·rename_i hi;have dd:i<c.length:=by rw[h3.len];exact hi
     rw[CA,h4 i c[i] (BV dd),BV dd]
    ·rename_i hi;exact (B6 (by rw[h3.len];omega)).symm
   rw[hc];have cp:∀ k∈b4 j,k∈B0:=λk r=>by rw[hB];exact dX.2 ⟨j,hj,r⟩
   have d2:∀ k∈b4 j,k<w.heap.size:=λk r=>a0 k (by rw[O];exact B7 _ (cp k r))
   have M1:Mx w1 (λ_=>False) e none 0 xs[j] c (b4 j):=h3.carry (λ_ h=>h) (λ_ h=>h.elim) (λk r=>e7 k (d2 k r) (em k (cp k r)));have R1:Rd w1 (λk=>k<w1.heap.size) e' (cv xs[j]) c:=Rd.flags c0 (cb _) (Mx.rd (λ_ h=>h.elim) (λk r=>CC (d2 k r) e5) M1);obtain⟨b,hb⟩:=a2 xs[j] (List.getElem_mem hj);have:=c4 w1 e5 (λk r=>e7 k r.1 (λh=>r.2 (by rw[h,O];exact B8 _ (by simp[CM])))) (cv xs[j],()) [.agg c.toArray] b ⟨.agg c.toArray,c,[],rfl,by unfold db;rw[c6];rfl,R1,rfl⟩ hb;refine Calls.mono (h:=this) λe2 w2 hp=>?_
   obtain⟨u,cu,rfl,X,a6,et⟩:=hp;have X:cu=[u]:=X;have a6:cu=[.bool b]:=a6;rw[X]at a6;simp only[B5,and_true]at a6;refine⟨?_,et⟩;rw[a6];simp only[cx,hb];cases b <;> simp
  ·rintro⟨v',rfl,r',z,a9⟩;rw[<- f5]at r';exact a5 _ v' w' _ B' r' z a9 L a1
theorem mN:∀ a:Ty,a.hd.cells=a.cells
 |.pair a b=>by show a.hd.cells+b.hd.cells=a.cells+b.cells;rw[mN a,mN b]
 |.list _ _ _=>rfl
 |.int _=>rfl
 |.bool=>rfl
 |.str=>rfl
 |.unit=>rfl
 |.hdr=>rfl
theorem Mx.hd {w w':World}{G G':Nat->Prop}:∀ {a:Ty} {pos:Nat} {x:a.den} {cs:List Value} {bs:List Nat},a.sh=a->Mx w G a none pos x cs bs->Mx w' G' a.hd none pos (hdD a x) cs bs
 |.int _,_,_,_,_,_,h=>h
 |.bool,_,_,_,_,_,h=>h
 |.str,_,_,_,_,_,h=>h
 |.unit,_,_,_,_,_,h=>h
 |.hdr,_,_,_,_,_,h=>h
 |.pair a b,pos,x,_,_,r,⟨J,O,R,M,H,z,u,I⟩=>by
  simp only[Ty.sh,Ty.pair.injEq]at r;exact⟨J,O,R,M,H,z,Mx.hd r.1 u,Mx.hd r.2 (Mx.pos I)⟩
 |.list m E e,_,X,cs,bs,r,h=>by
  simp only[Ty.sh,Ty.list.injEq]at r;obtain⟨rfl,_⟩:=r;rw[co]at h;obtain⟨A,y,u,_⟩:=h.2;exact⟨⟨A,y,u⟩,h.1⟩
theorem BS {P:Program}{f:FuncId}{E:TypeId}{e:Ty}{r:Nat}{fr:Bool}(he:e.sh=e)
  (hs:bR P ⟨f,[.rd (.list false E e)],[.v (.list true E e)],fr,λx=>fP e r x.1⟩):bR P ⟨f,[.rd (.list false E e)],[.v (.list true E e.hd)],true,λx=>zY e r x.1⟩:=by
 refine⟨hs.1,λw ro x vs b3 y H a3 a9 hy=>?_⟩;obtain⟨z,hz,rfl⟩:=BW.1 hy;obtain⟨⟨xs,⟨⟩⟩,⟨⟩⟩:=z;refine (hs.2 w ro x vs b3 _ H a3 a9 hz).mono λen w' hp=>?_
 obtain⟨v,us,N,O,b5,h1,Z,b0,a2,b4,a5,ad,hN,J,X,M,I⟩:=hp;obtain⟨u,a1,b,R,e1,e2,⟨cs,a4,hm⟩,e3,e4⟩:=X;refine⟨v,us,N,O,b5,h1,Z,b0,a2,b4,a5,ad,hN,?_,⟨u,a1,b,R,e1,e2,⟨cs,a4,?_⟩,e3,e4⟩,M,I⟩
 ·obtain⟨v1,b9,b1,ba,rfl,rfl,_,rfl,rfl⟩:=H
  match O,J with
  |[b2],J=>exact J
  |[],J=>exact J.elim
  |_::_::_,J=>exact (J.2:False).elim
 ·rw[bJ (by simp)]at hm ⊢;obtain⟨v2,h2,Y,a6,h3,h4,h5⟩:=hm;refine⟨v2,h2,Y,a6,?_,?_,λj y hj=>?_⟩
  ·rw[mN,B3];exact h3
  ·rw[B3];exact h4
  ·rw[CH]at hj;obtain⟨x',a0,rfl⟩:=BW.1 hj;obtain⟨c,h6,h7⟩:=h5 j x' a0;exact⟨c,h6.hd he,λi u hi=>by rw[mN];exact h7 i u hi⟩
end Go.Proofs.YtadlacffdemoiaaGreatEv
