/- slices.DeleteFunc: from what its walk says to its contract; the headers of a copy. -/
import Derived.Test.YtadlacffdemoiaaGreatEvQ
set_option linter.unusedVariables false
set_option linter.unusedSimpArgs false
open Bool renaming false_eq_true->CG
open Go.Value renaming ownBlock->CR
open List renaming getElem?_eq_getElem->B3,append_nil->B5,flatten_cons->B6,flatten_nil->B7,length_map->B8,getElem?_eq_none->CB,mem_append_right->CC,mem_append_left->CD,getElem?_take->CE,getElem?_drop->CF,flatMap_cons->CJ,ext_getElem?->CK,nodup_append->CL,getElem?_map->CM,filter_cons->CN,filter_nil->CO,length_nil->CP,nil_append->CQ
open List.Sublist renaming refl->B9
open List.cons renaming injEq->CA
open Nat renaming lt_of_lt_of_le->CH
open Option renaming map_eq_some_iff->B4
open Option.some renaming injEq->CI
namespace Go.Proofs.YtadlacffdemoiaaGreatEv
open Go Go.RowKit
def fR (s:Nat)(del:Nat->Bool)(flat:List Value):Nat->List Value
 |0=>[]
 |j+1=>fR s del flat j++(if del j=true then [] else (flat.drop (j*s)).take s)
def dM (del:Nat->Bool):Nat->Nat
 |0=>0
 |j+1=>dM del j+(if del j=true then 0 else 1)
theorem sq {α:Type}{z:α×Unit->Option Bool}:∀ {xs r:List α},mh z xs=some r->(∀ x∈xs,∃ b,z (x,())=some b)/\r=xs.filter (λx=>!decide (z (x,())=some true))
 |[],r,h=>by
  simp only[mh,CI]at h;subst h;exact⟨by simp,rfl⟩
 |x::xs,r,h=>by
  simp only[mh]at h;obtain⟨b,H,h⟩:=Option.bind_eq_some_iff.1 h;obtain⟨O,M,rfl⟩:=B4.1 h;obtain⟨I,J⟩:=sq M;subst J;refine⟨λy u=>?_,?_⟩
  ·rcases List.mem_cons.1 u with rfl|u
   ·exact⟨b,H⟩
   ·exact I y u
  ·cases b <;> simp[H]
theorem oW {f g:Nat->List Nat}(h:∀ j,(f j).Sublist (g j)):∀ l:List Nat,(l.flatMap f).Sublist (l.flatMap g)
 |[]=>B9 _
 |a::l=>by
  rw[CJ,CJ];exact (h a).append (oW h l)
theorem zX {w:World}{G:Nat->Prop}{e:Ty}{xs:List e.den}{flat:List Value}{B:List Nat}(H:Els w G e xs flat B)(p:e.den->Bool)(del:Nat->Bool)(z:∀ (j:Nat) (x:e.den),xs[j]?=some x->del j=p x) :
  ∃ Y,Els w G e (xs.filter λx=>!p x) (fR e.cells del flat xs.length) Y/\Y.Sublist B/\(xs.filter λx=>!p x).length=dM del xs.length:=by
 obtain⟨M,hB,hx⟩:=H.to;have I:∀ j,j<=xs.length->Els w G e ((xs.take j).filter λx=>!p x) (fR e.cells del flat j) ((List.range j).flatMap λi=>if del i=true then [] else M i)/\((xs.take j).filter λx=>!p x).length=dM del j:=by
  intro j;induction j with
  |zero=>intro _;exact⟨⟨rfl,rfl⟩,rfl⟩
  |succ j ih =>
   intro hj;have r:j<xs.length:=by omega
   obtain⟨u,y⟩:=ih (by omega);obtain⟨c,X,h4⟩:=hx j xs[j] (B3 r);have R:=z j xs[j] (B3 r);have hc:(flat.drop (j*e.cells)).take e.cells=c:=by
    refine CK λi=>?_
    rw[CE];split
    ·rename_i Z;have O:i<c.length:=by rw[X.len];exact Z
     rw[CF,h4 i c[i] (B3 O),B3 O]
    ·rename_i Z;exact (CB (by rw[X.len];omega)).symm
   rw[List.take_add_one,B3 r,List.filter_append,List.range_succ,List.flatMap_append,List.length_append];simp only[fR,dM,List.flatMap_singleton,Option.toList_some,hc];cases J:del j with
   |true =>
    rw[J]at R;simp only[if_true,B5,CN,<- R,Bool.not_true,CG,if_false,CO,CP];exact⟨u,y⟩
   |false =>
    rw[J]at R;simp only[CG,if_false,CN,<- R,Bool.not_false,if_true,CO,List.length_cons,CP,y];exact⟨u.append ⟨c,M j,[],[],by simp,by simp,X,rfl,rfl⟩,trivial⟩
 obtain⟨u,y⟩:=I xs.length (Nat.le_refl _);rw[List.take_length]at u y;refine⟨_,u,?_,y⟩;rw[hB];exact oW (λj=>by split <;> simp) _
structure rA (P:Program) (f idx:FuncId) (E:TypeId) (s:Nat):Prop where
 none_:∀ (w:World) (v0 fv:Value) (n:Nat) (flat:List Value),Row w E s v0 n flat->Calls P idx #[v0,fv] w (λe w'=>e=.returned (.int .i64 (-1))/\Below w.heap.size w w') ->
  Calls P f #[v0,fv] w λe w'=>e=.returned v0/\Below w.heap.size w w'
 some_:∀ (w:World) (g n cap:Nat) (flat:List Value) (fi:FuncId) (caps:Array Value) (del:Nat->Bool) (p0:Nat),Row w E s (.slice (some ⟨g,0,none⟩) n cap) n flat->(∀ u∈flat,u.oneCell'=true)->gf P fi->p0<n->del p0=true->(∀ j,j<p0->del j=false) ->
  (∀ w1:World,w.heap.size<=w1.heap.size->(∀ k,k<w.heap.size->k≠g->w1.heap[k]?=w.heap[k]?)->∀ j,j<n->Calls P fi (#[.agg ((flat.drop (j*s)).take s).toArray]++caps) w1 (λe w2=>e=.returned (.bool (del j))/\Below w1.heap.size w1 w2)) ->
  Calls P idx #[.slice (some ⟨g,0,none⟩) n cap,.func (.func fi) #[] caps] w (λe w'=>e=.returned (.int .i64 p0)/\Below w.heap.size w w') ->
  Calls P f #[.slice (some ⟨g,0,none⟩) n cap,.func (.func fi) #[] caps] w λe w'=>∃ v',e=.returned v'/\Row w' E s v' (dM del n) (fR s del flat n)/\w.grownBy w' (some g)/\v'.ownBlock=some g
def ox {α β:Type}(xs:List α)(r:α×Unit->Option Bool)(o:Option ((Int×Unit)×β)):Prop :=
 ((∀ x∈xs,r (x,())=some false)/\∃ u,o=some ((-1,()),u)) \/
 ∃ p x u,xs[p]?=some x/\r (x,())=some true/\(∀ j y,j<p->xs[j]?=some y->r (y,())=some false)/\o=some ((((p:Nat):Int),()),u)
theorem Bg {A u:Type}(h:A=u)(cv:A->u)(r:∀ x,HEq x (cv x))(xs:List A):HEq xs (xs.map cv):=by
 subst h;have:cv=id:=funext λx=>(eq_of_heq (r x)).symm
 subst this;simp
theorem nU {P:Program}{f idx:FuncId}{E:TypeId}{e e':Ty}{O ex:Bool}{cv:e.den->e'.den}(e5:∀ x,HEq x (cv x))(bb:e.sh=e'.sh)
  {a9:ab [PK.rd (.list false E e'),PK.fn [e'] .bool]->Option (ai [RK.v (.int .i64)]×ah [PK.rd (.list false E e'),PK.fn [e'] .bool])}
  (hE:gf P f) (hd:e.shy=false) (c4:e'.isAgg=true) (d1:bN P ⟨idx,[.rd (.list false E e'),.fn [e'] .bool],[.v (.int .i64)],ex,a9⟩)
  (cx:∀ (xs:List e'.den) (J:Tup [e']->Option Bool),xs.length<=1048576->(∀ x∈xs,∃ b,J (x,())=some b)->ox xs J (a9 (xs,J,())))
  (a8:rA P f idx E e.cells) :
  bN P ⟨f,[.own (.list true E e),.fn [e'] .bool],[.v (.list true E e)],O,λx=>gZ e x.1 (λy=>x.2.1 (cv y.1,()))⟩:=by
 refine⟨hE,?_⟩;intro w ro x vs ad y c2 cy b3 hy;obtain⟨xs,J,_⟩:=x;obtain⟨v0,g5,b0,g2,rfl,rfl,⟨es,bx,c0⟩,v1,g4,b1,fv,rfl,rfl,⟨et,a7⟩,rfl,rfl⟩:=c2;have bx:es=[v0]:=bx;subst bx et;have dc:=c0;rw[bP (by simp)]at c0;obtain⟨u0,e0,H0⟩:=c0;simp only[CA,and_true]at e0;subst e0;obtain⟨I,B0,r0,M,l0⟩:=rz H0;have a7:iC P w (λk=>k<w.heap.size/\k∉([b0,[]]:List (List Nat)).flatten) [e'] .bool J v1:=a7;have hy:gZ e xs (λy=>J (cv y.1,()))=some y:=hy;simp only[B6,B7,B5]at b3 cy a7 ⊢;unfold gZ at hy;split at hy
 rotate_left
 ·cases hy
 rename_i cw;obtain⟨ys,c1,rfl⟩:=B4.1 hy;obtain⟨a5,rfl⟩:=sq c1;simp only at a5;have a1:∀ k∈b0,k<w.heap.size:=H0.lt;have hT:e.den=e'.den:=jO bb;have ba:ox (xs.map cv) J (a9 (xs.map cv,J,())):=cx _ _ (by rw[B8];exact cw) (λx hx=>by
  obtain⟨x',f3,rfl⟩:=List.mem_map.1 hx;exact a5 x' f3)
 have f1:Rd w (λk=>k<w.heap.size) (.list false E e') (xs.map cv) [v0] :=
  Rd.flags (a:=.list true E e) (by simp only[Ty.sh,bb]) (Bg hT cv e5 xs) (Mx.rd (λk r=>(cy k r).1) a1 dc)
 have a0:∀ (i:Int) (u:ah [PK.rd (.list false E e'),PK.fn [e'] .bool]),a9 (xs.map cv,J,())=some ((i,()),u)->Calls P idx #[v0,v1] w (λe w'=>e=.returned (.int .i64 i)/\Below w.heap.size w w'):=by
  intro i u hi;have:=d1.2 w (λk=>k<w.heap.size) (xs.map cv,J,()) [v0,v1] [[],[]] _
   ⟨v0,[v1],[],[[]],rfl,rfl,⟨rfl,[v0],rfl,f1⟩,v1,[],[],[],rfl,rfl,⟨rfl,iC.mono (λk r=>⟨r.1,by simp⟩) a7⟩,rfl,rfl⟩
   (λk r=>⟨r,by simp⟩) (by simp) hi
  refine this.mono λe w' hp=>?_
  obtain⟨v,us,N,fl,fo,rfl,a3,f2,f4,ev,ej,ed,_,_,eb,_,_⟩:=hp;refine⟨?_,⟨f4,ev,ej,f2,λk r=>ed k r (by simp)⟩⟩;obtain⟨u,fx,b,fd,e1,e2,⟨cs,Y,hm⟩,e3,e4⟩:=eb;subst e3;subst e1;have a3:v=u:=a3;subst a3;have Y:cs=[v]:=Y;have hm:cs=[.int .i64 i]:=hm.1;rw[Y]at hm;simp only[CA,and_true]at hm;rw[hm]
 have a4:∀ (ys:List e.den) (v':Value) (w':World) (b4:List Value) (B':List Nat),Row w' E e.cells v' ys.length b4->w.grownBy w' v0.ownBlock->v'.ownBlock=v0.ownBlock->Els w (λ_=>False) e ys b4 B'->B'.Sublist B0 ->
   tW ⟨f,[.own (.list true E e),.fn [e'] .bool],[.v (.list true E e)],O,λx=>gZ e x.1 (λy=>x.2.1 (cv y.1,()))⟩ w ro [v0,v1] [b0,[]] ((ys,()),()) (.returned v') w':=by
  intro ys v' w' b4 B' r' z a6 L Z;have H:b0.Nodup:=b3;have hB:∀ k∈B',w'.heap[k]?=w.heap[k]?:=λk r=>by
   have e6:k∈B0:=Z.subset r;refine z.block k (a1 k (by rw[M];exact CC _ e6)) λh=>?_
   rw[M]at H;exact (CL.1 H).2.2 k (by rw[<- h];simp) k e6 rfl
  have L':Els w' (λk=>False\/(O=false/\ro k)) e ys b4 B':=L.carry (λ_ h=>h.elim) (λ_ h=>h.elim) hB;have R:=vP r' L';rw[a6]at R;have X:(v0.ownBlock.toList++B').Sublist b0:=by rw[M];exact (B9 _).append Z
  refine⟨v',[v'],λ_=>False,[[],[]],[v0.ownBlock.toList++B'],rfl,rfl,z.size,z.os,z.tape,z.output,?_,?_,?_,?_,?_,?_⟩
  ·intro k r hn;refine z.block k r (λh=>hn ?_);simp only[B6,B7,B5];rw[M];exact CD _ (by rw[<- h];simp)
  ·intro k h;exact h.elim
  ·exact⟨rfl,rfl,trivial⟩
  ·refine⟨v',[],_,[],rfl,rfl,⟨[v'],rfl,?_⟩,rfl,rfl⟩;rw[bP (by simp)];exact⟨v',rfl,R⟩
  ·simp only[B6,B7,B5,CQ];exact b3.sublist X
  ·intro k r;simp only[B6,B7,B5,CQ]at r;refine⟨⟨CH (a1 k (X.subset r)) z.size,.inr ?_⟩,λh=>h⟩;simp only[B6,B7,B5];exact X.subset r
 have bn:Els w (λ_=>False) e xs I B0:=l0.deep hd;rcases ba with ⟨em,u,hi⟩|⟨p,x,u,hx,f6,b2,hi⟩
 ·have c1:xs.filter (λx=>!decide (J (cv x,())=some true))=xs:=by
   rw[List.filter_eq_self];intro a ha;rw[em (cv a) (List.mem_map_of_mem ha)];simp
  refine (a8.none_ w v0 v1 xs.length I r0 (a0 _ _ hi)).mono λen w'=>?_
  rintro⟨rfl,hb⟩;rw[c1];exact a4 xs v0 w' I B0 (r0.same (λk r=>hb.block k (r0.lt k r))) ⟨hb.os,hb.tape,hb.output,hb.size,λk r _=>hb.block k r⟩ rfl bn (B9 _)
 ·obtain⟨fi,d3,rfl,ec,bl⟩:=a7;have b5:p<xs.length:=by
   have:=(List.getElem?_eq_some_iff.1 hx).1
   rwa [B8]at this
  have eg:=r0;rcases r0.2 with ⟨_,h⟩|⟨g,f7,fz,mk,rfl,hg,g3,fr,g1,fc⟩
  ·exact absurd b5 (by rw[h];omega)
  obtain⟨ad,hB,f0⟩:=bn.to;have H:b0.Nodup:=b3;rw[M]at H;have f5:∀ k∈B0,k≠g:=λk r h=>(CL.1 H).2.2 g (by simp[CR]) k r h.symm
  have b9:∀ (j:Nat) (x:e.den),xs[j]?=some x->(λj=>match xs[j]? with|some x=>decide (J (cv x,())=some true)|none=>false) j=decide (J (cv x,())=some true):=λj x hj=>by simp only[hj]
  obtain⟨B',L,Z,ef⟩:=zX bn (λx=>decide (J (cv x,())=some true)) _ b9;have b6:∀ j,(xs.map cv)[j]?=(xs[j]?).map cv:=λj=>CM
  refine (a8.some_ w g xs.length f7 I fi d3 (λj=>match xs[j]? with|some x=>decide (J (cv x,())=some true)|none=>false) p eg l0.one ec b5 ?_ ?_ ?_ (a0 _ _ hi)).mono λen w'=>?_
  ·rw[b6,B3 b5,Option.map_some,CI]at hx;simp only[B3 b5,hx,f6,decide_true]
  ·intro j hj;have cc:j<xs.length:=by omega
   have:=b2 j (cv xs[j]) hj (by rw[b6,B3 cc];rfl);simp only[B3 cc,this];simp
  ·intro w1 cb e7 j hj;have d2:=B3 hj;obtain⟨c,h3,h4⟩:=f0 j xs[j] d2;have hc:(I.drop (j*e.cells)).take e.cells=c:=by
    refine CK λi=>?_
    rw[CE];split
    ·rename_i hi;have cp:i<c.length:=by rw[h3.len];exact hi
     rw[CF,h4 i c[i] (B3 cp),B3 cp]
    ·rename_i hi;exact (CB (by rw[h3.len];omega)).symm
   rw[hc];have dd:∀ k∈ad j,k∈B0:=λk r=>by rw[hB];exact ee.2 ⟨j,hj,r⟩
   have c3:∀ k∈ad j,k<w.heap.size:=λk r=>a1 k (by rw[M];exact CC _ (dd k r))
   have M1:Mx w1 (λ_=>False) e none 0 xs[j] c (ad j):=h3.carry (λ_ h=>h) (λ_ h=>h.elim) (λk r=>e7 k (c3 k r) (f5 k (dd k r)));have R1:Rd w1 (λk=>k<w1.heap.size) e' (cv xs[j]) c:=Rd.flags bb (e5 _) (Mx.rd (λ_ h=>h.elim) (λk r=>CH (c3 k r) cb) M1);obtain⟨b,hb⟩:=a5 xs[j] (List.getElem_mem hj);have:=bl w1 cb (λk r=>e7 k r.1 (λh=>r.2 (by rw[h,M];exact CD _ (by simp[CR])))) (cv xs[j],()) [.agg c.toArray] b ⟨.agg c.toArray,c,[],rfl,by unfold dn;rw[c4];rfl,R1,rfl⟩ hb;refine Calls.mono (h:=this) λe2 w2 hp=>?_
   obtain⟨u,cu,rfl,Y,a2,f8⟩:=hp;have Y:cu=[u]:=Y;have a2:cu=[.bool b]:=a2;rw[Y]at a2;simp only[CA,and_true]at a2;refine⟨?_,f8⟩;rw[a2];simp only[d2,hb];cases b <;> simp
  ·rintro⟨v',rfl,r',z,a6⟩;rw[<- ef]at r';exact a4 _ v' w' _ B' r' z a6 L Z
theorem mR:∀ a:Ty,a.hd.cells=a.cells
 |.pair a b=>by show a.hd.cells+b.hd.cells=a.cells+b.cells;rw[mR a,mR b]
 |.list _ _ _=>rfl
 |.int _=>rfl
 |.bool=>rfl
 |.str=>rfl
 |.unit=>rfl
 |.hdr=>rfl
theorem Mx.hd {w w':World}{G G':Nat->Prop}:∀ {a:Ty} {pos:Nat} {x:a.den} {cs:List Value} {bs:List Nat},a.sh=a->Mx w G a none pos x cs bs->Mx w' G' a.hd none pos (hdD a x) cs bs
 |.int _,_,_,_,_,_,h=>h
 |.bool,_,_,_,_,_,h=>h
 |.str,_,_,_,_,_,h=>h
 |.unit,_,_,_,_,_,h=>h
 |.hdr,_,_,_,_,_,h=>h
 |.pair a b,pos,x,_,_,r,⟨J,z,M,O,H,R,u,I⟩=>by
  simp only[Ty.sh,Ty.pair.injEq]at r;exact⟨J,z,M,O,H,R,Mx.hd r.1 u,Mx.hd r.2 (Mx.pos I)⟩
 |.list m E e,_,X,cs,bs,r,h=>by
  simp only[Ty.sh,Ty.list.injEq]at r;obtain⟨rfl,_⟩:=r;rw[cB]at h;obtain⟨A,y,u,_⟩:=h.2;exact⟨⟨A,y,u⟩,h.1⟩
theorem ux {P:Program}{f:FuncId}{E:TypeId}{e:Ty}{H:Nat}{fr:Bool}(he:e.sh=e)
  (hs:bN P ⟨f,[.rd (.list false E e)],[.v (.list true E e)],fr,λx=>fk e H x.1⟩):bN P ⟨f,[.rd (.list false E e)],[.v (.list true E e.hd)],true,λx=>qH e H x.1⟩:=by
 refine⟨hs.1,λw ro x vs a5 y r a8 a2 hy=>?_⟩;obtain⟨z,hz,rfl⟩:=B4.1 hy;obtain⟨⟨xs,⟨⟩⟩,⟨⟩⟩:=z;refine (hs.2 w ro x vs a5 _ r a8 a2 hz).mono λen w' hp=>?_
 obtain⟨v,us,N,O,a1,h1,M,b3,ad,a4,a9,a3,hN,J,X,R,I⟩:=hp;obtain⟨u,a0,b,Z,e1,e2,⟨cs,b0,hm⟩,e3,e4⟩:=X;refine⟨v,us,N,O,a1,h1,M,b3,ad,a4,a9,a3,hN,?_,⟨u,a0,b,Z,e1,e2,⟨cs,b0,?_⟩,e3,e4⟩,R,I⟩
 ·obtain⟨v1,b4,b1,b5,rfl,rfl,_,rfl,rfl⟩:=r
  match O,J with
  |[b2],J=>exact J
  |[],J=>exact J.elim
  |_::_::_,J=>exact (J.2:False).elim
 ·rw[bP (by simp)]at hm ⊢;obtain⟨v2,h2,Y,a7,h3,h4,h5⟩:=hm;refine⟨v2,h2,Y,a7,?_,?_,λj y hj=>?_⟩
  ·rw[mR,B8];exact h3
  ·rw[B8];exact h4
  ·rw[CM]at hj;obtain⟨x',a6,rfl⟩:=B4.1 hj;obtain⟨c,h6,h7⟩:=h5 j x' a6;exact⟨c,h6.hd he,λi u hi=>by rw[mR];exact h7 i u hi⟩
end Go.Proofs.YtadlacffdemoiaaGreatEv
