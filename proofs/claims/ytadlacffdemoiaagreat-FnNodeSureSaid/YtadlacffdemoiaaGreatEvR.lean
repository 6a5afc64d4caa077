/- slices.DeleteFunc: from what its walk says to its contract; the headers of a copy. -/
import Derived.Test.YtadlacffdemoiaaGreatEvQ
set_option linter.unusedVariables false
set_option linter.unusedSimpArgs false
open Bool renaming false_eq_true->BN
open Go.Value renaming ownBlock->BY
open List renaming getElem?_eq_getElem->BA,append_nil->BC,flatten_cons->BD,flatten_nil->BE,length_map->BF,getElem?_eq_none->BI,mem_append_right->BJ,mem_append_left->BK,getElem?_take->BL,getElem?_drop->BM,flatMap_cons->BQ,ext_getElem?->BR,nodup_append->BS,getElem?_map->BT,filter_cons->BU,filter_nil->BV,length_nil->BW,nil_append->BX
open List.Sublist renaming refl->BG
open List.cons renaming injEq->BH
open Nat renaming lt_of_lt_of_le->BO
open Option renaming map_eq_some_iff->BB
open Option.some renaming injEq->BP
namespace Go.Proofs.YtadlacffdemoiaaGreatEv
open Go Go.RowKit
def fw (s:Nat)(del:Nat->Bool)(flat:List Value):Nat->List Value
 |0=>[]
 |j+1=>fw s del flat j++(if del j=true then [] else (flat.drop (j*s)).take s)
def dF (del:Nat->Bool):Nat->Nat
 |0=>0
 |j+1=>dF del j+(if del j=true then 0 else 1)
theorem rQ {α:Type}{u:α×Unit->Option Bool}:∀ {xs r:List α},lQ u xs=some r->(∀ x∈xs,∃ b,u (x,())=some b)/\r=xs.filter (λx=>!decide (u (x,())=some true))
 |[],r,h=>by
  simp only[lQ,BP]at h;subst h;exact⟨by simp,rfl⟩
 |x::xs,r,h=>by
  simp only[lQ]at h;obtain⟨b,H,h⟩:=Option.bind_eq_some_iff.1 h;obtain⟨O,M,rfl⟩:=BB.1 h;obtain⟨I,J⟩:=rQ M;subst J;refine⟨λy z=>?_,?_⟩
  ·rcases List.mem_cons.1 z with rfl|z
   ·exact⟨b,H⟩
   ·exact I y z
  ·cases b <;> simp[H]
theorem oC {f g:Nat->List Nat}(h:∀ j,(f j).Sublist (g j)):∀ l:List Nat,(l.flatMap f).Sublist (l.flatMap g)
 |[]=>BG _
 |a::l=>by
  rw[BQ,BQ];exact (h a).append (oC h l)
theorem zf {w:World}{G:Nat->Prop}{e:Ty}{xs:List e.den}{flat:List Value}{B:List Nat}(H:Els w G e xs flat B)(p:e.den->Bool)(del:Nat->Bool)(O:∀ (j:Nat) (x:e.den),xs[j]?=some x->del j=p x) :
  ∃ Z,Els w G e (xs.filter λx=>!p x) (fw e.cells del flat xs.length) Z/\Z.Sublist B/\(xs.filter λx=>!p x).length=dF del xs.length:=by
 obtain⟨J,hB,hx⟩:=H.to;have y:∀ j,j<=xs.length->Els w G e ((xs.take j).filter λx=>!p x) (fw e.cells del flat j) ((List.range j).flatMap λi=>if del i=true then [] else J i)/\((xs.take j).filter λx=>!p x).length=dF del j:=by
  intro j;induction j with
  |zero=>intro _;exact⟨⟨rfl,rfl⟩,rfl⟩
  |succ j ih =>
   intro hj;have r:j<xs.length:=by omega
   obtain⟨I,u⟩:=ih (by omega);obtain⟨c,X,h4⟩:=hx j xs[j] (BA r);have R:=O j xs[j] (BA r);have hc:(flat.drop (j*e.cells)).take e.cells=c:=by
    refine BR λi=>?_
    rw[BL];split
    ·rename_i Y;have M:i<c.length:=by rw[X.len];exact Y
     rw[BM,h4 i c[i] (BA M),BA M]
    ·rename_i Y;exact (BI (by rw[X.len];omega)).symm
   rw[List.take_add_one,BA r,List.filter_append,List.range_succ,List.flatMap_append,List.length_append];simp only[fw,dF,List.flatMap_singleton,Option.toList_some,hc];cases z:del j with
   |true =>
    rw[z]at R;simp only[if_true,BC,BU,<- R,Bool.not_true,BN,if_false,BV,BW];exact⟨I,u⟩
   |false =>
    rw[z]at R;simp only[BN,if_false,BU,<- R,Bool.not_false,if_true,BV,List.length_cons,BW,u];exact⟨I.append ⟨c,J j,[],[],by simp,by simp,X,rfl,rfl⟩,trivial⟩
 obtain⟨I,u⟩:=y xs.length (Nat.le_refl _);rw[List.take_length]at I u;refine⟨_,I,?_,u⟩;rw[hB];exact oC (λj=>by split <;> simp) _
structure qQ (P:Program) (f idx:FuncId) (E:TypeId) (s:Nat):Prop where
 none_:∀ (w:World) (v0 fv:Value) (n:Nat) (flat:List Value),Row w E s v0 n flat->Calls P idx #[v0,fv] w (λe w'=>e=.returned (.int .i64 (-1))/\Below w.heap.size w w') ->
  Calls P f #[v0,fv] w λe w'=>e=.returned v0/\Below w.heap.size w w'
 some_:∀ (w:World) (g n cap:Nat) (flat:List Value) (fi:FuncId) (caps:Array Value) (del:Nat->Bool) (p0:Nat),Row w E s (.slice (some ⟨g,0,none⟩) n cap) n flat->(∀ u∈flat,u.oneCell'=true)->fP P fi->p0<n->del p0=true->(∀ j,j<p0->del j=false) ->
  (∀ w1:World,w.heap.size<=w1.heap.size->(∀ k,k<w.heap.size->k≠g->w1.heap[k]?=w.heap[k]?)->∀ j,j<n->Calls P fi (#[.agg ((flat.drop (j*s)).take s).toArray]++caps) w1 (λe w2=>e=.returned (.bool (del j))/\Below w1.heap.size w1 w2)) ->
  Calls P idx #[.slice (some ⟨g,0,none⟩) n cap,.func (.func fi) #[] caps] w (λe w'=>e=.returned (.int .i64 p0)/\Below w.heap.size w w') ->
  Calls P f #[.slice (some ⟨g,0,none⟩) n cap,.func (.func fi) #[] caps] w λe w'=>∃ v',e=.returned v'/\Row w' E s v' (dF del n) (fw s del flat n)/\w.grownBy w' (some g)/\v'.ownBlock=some g
def nU {α β:Type}(xs:List α)(r:α×Unit->Option Bool)(o:Option ((Int×Unit)×β)):Prop :=
 ((∀ x∈xs,r (x,())=some false)/\∃ u,o=some ((-1,()),u)) \/
 ∃ p x u,xs[p]?=some x/\r (x,())=some true/\(∀ j y,j<p->xs[j]?=some y->r (y,())=some false)/\o=some ((((p:Nat):Int),()),u)
theorem Ax {A u:Type}(h:A=u)(cv:A->u)(r:∀ x,HEq x (cv x))(xs:List A):HEq xs (xs.map cv):=by
 subst h;have:cv=id:=funext λx=>(eq_of_heq (r x)).symm
 subst this;simp
theorem nB {P:Program}{f idx:FuncId}{E:TypeId}{e e':Ty}{M f3:Bool}{cv:e.den->e'.den}(e7:∀ x,HEq x (cv x))(bb:e.sh=e'.sh)
  {ad:ab [PK.rd (.list false E e'),PK.fn [e'] .bool]->Option (ai [RK.v (.int .i64)]×ah [PK.rd (.list false E e'),PK.fn [e'] .bool])}
  (hE:fP P f) (hd:e.shy=false) (e5:e'.isAgg=true) (d1:bQ P ⟨idx,[.rd (.list false E e'),.fn [e'] .bool],[.v (.int .i64)],f3,ad⟩)
  (cp:∀ (xs:List e'.den) (O:Tup [e']->Option Bool),xs.length<=1048576->(∀ x∈xs,∃ b,O (x,())=some b)->nU xs O (ad (xs,O,())))
  (a4:qQ P f idx E e.cells) :
  bQ P ⟨f,[.own (.list true E e),.fn [e'] .bool],[.v (.list true E e)],M,λx=>gI e x.1 (λy=>x.2.1 (cv y.1,()))⟩:=by
 refine⟨hE,?_⟩;intro w ro x vs b5 y c1 cy b4 hy;obtain⟨xs,O,_⟩:=x;obtain⟨v0,g1,b0,fl,rfl,rfl,⟨ex,bx,ba⟩,v1,fz,b1,fr,rfl,rfl,⟨ed,a3⟩,rfl,rfl⟩:=c1;have bx:ex=[v0]:=bx;subst bx ed;have c3:=ba;rw[bK (by simp)]at ba;obtain⟨u0,e0,H0⟩:=ba;simp only[BH,and_true]at e0;subst e0;obtain⟨I,B0,r0,J,l0⟩:=qP H0;have a3:ia P w (λk=>k<w.heap.size/\k∉([b0,[]]:List (List Nat)).flatten) [e'] .bool O v1:=a3;have hy:gI e xs (λy=>O (cv y.1,()))=some y:=hy;simp only[BD,BE,BC]at b4 cy a3 ⊢;unfold gI at hy;split at hy
 rotate_left
 ·cases hy
 rename_i cx;obtain⟨ys,c0,rfl⟩:=BB.1 hy;obtain⟨a7,rfl⟩:=rQ c0;simp only at a7;have a0:∀ k∈b0,k<w.heap.size:=H0.lt;have hT:e.den=e'.den:=jr bb;have b9:nU (xs.map cv) O (ad (xs.map cv,O,())):=cp _ _ (by rw[BF];exact cx) (λx hx=>by
  obtain⟨x',eg,rfl⟩:=List.mem_map.1 hx;exact a7 x' eg)
 have ev:Rd w (λk=>k<w.heap.size) (.list false E e') (xs.map cv) [v0] :=
  Rd.flags (a:=.list true E e) (by simp only[Ty.sh,bb]) (Ax hT cv e7 xs) (Mx.rd (λk r=>(cy k r).1) a0 c3)
 have a1:∀ (i:Int) (u:ah [PK.rd (.list false E e'),PK.fn [e'] .bool]),ad (xs.map cv,O,())=some ((i,()),u)->Calls P idx #[v0,v1] w (λe w'=>e=.returned (.int .i64 i)/\Below w.heap.size w w'):=by
  intro i u hi;have:=d1.2 w (λk=>k<w.heap.size) (xs.map cv,O,()) [v0,v1] [[],[]] _
   ⟨v0,[v1],[],[[]],rfl,rfl,⟨rfl,[v0],rfl,ev⟩,v1,[],[],[],rfl,rfl,⟨rfl,ia.mono (λk r=>⟨r.1,by simp⟩) a3⟩,rfl,rfl⟩
   (λk r=>⟨r,by simp⟩) (by simp) hi
  refine this.mono λe w' hp=>?_
  obtain⟨v,us,N,g3,fo,rfl,a5,eb,f5,ec,em,et,_,_,c4,_,_⟩:=hp;refine⟨?_,⟨f5,ec,em,eb,λk r=>et k r (by simp)⟩⟩;obtain⟨u,g4,b,fc,e1,e2,⟨cs,X,hm⟩,e3,e4⟩:=c4;subst e3;subst e1;have a5:v=u:=a5;subst a5;have X:cs=[v]:=X;have hm:cs=[.int .i64 i]:=hm.1;rw[X]at hm;simp only[BH,and_true]at hm;rw[hm]
 have a2:∀ (ys:List e.den) (v':Value) (w':World) (b2:List Value) (B':List Nat),Row w' E e.cells v' ys.length b2->w.grownBy w' v0.ownBlock->v'.ownBlock=v0.ownBlock->Els w (λ_=>False) e ys b2 B'->B'.Sublist B0 ->
   tu ⟨f,[.own (.list true E e),.fn [e'] .bool],[.v (.list true E e)],M,λx=>gI e x.1 (λy=>x.2.1 (cv y.1,()))⟩ w ro [v0,v1] [b0,[]] ((ys,()),()) (.returned v') w':=by
  intro ys v' w' b2 B' r' z a8 L Z;have H:b0.Nodup:=b4;have hB:∀ k∈B',w'.heap[k]?=w.heap[k]?:=λk r=>by
   have dn:k∈B0:=Z.subset r;refine z.block k (a0 k (by rw[J];exact BJ _ dn)) λh=>?_
   rw[J]at H;exact (BS.1 H).2.2 k (by rw[<- h];simp) k dn rfl
  have L':Els w' (λk=>False\/(M=false/\ro k)) e ys b2 B':=L.carry (λ_ h=>h.elim) (λ_ h=>h.elim) hB;have R:=vh r' L';rw[a8]at R;have Y:(v0.ownBlock.toList++B').Sublist b0:=by rw[J];exact (BG _).append Z
  refine⟨v',[v'],λ_=>False,[[],[]],[v0.ownBlock.toList++B'],rfl,rfl,z.size,z.os,z.tape,z.output,?_,?_,?_,?_,?_,?_⟩
  ·intro k r hn;refine z.block k r (λh=>hn ?_);simp only[BD,BE,BC];rw[J];exact BK _ (by rw[<- h];simp)
  ·intro k h;exact h.elim
  ·exact⟨rfl,rfl,trivial⟩
  ·refine⟨v',[],_,[],rfl,rfl,⟨[v'],rfl,?_⟩,rfl,rfl⟩;rw[bK (by simp)];exact⟨v',rfl,R⟩
  ·simp only[BD,BE,BC,BX];exact b4.sublist Y
  ·intro k r;simp only[BD,BE,BC,BX]at r;refine⟨⟨BO (a0 k (Y.subset r)) z.size,.inr ?_⟩,λh=>h⟩;simp only[BD,BE,BC];exact Y.subset r
 have c2:Els w (λ_=>False) e xs I B0:=l0.deep hd;rcases b9 with ⟨f2,u,hi⟩|⟨p,x,u,hx,f4,b3,hi⟩
 ·have c0:xs.filter (λx=>!decide (O (cv x,())=some true))=xs:=by
   rw[List.filter_eq_self];intro a ha;rw[f2 (cv a) (List.mem_map_of_mem ha)];simp
  refine (a4.none_ w v0 v1 xs.length I r0 (a1 _ _ hi)).mono λen w'=>?_
  rintro⟨rfl,hb⟩;rw[c0];exact a2 xs v0 w' I B0 (r0.same (λk r=>hb.block k (r0.lt k r))) ⟨hb.os,hb.tape,hb.output,hb.size,λk r _=>hb.block k r⟩ rfl c2 (BG _)
 ·obtain⟨fi,cw,rfl,f7,bl⟩:=a3;have a9:p<xs.length:=by
   have:=(List.getElem?_eq_some_iff.1 hx).1
   rwa [BF]at this
  have f0:=r0;rcases r0.2 with ⟨_,h⟩|⟨g,ef,fv,mk,rfl,hg,fd,g2,fx,f8⟩
  ·exact absurd a9 (by rw[h];omega)
  obtain⟨b5,hB,es⟩:=c2.to;have H:b0.Nodup:=b4;rw[J]at H;have f1:∀ k∈B0,k≠g:=λk r h=>(BS.1 H).2.2 g (by simp[BY]) k r h.symm
  have bn:∀ (j:Nat) (x:e.den),xs[j]?=some x->(λj=>match xs[j]? with|some x=>decide (O (cv x,())=some true)|none=>false) j=decide (O (cv x,())=some true):=λj x hj=>by simp only[hj]
  obtain⟨B',L,Z,ej⟩:=zf c2 (λx=>decide (O (cv x,())=some true)) _ bn;have b6:∀ j,(xs.map cv)[j]?=(xs[j]?).map cv:=λj=>BT
  refine (a4.some_ w g xs.length ef I fi cw (λj=>match xs[j]? with|some x=>decide (O (cv x,())=some true)|none=>false) p f0 l0.one f7 a9 ?_ ?_ ?_ (a1 _ _ hi)).mono λen w'=>?_
  ·rw[b6,BA a9,Option.map_some,BP]at hx;simp only[BA a9,hx,f4,decide_true]
  ·intro j hj;have d2:j<xs.length:=by omega
   have:=b3 j (cv xs[j]) hj (by rw[b6,BA d2];rfl);simp only[BA d2,this];simp
  ·intro w1 dd e6 j hj;have cb:=BA hj;obtain⟨c,h3,h4⟩:=es j xs[j] cb;have hc:(I.drop (j*e.cells)).take e.cells=c:=by
    refine BR λi=>?_
    rw[BL];split
    ·rename_i hi;have dc:i<c.length:=by rw[h3.len];exact hi
     rw[BM,h4 i c[i] (BA dc),BA dc]
    ·rename_i hi;exact (BI (by rw[h3.len];omega)).symm
   rw[hc];have d3:∀ k∈b5 j,k∈B0:=λk r=>by rw[hB];exact dW.2 ⟨j,hj,r⟩
   have cc:∀ k∈b5 j,k<w.heap.size:=λk r=>a0 k (by rw[J];exact BJ _ (d3 k r))
   have M1:Mx w1 (λ_=>False) e none 0 xs[j] c (b5 j):=h3.carry (λ_ h=>h) (λ_ h=>h.elim) (λk r=>e6 k (cc k r) (f1 k (d3 k r)));have R1:Rd w1 (λk=>k<w1.heap.size) e' (cv xs[j]) c:=Rd.flags bb (e7 _) (Mx.rd (λ_ h=>h.elim) (λk r=>BO (cc k r) dd) M1);obtain⟨b,hb⟩:=a7 xs[j] (List.getElem_mem hj);have:=bl w1 dd (λk r=>e6 k r.1 (λh=>r.2 (by rw[h,J];exact BK _ (by simp[BY])))) (cv xs[j],()) [.agg c.toArray] b ⟨.agg c.toArray,c,[],rfl,by unfold dg;rw[e5];rfl,R1,rfl⟩ hb;refine Calls.mono (h:=this) λe2 w2 hp=>?_
   obtain⟨u,cu,rfl,X,a6,f6⟩:=hp;have X:cu=[u]:=X;have a6:cu=[.bool b]:=a6;rw[X]at a6;simp only[BH,and_true]at a6;refine⟨?_,f6⟩;rw[a6];simp only[cb,hb];cases b <;> simp
  ·rintro⟨v',rfl,r',z,a8⟩;rw[<- ej]at r';exact a2 _ v' w' _ B' r' z a8 L Z
theorem mA:∀ a:Ty,a.hd.cells=a.cells
 |.pair a b=>by show a.hd.cells+b.hd.cells=a.cells+b.cells;rw[mA a,mA b]
 |.list _ _ _=>rfl
 |.int _=>rfl
 |.bool=>rfl
 |.str=>rfl
 |.unit=>rfl
 |.hdr=>rfl
theorem Mx.hd {w w':World}{G G':Nat->Prop}:∀ {a:Ty} {pos:Nat} {x:a.den} {cs:List Value} {bs:List Nat},a.sh=a->Mx w G a none pos x cs bs->Mx w' G' a.hd none pos (hdD a x) cs bs
 |.int _,_,_,_,_,_,h=>h
 |.bool,_,_,_,_,_,h=>h
 |.str,_,_,_,_,_,h=>h
 |.unit,_,_,_,_,_,h=>h
 |.hdr,_,_,_,_,_,h=>h
 |.pair a b,pos,x,_,_,r,⟨M,J,H,O,R,I,u,z⟩=>by
  simp only[Ty.sh,Ty.pair.injEq]at r;exact⟨M,J,H,O,R,I,Mx.hd r.1 u,Mx.hd r.2 (Mx.pos z)⟩
 |.list m E e,_,X,cs,bs,r,h=>by
  simp only[Ty.sh,Ty.list.injEq]at r;obtain⟨rfl,_⟩:=r;rw[cr]at h;obtain⟨A,y,u,_⟩:=h.2;exact⟨⟨A,y,u⟩,h.1⟩
theorem Bt {P:Program}{f:FuncId}{E:TypeId}{e:Ty}{H:Nat}{fr:Bool}(he:e.sh=e)
  (hs:bQ P ⟨f,[.rd (.list false E e)],[.v (.list true E e)],fr,λx=>fJ e H x.1⟩):bQ P ⟨f,[.rd (.list false E e)],[.v (.list true E e.hd)],true,λx=>zv e H x.1⟩:=by
 refine⟨hs.1,λw ro x vs a7 y r a6 a5 hy=>?_⟩;obtain⟨z,hz,rfl⟩:=BB.1 hy;obtain⟨⟨xs,⟨⟩⟩,⟨⟩⟩:=z;refine (hs.2 w ro x vs a7 _ r a6 a5 hz).mono λen w' hp=>?_
 obtain⟨v,us,N,O,a8,h1,Z,a0,a1,a2,b3,ad,hN,J,M,X,I⟩:=hp;obtain⟨u,a4,b,Y,e1,e2,⟨cs,a3,hm⟩,e3,e4⟩:=M;refine⟨v,us,N,O,a8,h1,Z,a0,a1,a2,b3,ad,hN,?_,⟨u,a4,b,Y,e1,e2,⟨cs,a3,?_⟩,e3,e4⟩,X,I⟩
 ·obtain⟨v1,b5,b1,b4,rfl,rfl,_,rfl,rfl⟩:=r
  match O,J with
  |[b2],J=>exact J
  |[],J=>exact J.elim
  |_::_::_,J=>exact (J.2:False).elim
 ·rw[bK (by simp)]at hm ⊢;obtain⟨v2,h2,R,a9,h3,h4,h5⟩:=hm;refine⟨v2,h2,R,a9,?_,?_,λj y hj=>?_⟩
  ·rw[mA,BF];exact h3
  ·rw[BF];exact h4
  ·rw[BT]at hj;obtain⟨x',b0,rfl⟩:=BB.1 hj;obtain⟨c,h6,h7⟩:=h5 j x' b0;exact⟨c,h6.hd he,λi u hi=>by rw[mA];exact h7 i u hi⟩
end Go.Proofs.YtadlacffdemoiaaGreatEv
