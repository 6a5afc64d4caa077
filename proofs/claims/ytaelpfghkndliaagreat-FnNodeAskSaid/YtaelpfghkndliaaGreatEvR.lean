/- slices.DeleteFunc: from what its walk says to its contract; the headers of a copy. -/
import Derived.Test.YtaelpfghkndliaaGreatEvQ
set_option linter.unusedVariables false
set_option linter.unusedSimpArgs false
open Bool renaming false_eq_true->BN
open Go.Value renaming ownBlock->BY
open List renaming getElem?_eq_getElem->BA,append_nil->BC,flatten_cons->BD,flatten_nil->BE,length_map->BF,getElem?_eq_none->BI,mem_append_right->BJ,mem_append_left->BK,getElem?_take->BL,getElem?_drop->BM,flatMap_cons->BQ,ext_getElem?->BR,nodup_append->BS,getElem?_map->BT,filter_cons->BU,filter_nil->BV,length_nil->BW,nil_append->BX
open List.Sublist renaming refl->BG
open List.cons renaming injEq->BH
open Nat renaming lt_of_lt_of_le->BO
open Option renaming map_eq_some_iff->BB
open Option.some renaming injEq->BP
namespace Go.Proofs.YtaelpfghkndliaaGreatEv
open Go Go.RowKit
def fw (s:Nat)(del:Nat->Bool)(flat:List Value):Nat->List Value
 |0=>[]
 |j+1=>fw s del flat j++(if del j=true then [] else (flat.drop (j*s)).take s)
def dC (del:Nat->Bool):Nat->Nat
 |0=>0
 |j+1=>dC del j+(if del j=true then 0 else 1)
theorem rO {α:Type}{u:α×Unit->Option Bool}:∀ {xs r:List α},lO u xs=some r->(∀ x∈xs,∃ b,u (x,())=some b)/\r=xs.filter (λx=>!decide (u (x,())=some true))
 |[],r,h=>by
  simp only[lO,BP]at h;subst h;exact⟨by simp,rfl⟩
 |x::xs,r,h=>by
  simp only[lO]at h;obtain⟨b,H,h⟩:=Option.bind_eq_some_iff.1 h;obtain⟨O,M,rfl⟩:=BB.1 h;obtain⟨J,I⟩:=rO M;subst I;refine⟨λy z=>?_,?_⟩
  ·rcases List.mem_cons.1 z with rfl|z
   ·exact⟨b,H⟩
   ·exact J y z
  ·cases b <;> simp[H]
theorem oG {f g:Nat->List Nat}(h:∀ j,(f j).Sublist (g j)):∀ l:List Nat,(l.flatMap f).Sublist (l.flatMap g)
 |[]=>BG _
 |a::l=>by
  rw[BQ,BQ];exact (h a).append (oG h l)
theorem ze {w:World}{G:Nat->Prop}{e:Ty}{xs:List e.den}{flat:List Value}{B:List Nat}(H:Els w G e xs flat B)(p:e.den->Bool)(del:Nat->Bool)(u:∀ (j:Nat) (x:e.den),xs[j]?=some x->del j=p x) :
  ∃ Z,Els w G e (xs.filter λx=>!p x) (fw e.cells del flat xs.length) Z/\Z.Sublist B/\(xs.filter λx=>!p x).length=dC del xs.length:=by
 obtain⟨I,hB,hx⟩:=H.to;have O:∀ j,j<=xs.length->Els w G e ((xs.take j).filter λx=>!p x) (fw e.cells del flat j) ((List.range j).flatMap λi=>if del i=true then [] else I i)/\((xs.take j).filter λx=>!p x).length=dC del j:=by
  intro j;induction j with
  |zero=>intro _;exact⟨⟨rfl,rfl⟩,rfl⟩
  |succ j ih =>
   intro hj;have r:j<xs.length:=by omega
   obtain⟨z,y⟩:=ih (by omega);obtain⟨c,X,h4⟩:=hx j xs[j] (BA r);have R:=u j xs[j] (BA r);have hc:(flat.drop (j*e.cells)).take e.cells=c:=by
    refine BR λi=>?_
    rw[BL];split
    ·rename_i Y;have M:i<c.length:=by rw[X.len];exact Y
     rw[BM,h4 i c[i] (BA M),BA M]
    ·rename_i Y;exact (BI (by rw[X.len];omega)).symm
   rw[List.take_add_one,BA r,List.filter_append,List.range_succ,List.flatMap_append,List.length_append];simp only[fw,dC,List.flatMap_singleton,Option.toList_some,hc];cases J:del j with
   |true =>
    rw[J]at R;simp only[if_true,BC,BU,<- R,Bool.not_true,BN,if_false,BV,BW];exact⟨z,y⟩
   |false =>
    rw[J]at R;simp only[BN,if_false,BU,<- R,Bool.not_false,if_true,BV,List.length_cons,BW,y];exact⟨z.append ⟨c,I j,[],[],by simp,by simp,X,rfl,rfl⟩,trivial⟩
 obtain⟨z,y⟩:=O xs.length (Nat.le_refl _);rw[List.take_length]at z y;refine⟨_,z,?_,y⟩;rw[hB];exact oG (λj=>by split <;> simp) _
structure qP (P:Program) (f idx:FuncId) (E:TypeId) (s:Nat):Prop where
 none_:∀ (w:World) (v0 fv:Value) (n:Nat) (flat:List Value),Row w E s v0 n flat->Calls P idx #[v0,fv] w (λe w'=>e=.returned (.int .i64 (-1))/\Below w.heap.size w w') ->
  Calls P f #[v0,fv] w λe w'=>e=.returned v0/\Below w.heap.size w w'
 some_:∀ (w:World) (g n cap:Nat) (flat:List Value) (fi:FuncId) (caps:Array Value) (del:Nat->Bool) (p0:Nat),Row w E s (.slice (some ⟨g,0,none⟩) n cap) n flat->(∀ u∈flat,u.oneCell'=true)->fQ P fi->p0<n->del p0=true->(∀ j,j<p0->del j=false) ->
  (∀ w1:World,w.heap.size<=w1.heap.size->(∀ k,k<w.heap.size->k≠g->w1.heap[k]?=w.heap[k]?)->∀ j,j<n->Calls P fi (#[.agg ((flat.drop (j*s)).take s).toArray]++caps) w1 (λe w2=>e=.returned (.bool (del j))/\Below w1.heap.size w1 w2)) ->
  Calls P idx #[.slice (some ⟨g,0,none⟩) n cap,.func (.func fi) #[] caps] w (λe w'=>e=.returned (.int .i64 p0)/\Below w.heap.size w w') ->
  Calls P f #[.slice (some ⟨g,0,none⟩) n cap,.func (.func fi) #[] caps] w λe w'=>∃ v',e=.returned v'/\Row w' E s v' (dC del n) (fw s del flat n)/\w.grownBy w' (some g)/\v'.ownBlock=some g
def nW {α β:Type}(xs:List α)(r:α×Unit->Option Bool)(o:Option ((Int×Unit)×β)):Prop :=
 ((∀ x∈xs,r (x,())=some false)/\∃ u,o=some ((-1,()),u)) \/
 ∃ p x u,xs[p]?=some x/\r (x,())=some true/\(∀ j y,j<p->xs[j]?=some y->r (y,())=some false)/\o=some ((((p:Nat):Int),()),u)
theorem Au {A u:Type}(h:A=u)(cv:A->u)(r:∀ x,HEq x (cv x))(xs:List A):HEq xs (xs.map cv):=by
 subst h;have:cv=id:=funext λx=>(eq_of_heq (r x)).symm
 subst this;simp
theorem nD {P:Program}{f idx:FuncId}{E:TypeId}{e e':Ty}{M f6:Bool}{cv:e.den->e'.den}(cb:∀ x,HEq x (cv x))(bn:e.sh=e'.sh)
  {b3:ac [PK.rd (.list false E e'),PK.fn [e'] .bool]->Option (aj [RK.v (.int .i64)]×ai [PK.rd (.list false E e'),PK.fn [e'] .bool])}
  (hE:fQ P f) (hd:e.shy=false) (e5:e'.isAgg=true) (e7:bP P ⟨idx,[.rd (.list false E e'),.fn [e'] .bool],[.v (.int .i64)],f6,b3⟩)
  (c5:∀ (xs:List e'.den) (J:Tup [e']->Option Bool),xs.length<=1048576->(∀ x∈xs,∃ b,J (x,())=some b)->nW xs J (b3 (xs,J,())))
  (a9:qP P f idx E e.cells) :
  bP P ⟨f,[.own (.list true E e),.fn [e'] .bool],[.v (.list true E e)],M,λx=>gK e x.1 (λy=>x.2.1 (cv y.1,()))⟩:=by
 refine⟨hE,?_⟩;intro w ro x vs b4 y c2 c4 b2 hy;obtain⟨xs,J,_⟩:=x;obtain⟨v0,g1,b0,fz,rfl,rfl,⟨f7,bl,c3⟩,v1,fl,b1,g3,rfl,rfl,⟨ed,a3⟩,rfl,rfl⟩:=c2;have bl:f7=[v0]:=bl;subst bl ed;have c6:=c3;rw[bH (by simp)]at c3;obtain⟨u0,e0,H0⟩:=c3;simp only[BH,and_true]at e0;subst e0;obtain⟨H,B0,r0,Y,l0⟩:=qO H0;have a3:ic P w (λk=>k<w.heap.size/\k∉([b0,[]]:List (List Nat)).flatten) [e'] .bool J v1:=a3;have hy:gK e xs (λy=>J (cv y.1,()))=some y:=hy;simp only[BD,BE,BC]at b2 c4 a3 ⊢;unfold gK at hy;split at hy
 rotate_left
 ·cases hy
 rename_i dc;obtain⟨ys,c1,rfl⟩:=BB.1 hy;obtain⟨a5,rfl⟩:=rO c1;simp only at a5;have Z:∀ k∈b0,k<w.heap.size:=H0.lt;have hT:e.den=e'.den:=jq bn;have c0:nW (xs.map cv) J (b3 (xs.map cv,J,())):=c5 _ _ (by rw[BF];exact dc) (λx hx=>by
  obtain⟨x',f1,rfl⟩:=List.mem_map.1 hx;exact a5 x' f1)
 have f5:Rd w (λk=>k<w.heap.size) (.list false E e') (xs.map cv) [v0] :=
  Rd.flags (a:=.list true E e) (by simp only[Ty.sh,bn]) (Au hT cv cb xs) (Mx.rd (λk r=>(c4 k r).1) Z c6)
 have a1:∀ (i:Int) (u:ai [PK.rd (.list false E e'),PK.fn [e'] .bool]),b3 (xs.map cv,J,())=some ((i,()),u)->Calls P idx #[v0,v1] w (λe w'=>e=.returned (.int .i64 i)/\Below w.heap.size w w'):=by
  intro i u hi;have:=e7.2 w (λk=>k<w.heap.size) (xs.map cv,J,()) [v0,v1] [[],[]] _
   ⟨v0,[v1],[],[[]],rfl,rfl,⟨rfl,[v0],rfl,f5⟩,v1,[],[],[],rfl,rfl,⟨rfl,ic.mono (λk r=>⟨r.1,by simp⟩) a3⟩,rfl,rfl⟩
   (λk r=>⟨r,by simp⟩) (by simp) hi
  refine this.mono λe w' hp=>?_
  obtain⟨v,us,N,fx,fd,rfl,a2,es,et,eg,em,ej,_,_,cc,_,_⟩:=hp;refine⟨?_,⟨et,eg,em,es,λk r=>ej k r (by simp)⟩⟩;obtain⟨u,g2,b,fc,e1,e2,⟨cs,X,hm⟩,e3,e4⟩:=cc;subst e3;subst e1;have a2:v=u:=a2;subst a2;have X:cs=[v]:=X;have hm:cs=[.int .i64 i]:=hm.1;rw[X]at hm;simp only[BH,and_true]at hm;rw[hm]
 have a6:∀ (ys:List e.den) (v':Value) (w':World) (b6:List Value) (B':List Nat),Row w' E e.cells v' ys.length b6->w.grownBy w' v0.ownBlock->v'.ownBlock=v0.ownBlock->Els w (λ_=>False) e ys b6 B'->B'.Sublist B0 ->
   tt ⟨f,[.own (.list true E e),.fn [e'] .bool],[.v (.list true E e)],M,λx=>gK e x.1 (λy=>x.2.1 (cv y.1,()))⟩ w ro [v0,v1] [b0,[]] ((ys,()),()) (.returned v') w':=by
  intro ys v' w' b6 B' r' z ab L a0;have I:b0.Nodup:=b2;have hB:∀ k∈B',w'.heap[k]?=w.heap[k]?:=λk r=>by
   have cy:k∈B0:=a0.subset r;refine z.block k (Z k (by rw[Y];exact BJ _ cy)) λh=>?_
   rw[Y]at I;exact (BS.1 I).2.2 k (by rw[<- h];simp) k cy rfl
  have L':Els w' (λk=>False\/(M=false/\ro k)) e ys b6 B':=L.carry (λ_ h=>h.elim) (λ_ h=>h.elim) hB;have R:=vj r' L';rw[ab]at R;have O:(v0.ownBlock.toList++B').Sublist b0:=by rw[Y];exact (BG _).append a0
  refine⟨v',[v'],λ_=>False,[[],[]],[v0.ownBlock.toList++B'],rfl,rfl,z.size,z.os,z.tape,z.output,?_,?_,?_,?_,?_,?_⟩
  ·intro k r hn;refine z.block k r (λh=>hn ?_);simp only[BD,BE,BC];rw[Y];exact BK _ (by rw[<- h];simp)
  ·intro k h;exact h.elim
  ·exact⟨rfl,rfl,trivial⟩
  ·refine⟨v',[],_,[],rfl,rfl,⟨[v'],rfl,?_⟩,rfl,rfl⟩;rw[bH (by simp)];exact⟨v',rfl,R⟩
  ·simp only[BD,BE,BC,BX];exact b2.sublist O
  ·intro k r;simp only[BD,BE,BC,BX]at r;refine⟨⟨BO (Z k (O.subset r)) z.size,.inr ?_⟩,λh=>h⟩;simp only[BD,BE,BC];exact O.subset r
 have bx:Els w (λ_=>False) e xs H B0:=l0.deep hd;rcases c0 with ⟨ev,u,hi⟩|⟨p,x,u,hx,f0,ad,hi⟩
 ·have c1:xs.filter (λx=>!decide (J (cv x,())=some true))=xs:=by
   rw[List.filter_eq_self];intro a ha;rw[ev (cv a) (List.mem_map_of_mem ha)];simp
  refine (a9.none_ w v0 v1 xs.length H r0 (a1 _ _ hi)).mono λen w'=>?_
  rintro⟨rfl,hb⟩;rw[c1];exact a6 xs v0 w' H B0 (r0.same (λk r=>hb.block k (r0.lt k r))) ⟨hb.os,hb.tape,hb.output,hb.size,λk r _=>hb.block k r⟩ rfl bx (BG _)
 ·obtain⟨fi,d2,rfl,eb,bb⟩:=a3;have b5:p<xs.length:=by
   have:=(List.getElem?_eq_some_iff.1 hx).1
   rwa [BF]at this
  have ef:=r0;rcases r0.2 with ⟨_,h⟩|⟨g,f3,fv,mk,rfl,hg,fo,fr,g4,f8⟩
  ·exact absurd b5 (by rw[h];omega)
  obtain⟨b4,hB,ec⟩:=bx.to;have I:b0.Nodup:=b2;rw[Y]at I;have ex:∀ k∈B0,k≠g:=λk r h=>(BS.1 I).2.2 g (by simp[BY]) k r h.symm
  have ba:∀ (j:Nat) (x:e.den),xs[j]?=some x->(λj=>match xs[j]? with|some x=>decide (J (cv x,())=some true)|none=>false) j=decide (J (cv x,())=some true):=λj x hj=>by simp only[hj]
  obtain⟨B',L,a0,f2⟩:=ze bx (λx=>decide (J (cv x,())=some true)) _ ba;have b9:∀ j,(xs.map cv)[j]?=(xs[j]?).map cv:=λj=>BT
  refine (a9.some_ w g xs.length f3 H fi d2 (λj=>match xs[j]? with|some x=>decide (J (cv x,())=some true)|none=>false) p ef l0.one eb b5 ?_ ?_ ?_ (a1 _ _ hi)).mono λen w'=>?_
  ·rw[b9,BA b5,Option.map_some,BP]at hx;simp only[BA b5,hx,f0,decide_true]
  ·intro j hj;have cx:j<xs.length:=by omega
   have:=ad j (cv xs[j]) hj (by rw[b9,BA cx];rfl);simp only[BA cx,this];simp
  ·intro w1 e6 dd j hj;have cp:=BA hj;obtain⟨c,h3,h4⟩:=ec j xs[j] cp;have hc:(H.drop (j*e.cells)).take e.cells=c:=by
    refine BR λi=>?_
    rw[BL];split
    ·rename_i hi;have d3:i<c.length:=by rw[h3.len];exact hi
     rw[BM,h4 i c[i] (BA d3),BA d3]
    ·rename_i hi;exact (BI (by rw[h3.len];omega)).symm
   rw[hc];have d1:∀ k∈b4 j,k∈B0:=λk r=>by rw[hB];exact dV.2 ⟨j,hj,r⟩
   have cw:∀ k∈b4 j,k<w.heap.size:=λk r=>Z k (by rw[Y];exact BJ _ (d1 k r))
   have M1:Mx w1 (λ_=>False) e none 0 xs[j] c (b4 j):=h3.carry (λ_ h=>h) (λ_ h=>h.elim) (λk r=>dd k (cw k r) (ex k (d1 k r)));have R1:Rd w1 (λk=>k<w1.heap.size) e' (cv xs[j]) c:=Rd.flags bn (cb _) (Mx.rd (λ_ h=>h.elim) (λk r=>BO (cw k r) e6) M1);obtain⟨b,hb⟩:=a5 xs[j] (List.getElem_mem hj);have:=bb w1 e6 (λk r=>dd k r.1 (λh=>r.2 (by rw[h,Y];exact BK _ (by simp[BY])))) (cv xs[j],()) [.agg c.toArray] b ⟨.agg c.toArray,c,[],rfl,by unfold da;rw[e5];rfl,R1,rfl⟩ hb;refine Calls.mono (h:=this) λe2 w2 hp=>?_
   obtain⟨u,cu,rfl,X,a4,f4⟩:=hp;have X:cu=[u]:=X;have a4:cu=[.bool b]:=a4;rw[X]at a4;simp only[BH,and_true]at a4;refine⟨?_,f4⟩;rw[a4];simp only[cp,hb];cases b <;> simp
  ·rintro⟨v',rfl,r',z,ab⟩;rw[<- f2]at r';exact a6 _ v' w' _ B' r' z ab L a0
theorem mA:∀ a:Ty,a.hd.cells=a.cells
 |.pair a b=>by show a.hd.cells+b.hd.cells=a.cells+b.cells;rw[mA a,mA b]
 |.list _ _ _=>rfl
 |.int _=>rfl
 |.bool=>rfl
 |.str=>rfl
 |.unit=>rfl
 |.hdr=>rfl
theorem Mx.hd {w w':World}{G G':Nat->Prop}:∀ {a:Ty} {pos:Nat} {x:a.den} {cs:List Value} {bs:List Nat},a.sh=a->Mx w G a none pos x cs bs->Mx w' G' a.hd none pos (hdD a x) cs bs
 |.int _,_,_,_,_,_,h=>h
 |.bool,_,_,_,_,_,h=>h
 |.str,_,_,_,_,_,h=>h
 |.unit,_,_,_,_,_,h=>h
 |.hdr,_,_,_,_,_,h=>h
 |.pair a b,pos,x,_,_,r,⟨J,I,M,R,O,z,y,H⟩=>by
  simp only[Ty.sh,Ty.pair.injEq]at r;exact⟨J,I,M,R,O,z,Mx.hd r.1 y,Mx.hd r.2 (Mx.pos H)⟩
 |.list m E e,_,X,cs,bs,r,h=>by
  simp only[Ty.sh,Ty.list.injEq]at r;obtain⟨rfl,_⟩:=r;rw[cq]at h;obtain⟨A,u,y,_⟩:=h.2;exact⟨⟨A,u,y⟩,h.1⟩
theorem Bo {P:Program}{f:FuncId}{E:TypeId}{e:Ty}{H:Nat}{fr:Bool}(he:e.sh=e)
  (hs:bP P ⟨f,[.rd (.list false E e)],[.v (.list true E e)],fr,λx=>fJ e H x.1⟩):bP P ⟨f,[.rd (.list false E e)],[.v (.list true E e.hd)],true,λx=>zu e H x.1⟩:=by
 refine⟨hs.1,λw ro x vs a6 y r ab a9 hy=>?_⟩;obtain⟨z,hz,rfl⟩:=BB.1 hy;obtain⟨⟨xs,⟨⟩⟩,⟨⟩⟩:=z;refine (hs.2 w ro x vs a6 _ r ab a9 hz).mono λen w' hp=>?_
 obtain⟨v,us,N,Y,a3,h1,R,a1,a2,ad,a0,b0,hN,J,M,X,I⟩:=hp;obtain⟨u,a4,b,Z,e1,e2,⟨cs,b3,hm⟩,e3,e4⟩:=M;refine⟨v,us,N,Y,a3,h1,R,a1,a2,ad,a0,b0,hN,?_,⟨u,a4,b,Z,e1,e2,⟨cs,b3,?_⟩,e3,e4⟩,X,I⟩
 ·obtain⟨v1,b5,b1,b6,rfl,rfl,_,rfl,rfl⟩:=r
  match Y,J with
  |[b2],J=>exact J
  |[],J=>exact J.elim
  |_::_::_,J=>exact (J.2:False).elim
 ·rw[bH (by simp)]at hm ⊢;obtain⟨v2,h2,O,b4,h3,h4,h5⟩:=hm;refine⟨v2,h2,O,b4,?_,?_,λj y hj=>?_⟩
  ·rw[mA,BF];exact h3
  ·rw[BF];exact h4
  ·rw[BT]at hj;obtain⟨x',a5,rfl⟩:=BB.1 hj;obtain⟨c,h6,h7⟩:=h5 j x' a5;exact⟨c,h6.hd he,λi u hi=>by rw[mA];exact h7 i u hi⟩
end Go.Proofs.YtaelpfghkndliaaGreatEv
