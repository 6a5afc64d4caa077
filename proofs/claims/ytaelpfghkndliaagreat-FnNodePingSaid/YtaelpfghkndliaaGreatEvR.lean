/- slices.DeleteFunc: from what its walk says to its contract; the headers of a copy. -/
import Derived.Test.YtaelpfghkndliaaGreatEvQ
set_option linter.unusedVariables false
set_option linter.unusedSimpArgs false
open Bool renaming false_eq_true->BN
open Go.Value renaming ownBlock->BY
open List renaming getElem?_eq_getElem->BA,append_nil->BC,flatten_cons->BD,flatten_nil->BE,length_map->BF,getElem?_eq_none->BI,mem_append_right->BJ,mem_append_left->BK,getElem?_take->BL,getElem?_drop->BM,flatMap_cons->BQ,ext_getElem?->BR,nodup_append->BS,getElem?_map->BT,filter_cons->BU,filter_nil->BV,length_nil->BW,nil_append->BX
open List.Sublist renaming refl->BG
open List.cons renaming injEq->BH
open Nat renaming lt_of_lt_of_le->BO
open Option renaming map_eq_some_iff->BB
open Option.some renaming injEq->BP
namespace Go.Proofs.YtaelpfghkndliaaGreatEv
open Go Go.RowKit
def fu (s:Nat)(del:Nat->Bool)(flat:List Value):Nat->List Value
 |0=>[]
 |j+1=>fu s del flat j++(if del j=true then [] else (flat.drop (j*s)).take s)
def dC (del:Nat->Bool):Nat->Nat
 |0=>0
 |j+1=>dC del j+(if del j=true then 0 else 1)
theorem rP {α:Type}{u:α×Unit->Option Bool}:∀ {xs r:List α},lO u xs=some r->(∀ x∈xs,∃ b,u (x,())=some b)/\r=xs.filter (λx=>!decide (u (x,())=some true))
 |[],r,h=>by
  simp only[lO,BP]at h;subst h;exact⟨by simp,rfl⟩
 |x::xs,r,h=>by
  simp only[lO]at h;obtain⟨b,H,h⟩:=Option.bind_eq_some_iff.1 h;obtain⟨O,I,rfl⟩:=BB.1 h;obtain⟨J,M⟩:=rP I;subst M;refine⟨λy z=>?_,?_⟩
  ·rcases List.mem_cons.1 z with rfl|z
   ·exact⟨b,H⟩
   ·exact J y z
  ·cases b <;> simp[H]
theorem oG {f g:Nat->List Nat}(h:∀ j,(f j).Sublist (g j)):∀ l:List Nat,(l.flatMap f).Sublist (l.flatMap g)
 |[]=>BG _
 |a::l=>by
  rw[BQ,BQ];exact (h a).append (oG h l)
theorem ze {w:World}{G:Nat->Prop}{e:Ty}{xs:List e.den}{flat:List Value}{B:List Nat}(H:Els w G e xs flat B)(p:e.den->Bool)(del:Nat->Bool)(z:∀ (j:Nat) (x:e.den),xs[j]?=some x->del j=p x) :
  ∃ Y,Els w G e (xs.filter λx=>!p x) (fu e.cells del flat xs.length) Y/\Y.Sublist B/\(xs.filter λx=>!p x).length=dC del xs.length:=by
 obtain⟨M,hB,hx⟩:=H.to;have O:∀ j,j<=xs.length->Els w G e ((xs.take j).filter λx=>!p x) (fu e.cells del flat j) ((List.range j).flatMap λi=>if del i=true then [] else M i)/\((xs.take j).filter λx=>!p x).length=dC del j:=by
  intro j;induction j with
  |zero=>intro _;exact⟨⟨rfl,rfl⟩,rfl⟩
  |succ j ih =>
   intro hj;have r:j<xs.length:=by omega
   obtain⟨u,J⟩:=ih (by omega);obtain⟨c,X,h4⟩:=hx j xs[j] (BA r);have R:=z j xs[j] (BA r);have hc:(flat.drop (j*e.cells)).take e.cells=c:=by
    refine BR λi=>?_
    rw[BL];split
    ·rename_i Z;have y:i<c.length:=by rw[X.len];exact Z
     rw[BM,h4 i c[i] (BA y),BA y]
    ·rename_i Z;exact (BI (by rw[X.len];omega)).symm
   rw[List.take_add_one,BA r,List.filter_append,List.range_succ,List.flatMap_append,List.length_append];simp only[fu,dC,List.flatMap_singleton,Option.toList_some,hc];cases I:del j with
   |true =>
    rw[I]at R;simp only[if_true,BC,BU,<- R,Bool.not_true,BN,if_false,BV,BW];exact⟨u,J⟩
   |false =>
    rw[I]at R;simp only[BN,if_false,BU,<- R,Bool.not_false,if_true,BV,List.length_cons,BW,J];exact⟨u.append ⟨c,M j,[],[],by simp,by simp,X,rfl,rfl⟩,trivial⟩
 obtain⟨u,J⟩:=O xs.length (Nat.le_refl _);rw[List.take_length]at u J;refine⟨_,u,?_,J⟩;rw[hB];exact oG (λj=>by split <;> simp) _
structure qQ (P:Program) (f idx:FuncId) (E:TypeId) (s:Nat):Prop where
 none_:∀ (w:World) (v0 fv:Value) (n:Nat) (flat:List Value),Row w E s v0 n flat->Calls P idx #[v0,fv] w (λe w'=>e=.returned (.int .i64 (-1))/\Below w.heap.size w w') ->
  Calls P f #[v0,fv] w λe w'=>e=.returned v0/\Below w.heap.size w w'
 some_:∀ (w:World) (g n cap:Nat) (flat:List Value) (fi:FuncId) (caps:Array Value) (del:Nat->Bool) (p0:Nat),Row w E s (.slice (some ⟨g,0,none⟩) n cap) n flat->(∀ u∈flat,u.oneCell'=true)->fP P fi->p0<n->del p0=true->(∀ j,j<p0->del j=false) ->
  (∀ w1:World,w.heap.size<=w1.heap.size->(∀ k,k<w.heap.size->k≠g->w1.heap[k]?=w.heap[k]?)->∀ j,j<n->Calls P fi (#[.agg ((flat.drop (j*s)).take s).toArray]++caps) w1 (λe w2=>e=.returned (.bool (del j))/\Below w1.heap.size w1 w2)) ->
  Calls P idx #[.slice (some ⟨g,0,none⟩) n cap,.func (.func fi) #[] caps] w (λe w'=>e=.returned (.int .i64 p0)/\Below w.heap.size w w') ->
  Calls P f #[.slice (some ⟨g,0,none⟩) n cap,.func (.func fi) #[] caps] w λe w'=>∃ v',e=.returned v'/\Row w' E s v' (dC del n) (fu s del flat n)/\w.grownBy w' (some g)/\v'.ownBlock=some g
def nW {α β:Type}(xs:List α)(r:α×Unit->Option Bool)(o:Option ((Int×Unit)×β)):Prop :=
 ((∀ x∈xs,r (x,())=some false)/\∃ u,o=some ((-1,()),u)) \/
 ∃ p x u,xs[p]?=some x/\r (x,())=some true/\(∀ j y,j<p->xs[j]?=some y->r (y,())=some false)/\o=some ((((p:Nat):Int),()),u)
theorem At {A u:Type}(h:A=u)(cv:A->u)(r:∀ x,HEq x (cv x))(xs:List A):HEq xs (xs.map cv):=by
 subst h;have:cv=id:=funext λx=>(eq_of_heq (r x)).symm
 subst this;simp
theorem nC {P:Program}{f idx:FuncId}{E:TypeId}{e e':Ty}{O eg:Bool}{cv:e.den->e'.den}(c5:∀ x,HEq x (cv x))(bl:e.sh=e'.sh)
  {b2:ac [PK.rd (.list false E e'),PK.fn [e'] .bool]->Option (aj [RK.v (.int .i64)]×ai [PK.rd (.list false E e'),PK.fn [e'] .bool])}
  (hE:fP P f) (hd:e.shy=false) (cp:e'.isAgg=true) (cb:bP P ⟨idx,[.rd (.list false E e'),.fn [e'] .bool],[.v (.int .i64)],eg,b2⟩)
  (c4:∀ (xs:List e'.den) (X:Tup [e']->Option Bool),xs.length<=1048576->(∀ x∈xs,∃ b,X (x,())=some b)->nW xs X (b2 (xs,X,())))
  (a9:qQ P f idx E e.cells) :
  bP P ⟨f,[.own (.list true E e),.fn [e'] .bool],[.v (.list true E e)],O,λx=>gJ e x.1 (λy=>x.2.1 (cv y.1,()))⟩:=by
 refine⟨hE,?_⟩;intro w ro x vs b3 y bb cw b6 hy;obtain⟨xs,X,_⟩:=x;obtain⟨v0,g1,b0,g3,rfl,rfl,⟨f0,c1,c3⟩,v1,g4,b1,g2,rfl,rfl,⟨ej,ab⟩,rfl,rfl⟩:=bb;have c1:f0=[v0]:=c1;subst c1 ej;have cc:=c3;rw[bH (by simp)]at c3;obtain⟨u0,e0,H0⟩:=c3;simp only[BH,and_true]at e0;subst e0;obtain⟨I,B0,r0,M,l0⟩:=qP H0;have ab:ib P w (λk=>k<w.heap.size/\k∉([b0,[]]:List (List Nat)).flatten) [e'] .bool X v1:=ab;have hy:gJ e xs (λy=>X (cv y.1,()))=some y:=hy;simp only[BD,BE,BC]at b6 cw ab ⊢;unfold gJ at hy;split at hy
 rotate_left
 ·cases hy
 rename_i dd;obtain⟨ys,bn,rfl⟩:=BB.1 hy;obtain⟨a2,rfl⟩:=rP bn;simp only at a2;have Z:∀ k∈b0,k<w.heap.size:=H0.lt;have hT:e.den=e'.den:=jq bl;have bx:nW (xs.map cv) X (b2 (xs.map cv,X,())):=c4 _ _ (by rw[BF];exact dd) (λx hx=>by
  obtain⟨x',es,rfl⟩:=List.mem_map.1 hx;exact a2 x' es)
 have ef:Rd w (λk=>k<w.heap.size) (.list false E e') (xs.map cv) [v0] :=
  Rd.flags (a:=.list true E e) (by simp only[Ty.sh,bl]) (At hT cv c5 xs) (Mx.rd (λk r=>(cw k r).1) Z cc)
 have a0:∀ (i:Int) (u:ai [PK.rd (.list false E e'),PK.fn [e'] .bool]),b2 (xs.map cv,X,())=some ((i,()),u)->Calls P idx #[v0,v1] w (λe w'=>e=.returned (.int .i64 i)/\Below w.heap.size w w'):=by
  intro i u hi;have:=cb.2 w (λk=>k<w.heap.size) (xs.map cv,X,()) [v0,v1] [[],[]] _
   ⟨v0,[v1],[],[[]],rfl,rfl,⟨rfl,[v0],rfl,ef⟩,v1,[],[],[],rfl,rfl,⟨rfl,ib.mono (λk r=>⟨r.1,by simp⟩) ab⟩,rfl,rfl⟩
   (λk r=>⟨r,by simp⟩) (by simp) hi
  refine this.mono λe w' hp=>?_
  obtain⟨v,us,N,fr,fz,rfl,a4,f2,em,ex,f6,f7,_,_,d3,_,_⟩:=hp;refine⟨?_,⟨em,ex,f6,f2,λk r=>f7 k r (by simp)⟩⟩;obtain⟨u,fd,b,fc,e1,e2,⟨cs,Y,hm⟩,e3,e4⟩:=d3;subst e3;subst e1;have a4:v=u:=a4;subst a4;have Y:cs=[v]:=Y;have hm:cs=[.int .i64 i]:=hm.1;rw[Y]at hm;simp only[BH,and_true]at hm;rw[hm]
 have a5:∀ (ys:List e.den) (v':Value) (w':World) (ad:List Value) (B':List Nat),Row w' E e.cells v' ys.length ad->w.grownBy w' v0.ownBlock->v'.ownBlock=v0.ownBlock->Els w (λ_=>False) e ys ad B'->B'.Sublist B0 ->
   tt ⟨f,[.own (.list true E e),.fn [e'] .bool],[.v (.list true E e)],O,λx=>gJ e x.1 (λy=>x.2.1 (cv y.1,()))⟩ w ro [v0,v1] [b0,[]] ((ys,()),()) (.returned v') w':=by
  intro ys v' w' ad B' r' z a6 L a1;have H:b0.Nodup:=b6;have hB:∀ k∈B',w'.heap[k]?=w.heap[k]?:=λk r=>by
   have e5:k∈B0:=a1.subset r;refine z.block k (Z k (by rw[M];exact BJ _ e5)) λh=>?_
   rw[M]at H;exact (BS.1 H).2.2 k (by rw[<- h];simp) k e5 rfl
  have L':Els w' (λk=>False\/(O=false/\ro k)) e ys ad B':=L.carry (λ_ h=>h.elim) (λ_ h=>h.elim) hB;have R:=vj r' L';rw[a6]at R;have J:(v0.ownBlock.toList++B').Sublist b0:=by rw[M];exact (BG _).append a1
  refine⟨v',[v'],λ_=>False,[[],[]],[v0.ownBlock.toList++B'],rfl,rfl,z.size,z.os,z.tape,z.output,?_,?_,?_,?_,?_,?_⟩
  ·intro k r hn;refine z.block k r (λh=>hn ?_);simp only[BD,BE,BC];rw[M];exact BK _ (by rw[<- h];simp)
  ·intro k h;exact h.elim
  ·exact⟨rfl,rfl,trivial⟩
  ·refine⟨v',[],_,[],rfl,rfl,⟨[v'],rfl,?_⟩,rfl,rfl⟩;rw[bH (by simp)];exact⟨v',rfl,R⟩
  ·simp only[BD,BE,BC,BX];exact b6.sublist J
  ·intro k r;simp only[BD,BE,BC,BX]at r;refine⟨⟨BO (Z k (J.subset r)) z.size,.inr ?_⟩,λh=>h⟩;simp only[BD,BE,BC];exact J.subset r
 have c2:Els w (λ_=>False) e xs I B0:=l0.deep hd;rcases bx with ⟨f1,u,hi⟩|⟨p,x,u,hx,f5,b4,hi⟩
 ·have bn:xs.filter (λx=>!decide (X (cv x,())=some true))=xs:=by
   rw[List.filter_eq_self];intro a ha;rw[f1 (cv a) (List.mem_map_of_mem ha)];simp
  refine (a9.none_ w v0 v1 xs.length I r0 (a0 _ _ hi)).mono λen w'=>?_
  rintro⟨rfl,hb⟩;rw[bn];exact a5 xs v0 w' I B0 (r0.same (λk r=>hb.block k (r0.lt k r))) ⟨hb.os,hb.tape,hb.output,hb.size,λk r _=>hb.block k r⟩ rfl c2 (BG _)
 ·obtain⟨fi,e6,rfl,ec,c0⟩:=ab;have b5:p<xs.length:=by
   have:=(List.getElem?_eq_some_iff.1 hx).1
   rwa [BF]at this
  have f4:=r0;rcases r0.2 with ⟨_,h⟩|⟨g,et,fo,mk,rfl,hg,fv,fx,fl,f3⟩
  ·exact absurd b5 (by rw[h];omega)
  obtain⟨b3,hB,eb⟩:=c2.to;have H:b0.Nodup:=b6;rw[M]at H;have ev:∀ k∈B0,k≠g:=λk r h=>(BS.1 H).2.2 g (by simp[BY]) k r h.symm
  have ba:∀ (j:Nat) (x:e.den),xs[j]?=some x->(λj=>match xs[j]? with|some x=>decide (X (cv x,())=some true)|none=>false) j=decide (X (cv x,())=some true):=λj x hj=>by simp only[hj]
  obtain⟨B',L,a1,f8⟩:=ze c2 (λx=>decide (X (cv x,())=some true)) _ ba;have b9:∀ j,(xs.map cv)[j]?=(xs[j]?).map cv:=λj=>BT
  refine (a9.some_ w g xs.length et I fi e6 (λj=>match xs[j]? with|some x=>decide (X (cv x,())=some true)|none=>false) p f4 l0.one ec b5 ?_ ?_ ?_ (a0 _ _ hi)).mono λen w'=>?_
  ·rw[b9,BA b5,Option.map_some,BP]at hx;simp only[BA b5,hx,f5,decide_true]
  ·intro j hj;have d1:j<xs.length:=by omega
   have:=b4 j (cv xs[j]) hj (by rw[b9,BA d1];rfl);simp only[BA d1,this];simp
  ·intro w1 e7 cx j hj;have dc:=BA hj;obtain⟨c,h3,h4⟩:=eb j xs[j] dc;have hc:(I.drop (j*e.cells)).take e.cells=c:=by
    refine BR λi=>?_
    rw[BL];split
    ·rename_i hi;have cy:i<c.length:=by rw[h3.len];exact hi
     rw[BM,h4 i c[i] (BA cy),BA cy]
    ·rename_i hi;exact (BI (by rw[h3.len];omega)).symm
   rw[hc];have d2:∀ k∈b3 j,k∈B0:=λk r=>by rw[hB];exact dV.2 ⟨j,hj,r⟩
   have c6:∀ k∈b3 j,k<w.heap.size:=λk r=>Z k (by rw[M];exact BJ _ (d2 k r))
   have M1:Mx w1 (λ_=>False) e none 0 xs[j] c (b3 j):=h3.carry (λ_ h=>h) (λ_ h=>h.elim) (λk r=>cx k (c6 k r) (ev k (d2 k r)));have R1:Rd w1 (λk=>k<w1.heap.size) e' (cv xs[j]) c:=Rd.flags bl (c5 _) (Mx.rd (λ_ h=>h.elim) (λk r=>BO (c6 k r) e7) M1);obtain⟨b,hb⟩:=a2 xs[j] (List.getElem_mem hj);have:=c0 w1 e7 (λk r=>cx k r.1 (λh=>r.2 (by rw[h,M];exact BK _ (by simp[BY])))) (cv xs[j],()) [.agg c.toArray] b ⟨.agg c.toArray,c,[],rfl,by unfold da;rw[cp];rfl,R1,rfl⟩ hb;refine Calls.mono (h:=this) λe2 w2 hp=>?_
   obtain⟨u,cu,rfl,Y,a3,ed⟩:=hp;have Y:cu=[u]:=Y;have a3:cu=[.bool b]:=a3;rw[Y]at a3;simp only[BH,and_true]at a3;refine⟨?_,ed⟩;rw[a3];simp only[dc,hb];cases b <;> simp
  ·rintro⟨v',rfl,r',z,a6⟩;rw[<- f8]at r';exact a5 _ v' w' _ B' r' z a6 L a1
theorem mz:∀ a:Ty,a.hd.cells=a.cells
 |.pair a b=>by show a.hd.cells+b.hd.cells=a.cells+b.cells;rw[mz a,mz b]
 |.list _ _ _=>rfl
 |.int _=>rfl
 |.bool=>rfl
 |.str=>rfl
 |.unit=>rfl
 |.hdr=>rfl
theorem Mx.hd {w w':World}{G G':Nat->Prop}:∀ {a:Ty} {pos:Nat} {x:a.den} {cs:List Value} {bs:List Nat},a.sh=a->Mx w G a none pos x cs bs->Mx w' G' a.hd none pos (hdD a x) cs bs
 |.int _,_,_,_,_,_,h=>h
 |.bool,_,_,_,_,_,h=>h
 |.str,_,_,_,_,_,h=>h
 |.unit,_,_,_,_,_,h=>h
 |.hdr,_,_,_,_,_,h=>h
 |.pair a b,pos,x,_,_,r,⟨R,M,H,J,z,I,u,O⟩=>by
  simp only[Ty.sh,Ty.pair.injEq]at r;exact⟨R,M,H,J,z,I,Mx.hd r.1 u,Mx.hd r.2 (Mx.pos O)⟩
 |.list m E e,_,X,cs,bs,r,h=>by
  simp only[Ty.sh,Ty.list.injEq]at r;obtain⟨rfl,_⟩:=r;rw[cq]at h;obtain⟨A,y,u,_⟩:=h.2;exact⟨⟨A,y,u⟩,h.1⟩
theorem Bn {P:Program}{f:FuncId}{E:TypeId}{e:Ty}{H:Nat}{fr:Bool}(he:e.sh=e)
  (hs:bP P ⟨f,[.rd (.list false E e)],[.v (.list true E e)],fr,λx=>fJ e H x.1⟩):bP P ⟨f,[.rd (.list false E e)],[.v (.list true E e.hd)],true,λx=>zu e H x.1⟩:=by
 refine⟨hs.1,λw ro x vs b4 y r b0 a6 hy=>?_⟩;obtain⟨z,hz,rfl⟩:=BB.1 hy;obtain⟨⟨xs,⟨⟩⟩,⟨⟩⟩:=z;refine (hs.2 w ro x vs b4 _ r b0 a6 hz).mono λen w' hp=>?_
 obtain⟨v,us,N,X,a1,h1,M,ab,a2,a0,a3,a4,hN,J,Z,R,I⟩:=hp;obtain⟨u,ad,b,Y,e1,e2,⟨cs,b3,hm⟩,e3,e4⟩:=Z;refine⟨v,us,N,X,a1,h1,M,ab,a2,a0,a3,a4,hN,?_,⟨u,ad,b,Y,e1,e2,⟨cs,b3,?_⟩,e3,e4⟩,R,I⟩
 ·obtain⟨v1,b5,b1,b6,rfl,rfl,_,rfl,rfl⟩:=r
  match X,J with
  |[b2],J=>exact J
  |[],J=>exact J.elim
  |_::_::_,J=>exact (J.2:False).elim
 ·rw[bH (by simp)]at hm ⊢;obtain⟨v2,h2,O,a5,h3,h4,h5⟩:=hm;refine⟨v2,h2,O,a5,?_,?_,λj y hj=>?_⟩
  ·rw[mz,BF];exact h3
  ·rw[BF];exact h4
  ·rw[BT]at hj;obtain⟨x',a9,rfl⟩:=BB.1 hj;obtain⟨c,h6,h7⟩:=h5 j x' a9;exact⟨c,h6.hd he,λi u hi=>by rw[mz];exact h7 i u hi⟩
end Go.Proofs.YtaelpfghkndliaaGreatEv
