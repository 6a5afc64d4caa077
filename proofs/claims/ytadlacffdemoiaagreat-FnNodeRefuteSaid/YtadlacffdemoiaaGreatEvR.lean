/- slices.DeleteFunc: from what its walk says to its contract; the headers of a copy. -/
import Derived.Test.YtadlacffdemoiaaGreatEvQ
set_option linter.unusedVariables false
set_option linter.unusedSimpArgs false
open Bool renaming false_eq_true->BN
open Go.Value renaming ownBlock->BY
open List renaming getElem?_eq_getElem->BA,append_nil->BC,flatten_cons->BD,flatten_nil->BE,length_map->BF,getElem?_eq_none->BI,mem_append_right->BJ,mem_append_left->BK,getElem?_take->BL,getElem?_drop->BM,flatMap_cons->BQ,ext_getElem?->BR,nodup_append->BS,getElem?_map->BT,filter_cons->BU,filter_nil->BV,length_nil->BW,nil_append->BX
open List.Sublist renaming refl->BG
open List.cons renaming injEq->BH
open Nat renaming lt_of_lt_of_le->BO
open Option renaming map_eq_some_iff->BB
open Option.some renaming injEq->BP
namespace Go.Proofs.YtadlacffdemoiaaGreatEv
open Go Go.RowKit
def fu (s:Nat)(del:Nat->Bool)(flat:List Value):Nat->List Value
 |0=>[]
 |j+1=>fu s del flat j++(if del j=true then [] else (flat.drop (j*s)).take s)
def dB (del:Nat->Bool):Nat->Nat
 |0=>0
 |j+1=>dB del j+(if del j=true then 0 else 1)
theorem rM {α:Type}{z:α×Unit->Option Bool}:∀ {xs r:List α},lO z xs=some r->(∀ x∈xs,∃ b,z (x,())=some b)/\r=xs.filter (λx=>!decide (z (x,())=some true))
 |[],r,h=>by
  simp only[lO,BP]at h;subst h;exact⟨by simp,rfl⟩
 |x::xs,r,h=>by
  simp only[lO]at h;obtain⟨b,H,h⟩:=Option.bind_eq_some_iff.1 h;obtain⟨O,I,rfl⟩:=BB.1 h;obtain⟨J,M⟩:=rM I;subst M;refine⟨λy u=>?_,?_⟩
  ·rcases List.mem_cons.1 u with rfl|u
   ·exact⟨b,H⟩
   ·exact J y u
  ·cases b <;> simp[H]
theorem oH {f g:Nat->List Nat}(h:∀ j,(f j).Sublist (g j)):∀ l:List Nat,(l.flatMap f).Sublist (l.flatMap g)
 |[]=>BG _
 |a::l=>by
  rw[BQ,BQ];exact (h a).append (oH h l)
theorem zi {w:World}{G:Nat->Prop}{e:Ty}{xs:List e.den}{flat:List Value}{B:List Nat}(H:Els w G e xs flat B)(p:e.den->Bool)(del:Nat->Bool)(J:∀ (j:Nat) (x:e.den),xs[j]?=some x->del j=p x) :
  ∃ Y,Els w G e (xs.filter λx=>!p x) (fu e.cells del flat xs.length) Y/\Y.Sublist B/\(xs.filter λx=>!p x).length=dB del xs.length:=by
 obtain⟨u,hB,hx⟩:=H.to;have y:∀ j,j<=xs.length->Els w G e ((xs.take j).filter λx=>!p x) (fu e.cells del flat j) ((List.range j).flatMap λi=>if del i=true then [] else u i)/\((xs.take j).filter λx=>!p x).length=dB del j:=by
  intro j;induction j with
  |zero=>intro _;exact⟨⟨rfl,rfl⟩,rfl⟩
  |succ j ih =>
   intro hj;have r:j<xs.length:=by omega
   obtain⟨z,M⟩:=ih (by omega);obtain⟨c,X,h4⟩:=hx j xs[j] (BA r);have R:=J j xs[j] (BA r);have hc:(flat.drop (j*e.cells)).take e.cells=c:=by
    refine BR λi=>?_
    rw[BL];split
    ·rename_i Z;have O:i<c.length:=by rw[X.len];exact Z
     rw[BM,h4 i c[i] (BA O),BA O]
    ·rename_i Z;exact (BI (by rw[X.len];omega)).symm
   rw[List.take_add_one,BA r,List.filter_append,List.range_succ,List.flatMap_append,List.length_append];simp only[fu,dB,List.flatMap_singleton,Option.toList_some,hc];cases I:del j with
   |true =>
    rw[I]at R;simp only[if_true,BC,BU,<- R,Bool.not_true,BN,if_false,BV,BW];exact⟨z,M⟩
   |false =>
    rw[I]at R;simp only[BN,if_false,BU,<- R,Bool.not_false,if_true,BV,List.length_cons,BW,M];exact⟨z.append ⟨c,u j,[],[],by simp,by simp,X,rfl,rfl⟩,trivial⟩
 obtain⟨z,M⟩:=y xs.length (Nat.le_refl _);rw[List.take_length]at z M;refine⟨_,z,?_,M⟩;rw[hB];exact oH (λj=>by split <;> simp) _
structure qO (P:Program) (f idx:FuncId) (E:TypeId) (s:Nat):Prop where
 none_:∀ (w:World) (v0 fv:Value) (n:Nat) (flat:List Value),Row w E s v0 n flat->Calls P idx #[v0,fv] w (λe w'=>e=.returned (.int .i64 (-1))/\Below w.heap.size w w') ->
  Calls P f #[v0,fv] w λe w'=>e=.returned v0/\Below w.heap.size w w'
 some_:∀ (w:World) (g n cap:Nat) (flat:List Value) (fi:FuncId) (caps:Array Value) (del:Nat->Bool) (p0:Nat),Row w E s (.slice (some ⟨g,0,none⟩) n cap) n flat->(∀ u∈flat,u.oneCell'=true)->fO P fi->p0<n->del p0=true->(∀ j,j<p0->del j=false) ->
  (∀ w1:World,w.heap.size<=w1.heap.size->(∀ k,k<w.heap.size->k≠g->w1.heap[k]?=w.heap[k]?)->∀ j,j<n->Calls P fi (#[.agg ((flat.drop (j*s)).take s).toArray]++caps) w1 (λe w2=>e=.returned (.bool (del j))/\Below w1.heap.size w1 w2)) ->
  Calls P idx #[.slice (some ⟨g,0,none⟩) n cap,.func (.func fi) #[] caps] w (λe w'=>e=.returned (.int .i64 p0)/\Below w.heap.size w w') ->
  Calls P f #[.slice (some ⟨g,0,none⟩) n cap,.func (.func fi) #[] caps] w λe w'=>∃ v',e=.returned v'/\Row w' E s v' (dB del n) (fu s del flat n)/\w.grownBy w' (some g)/\v'.ownBlock=some g
def nX {α β:Type}(xs:List α)(r:α×Unit->Option Bool)(o:Option ((Int×Unit)×β)):Prop :=
 ((∀ x∈xs,r (x,())=some false)/\∃ u,o=some ((-1,()),u)) \/
 ∃ p x u,xs[p]?=some x/\r (x,())=some true/\(∀ j y,j<p->xs[j]?=some y->r (y,())=some false)/\o=some ((((p:Nat):Int),()),u)
theorem Ay {A u:Type}(h:A=u)(cv:A->u)(r:∀ x,HEq x (cv x))(xs:List A):HEq xs (xs.map cv):=by
 subst h;have:cv=id:=funext λx=>(eq_of_heq (r x)).symm
 subst this;simp
theorem nC {P:Program}{f idx:FuncId}{E:TypeId}{e e':Ty}{M eg:Bool}{cv:e.den->e'.den}(e6:∀ x,HEq x (cv x))(bl:e.sh=e'.sh)
  {ba:ab [PK.rd (.list false E e'),PK.fn [e'] .bool]->Option (ai [RK.v (.int .i64)]×ah [PK.rd (.list false E e'),PK.fn [e'] .bool])}
  (hE:fO P f) (hd:e.shy=false) (cw:e'.isAgg=true) (dd:bO P ⟨idx,[.rd (.list false E e'),.fn [e'] .bool],[.v (.int .i64)],eg,ba⟩)
  (cx:∀ (xs:List e'.den) (X:Tup [e']->Option Bool),xs.length<=1048576->(∀ x∈xs,∃ b,X (x,())=some b)->nX xs X (ba (xs,X,())))
  (a9:qO P f idx E e.cells) :
  bO P ⟨f,[.own (.list true E e),.fn [e'] .bool],[.v (.list true E e)],M,λx=>gK e x.1 (λy=>x.2.1 (cv y.1,()))⟩:=by
 refine⟨hE,?_⟩;intro w ro x vs b5 y bn cc b2 hy;obtain⟨xs,X,_⟩:=x;obtain⟨v0,fv,b0,g4,rfl,rfl,⟨ej,c3,c2⟩,v1,fz,b1,fx,rfl,rfl,⟨f4,a2⟩,rfl,rfl⟩:=bn;have c3:ej=[v0]:=c3;subst c3 f4;have d2:=c2;rw[bH (by simp)]at c2;obtain⟨u0,e0,H0⟩:=c2;simp only[BH,and_true]at e0;subst e0;obtain⟨I,B0,r0,Y,l0⟩:=qN H0;have a2:ic P w (λk=>k<w.heap.size/\k∉([b0,[]]:List (List Nat)).flatten) [e'] .bool X v1:=a2;have hy:gK e xs (λy=>X (cv y.1,()))=some y:=hy;simp only[BD,BE,BC]at b2 cc a2 ⊢;unfold gK at hy;split at hy
 rotate_left
 ·cases hy
 rename_i cb;obtain⟨ys,c5,rfl⟩:=BB.1 hy;obtain⟨a5,rfl⟩:=rM c5;simp only at a5;have Z:∀ k∈b0,k<w.heap.size:=H0.lt;have hT:e.den=e'.den:=jr bl;have c1:nX (xs.map cv) X (ba (xs.map cv,X,())):=cx _ _ (by rw[BF];exact cb) (λx hx=>by
  obtain⟨x',f0,rfl⟩:=List.mem_map.1 hx;exact a5 x' f0)
 have f5:Rd w (λk=>k<w.heap.size) (.list false E e') (xs.map cv) [v0] :=
  Rd.flags (a:=.list true E e) (by simp only[Ty.sh,bl]) (Ay hT cv e6 xs) (Mx.rd (λk r=>(cc k r).1) Z d2)
 have a1:∀ (i:Int) (u:ah [PK.rd (.list false E e'),PK.fn [e'] .bool]),ba (xs.map cv,X,())=some ((i,()),u)->Calls P idx #[v0,v1] w (λe w'=>e=.returned (.int .i64 i)/\Below w.heap.size w w'):=by
  intro i u hi;have:=dd.2 w (λk=>k<w.heap.size) (xs.map cv,X,()) [v0,v1] [[],[]] _
   ⟨v0,[v1],[],[[]],rfl,rfl,⟨rfl,[v0],rfl,f5⟩,v1,[],[],[],rfl,rfl,⟨rfl,ic.mono (λk r=>⟨r.1,by simp⟩) a2⟩,rfl,rfl⟩
   (λk r=>⟨r,by simp⟩) (by simp) hi
  refine this.mono λe w' hp=>?_
  obtain⟨v,us,N,fr,g5,rfl,a3,f7,f8,f2,es,ef,_,_,d1,_,_⟩:=hp;refine⟨?_,⟨f8,f2,es,f7,λk r=>ef k r (by simp)⟩⟩;obtain⟨u,g1,b,fl,e1,e2,⟨cs,J,hm⟩,e3,e4⟩:=d1;subst e3;subst e1;have a3:v=u:=a3;subst a3;have J:cs=[v]:=J;have hm:cs=[.int .i64 i]:=hm.1;rw[J]at hm;simp only[BH,and_true]at hm;rw[hm]
 have ad:∀ (ys:List e.den) (v':Value) (w':World) (b4:List Value) (B':List Nat),Row w' E e.cells v' ys.length b4->w.grownBy w' v0.ownBlock->v'.ownBlock=v0.ownBlock->Els w (λ_=>False) e ys b4 B'->B'.Sublist B0 ->
   tq ⟨f,[.own (.list true E e),.fn [e'] .bool],[.v (.list true E e)],M,λx=>gK e x.1 (λy=>x.2.1 (cv y.1,()))⟩ w ro [v0,v1] [b0,[]] ((ys,()),()) (.returned v') w':=by
  intro ys v' w' b4 B' r' z a6 L a0;have H:b0.Nodup:=b2;have hB:∀ k∈B',w'.heap[k]?=w.heap[k]?:=λk r=>by
   have cy:k∈B0:=a0.subset r;refine z.block k (Z k (by rw[Y];exact BJ _ cy)) λh=>?_
   rw[Y]at H;exact (BS.1 H).2.2 k (by rw[<- h];simp) k cy rfl
  have L':Els w' (λk=>False\/(M=false/\ro k)) e ys b4 B':=L.carry (λ_ h=>h.elim) (λ_ h=>h.elim) hB;have R:=vg r' L';rw[a6]at R;have O:(v0.ownBlock.toList++B').Sublist b0:=by rw[Y];exact (BG _).append a0
  refine⟨v',[v'],λ_=>False,[[],[]],[v0.ownBlock.toList++B'],rfl,rfl,z.size,z.os,z.tape,z.output,?_,?_,?_,?_,?_,?_⟩
  ·intro k r hn;refine z.block k r (λh=>hn ?_);simp only[BD,BE,BC];rw[Y];exact BK _ (by rw[<- h];simp)
  ·intro k h;exact h.elim
  ·exact⟨rfl,rfl,trivial⟩
  ·refine⟨v',[],_,[],rfl,rfl,⟨[v'],rfl,?_⟩,rfl,rfl⟩;rw[bH (by simp)];exact⟨v',rfl,R⟩
  ·simp only[BD,BE,BC,BX];exact b2.sublist O
  ·intro k r;simp only[BD,BE,BC,BX]at r;refine⟨⟨BO (Z k (O.subset r)) z.size,.inr ?_⟩,λh=>h⟩;simp only[BD,BE,BC];exact O.subset r
 have bx:Els w (λ_=>False) e xs I B0:=l0.deep hd;rcases c1 with ⟨em,u,hi⟩|⟨p,x,u,hx,ex,b9,hi⟩
 ·have c5:xs.filter (λx=>!decide (X (cv x,())=some true))=xs:=by
   rw[List.filter_eq_self];intro a ha;rw[em (cv a) (List.mem_map_of_mem ha)];simp
  refine (a9.none_ w v0 v1 xs.length I r0 (a1 _ _ hi)).mono λen w'=>?_
  rintro⟨rfl,hb⟩;rw[c5];exact ad xs v0 w' I B0 (r0.same (λk r=>hb.block k (r0.lt k r))) ⟨hb.os,hb.tape,hb.output,hb.size,λk r _=>hb.block k r⟩ rfl bx (BG _)
 ·obtain⟨fi,dc,rfl,fd,c4⟩:=a2;have b3:p<xs.length:=by
   have:=(List.getElem?_eq_some_iff.1 hx).1
   rwa [BF]at this
  have f1:=r0;rcases r0.2 with ⟨_,h⟩|⟨g,f3,g6,mk,rfl,hg,fo,g3,g2,ed⟩
  ·exact absurd b3 (by rw[h];omega)
  obtain⟨b5,hB,ev⟩:=bx.to;have H:b0.Nodup:=b2;rw[Y]at H;have fc:∀ k∈B0,k≠g:=λk r h=>(BS.1 H).2.2 g (by simp[BY]) k r h.symm
  have c0:∀ (j:Nat) (x:e.den),xs[j]?=some x->(λj=>match xs[j]? with|some x=>decide (X (cv x,())=some true)|none=>false) j=decide (X (cv x,())=some true):=λj x hj=>by simp only[hj]
  obtain⟨B',L,a0,f6⟩:=zi bx (λx=>decide (X (cv x,())=some true)) _ c0;have bb:∀ j,(xs.map cv)[j]?=(xs[j]?).map cv:=λj=>BT
  refine (a9.some_ w g xs.length f3 I fi dc (λj=>match xs[j]? with|some x=>decide (X (cv x,())=some true)|none=>false) p f1 l0.one fd b3 ?_ ?_ ?_ (a1 _ _ hi)).mono λen w'=>?_
  ·rw[bb,BA b3,Option.map_some,BP]at hx;simp only[BA b3,hx,ex,decide_true]
  ·intro j hj;have d3:j<xs.length:=by omega
   have:=b9 j (cv xs[j]) hj (by rw[bb,BA d3];rfl);simp only[BA d3,this];simp
  ·intro w1 eb ec j hj;have e7:=BA hj;obtain⟨c,h3,h4⟩:=ev j xs[j] e7;have hc:(I.drop (j*e.cells)).take e.cells=c:=by
    refine BR λi=>?_
    rw[BL];split
    ·rename_i hi;have cp:i<c.length:=by rw[h3.len];exact hi
     rw[BM,h4 i c[i] (BA cp),BA cp]
    ·rename_i hi;exact (BI (by rw[h3.len];omega)).symm
   rw[hc];have c6:∀ k∈b5 j,k∈B0:=λk r=>by rw[hB];exact dU.2 ⟨j,hj,r⟩
   have e5:∀ k∈b5 j,k<w.heap.size:=λk r=>Z k (by rw[Y];exact BJ _ (c6 k r))
   have M1:Mx w1 (λ_=>False) e none 0 xs[j] c (b5 j):=h3.carry (λ_ h=>h) (λ_ h=>h.elim) (λk r=>ec k (e5 k r) (fc k (c6 k r)));have R1:Rd w1 (λk=>k<w1.heap.size) e' (cv xs[j]) c:=Rd.flags bl (e6 _) (Mx.rd (λ_ h=>h.elim) (λk r=>BO (e5 k r) eb) M1);obtain⟨b,hb⟩:=a5 xs[j] (List.getElem_mem hj);have:=c4 w1 eb (λk r=>ec k r.1 (λh=>r.2 (by rw[h,Y];exact BK _ (by simp[BY])))) (cv xs[j],()) [.agg c.toArray] b ⟨.agg c.toArray,c,[],rfl,by unfold db;rw[cw];rfl,R1,rfl⟩ hb;refine Calls.mono (h:=this) λe2 w2 hp=>?_
   obtain⟨u,cu,rfl,J,a4,et⟩:=hp;have J:cu=[u]:=J;have a4:cu=[.bool b]:=a4;rw[J]at a4;simp only[BH,and_true]at a4;refine⟨?_,et⟩;rw[a4];simp only[e7,hb];cases b <;> simp
  ·rintro⟨v',rfl,r',z,a6⟩;rw[<- f6]at r';exact ad _ v' w' _ B' r' z a6 L a0
theorem my:∀ a:Ty,a.hd.cells=a.cells
 |.pair a b=>by show a.hd.cells+b.hd.cells=a.cells+b.cells;rw[my a,my b]
 |.list _ _ _=>rfl
 |.int _=>rfl
 |.bool=>rfl
 |.str=>rfl
 |.unit=>rfl
 |.hdr=>rfl
theorem Mx.hd {w w':World}{G G':Nat->Prop}:∀ {a:Ty} {pos:Nat} {x:a.den} {cs:List Value} {bs:List Nat},a.sh=a->Mx w G a none pos x cs bs->Mx w' G' a.hd none pos (hdD a x) cs bs
 |.int _,_,_,_,_,_,h=>h
 |.bool,_,_,_,_,_,h=>h
 |.str,_,_,_,_,_,h=>h
 |.unit,_,_,_,_,_,h=>h
 |.hdr,_,_,_,_,_,h=>h
 |.pair a b,pos,x,_,_,r,⟨O,H,I,z,J,R,u,M⟩=>by
  simp only[Ty.sh,Ty.pair.injEq]at r;exact⟨O,H,I,z,J,R,Mx.hd r.1 u,Mx.hd r.2 (Mx.pos M)⟩
 |.list m E e,_,X,cs,bs,r,h=>by
  simp only[Ty.sh,Ty.list.injEq]at r;obtain⟨rfl,_⟩:=r;rw[cn]at h;obtain⟨A,y,u,_⟩:=h.2;exact⟨⟨A,y,u⟩,h.1⟩
theorem Br {P:Program}{f:FuncId}{E:TypeId}{e:Ty}{H:Nat}{fr:Bool}(he:e.sh=e)
  (hs:bO P ⟨f,[.rd (.list false E e)],[.v (.list true E e)],fr,λx=>fI e H x.1⟩):bO P ⟨f,[.rd (.list false E e)],[.v (.list true E e.hd)],true,λx=>zy e H x.1⟩:=by
 refine⟨hs.1,λw ro x vs a0 y r ad a1 hy=>?_⟩;obtain⟨z,hz,rfl⟩:=BB.1 hy;obtain⟨⟨xs,⟨⟩⟩,⟨⟩⟩:=z;refine (hs.2 w ro x vs a0 _ r ad a1 hz).mono λen w' hp=>?_
 obtain⟨v,us,N,R,a6,h1,Y,b4,b5,a2,b3,a3,hN,J,O,X,I⟩:=hp;obtain⟨u,a4,b,M,e1,e2,⟨cs,a9,hm⟩,e3,e4⟩:=O;refine⟨v,us,N,R,a6,h1,Y,b4,b5,a2,b3,a3,hN,?_,⟨u,a4,b,M,e1,e2,⟨cs,a9,?_⟩,e3,e4⟩,X,I⟩
 ·obtain⟨v1,ba,b1,b9,rfl,rfl,_,rfl,rfl⟩:=r
  match R,J with
  |[b2],J=>exact J
  |[],J=>exact J.elim
  |_::_::_,J=>exact (J.2:False).elim
 ·rw[bH (by simp)]at hm ⊢;obtain⟨v2,h2,Z,b0,h3,h4,h5⟩:=hm;refine⟨v2,h2,Z,b0,?_,?_,λj y hj=>?_⟩
  ·rw[my,BF];exact h3
  ·rw[BF];exact h4
  ·rw[BT]at hj;obtain⟨x',a5,rfl⟩:=BB.1 hj;obtain⟨c,h6,h7⟩:=h5 j x' a5;exact⟨c,h6.hd he,λi u hi=>by rw[my];exact h7 i u hi⟩
end Go.Proofs.YtadlacffdemoiaaGreatEv
