/- slices.DeleteFunc: from what its walk says to its contract; the headers of a copy. -/
import Derived.Test.YtaelpfghkndliaaGreatEvQ
set_option linter.unusedVariables false
set_option linter.unusedSimpArgs false
open Bool renaming false_eq_true->BN
open Go.Value renaming ownBlock->BY
open List renaming getElem?_eq_getElem->BA,append_nil->BC,flatten_cons->BD,flatten_nil->BE,length_map->BF,getElem?_eq_none->BI,mem_append_right->BJ,mem_append_left->BK,getElem?_take->BL,getElem?_drop->BM,flatMap_cons->BQ,ext_getElem?->BR,nodup_append->BS,getElem?_map->BT,filter_cons->BU,filter_nil->BV,length_nil->BW,nil_append->BX
open List.Sublist renaming refl->BG
open List.cons renaming injEq->BH
open Nat renaming lt_of_lt_of_le->BO
open Option renaming map_eq_some_iff->BB
open Option.some renaming injEq->BP
namespace Go.Proofs.YtaelpfghkndliaaGreatEv
open Go Go.RowKit
def fu (s:Nat)(del:Nat->Bool)(flat:List Value):Nat->List Value
 |0=>[]
 |j+1=>fu s del flat j++(if del j=true then [] else (flat.drop (j*s)).take s)
def dB (del:Nat->Bool):Nat->Nat
 |0=>0
 |j+1=>dB del j+(if del j=true then 0 else 1)
theorem rO {α:Type}{u:α×Unit->Option Bool}:∀ {xs r:List α},lN u xs=some r->(∀ x∈xs,∃ b,u (x,())=some b)/\r=xs.filter (λx=>!decide (u (x,())=some true))
 |[],r,h=>by
  simp only[lN,BP]at h;subst h;exact⟨by simp,rfl⟩
 |x::xs,r,h=>by
  simp only[lN]at h;obtain⟨b,H,h⟩:=Option.bind_eq_some_iff.1 h;obtain⟨O,J,rfl⟩:=BB.1 h;obtain⟨I,M⟩:=rO J;subst M;refine⟨λy z=>?_,?_⟩
  ·rcases List.mem_cons.1 z with rfl|z
   ·exact⟨b,H⟩
   ·exact I y z
  ·cases b <;> simp[H]
theorem oF {f g:Nat->List Nat}(h:∀ j,(f j).Sublist (g j)):∀ l:List Nat,(l.flatMap f).Sublist (l.flatMap g)
 |[]=>BG _
 |a::l=>by
  rw[BQ,BQ];exact (h a).append (oF h l)
theorem zd {w:World}{G:Nat->Prop}{e:Ty}{xs:List e.den}{flat:List Value}{B:List Nat}(H:Els w G e xs flat B)(p:e.den->Bool)(del:Nat->Bool)(z:∀ (j:Nat) (x:e.den),xs[j]?=some x->del j=p x) :
  ∃ Z,Els w G e (xs.filter λx=>!p x) (fu e.cells del flat xs.length) Z/\Z.Sublist B/\(xs.filter λx=>!p x).length=dB del xs.length:=by
 obtain⟨u,hB,hx⟩:=H.to;have O:∀ j,j<=xs.length->Els w G e ((xs.take j).filter λx=>!p x) (fu e.cells del flat j) ((List.range j).flatMap λi=>if del i=true then [] else u i)/\((xs.take j).filter λx=>!p x).length=dB del j:=by
  intro j;induction j with
  |zero=>intro _;exact⟨⟨rfl,rfl⟩,rfl⟩
  |succ j ih =>
   intro hj;have r:j<xs.length:=by omega
   obtain⟨M,y⟩:=ih (by omega);obtain⟨c,X,h4⟩:=hx j xs[j] (BA r);have R:=z j xs[j] (BA r);have hc:(flat.drop (j*e.cells)).take e.cells=c:=by
    refine BR λi=>?_
    rw[BL];split
    ·rename_i Y;have J:i<c.length:=by rw[X.len];exact Y
     rw[BM,h4 i c[i] (BA J),BA J]
    ·rename_i Y;exact (BI (by rw[X.len];omega)).symm
   rw[List.take_add_one,BA r,List.filter_append,List.range_succ,List.flatMap_append,List.length_append];simp only[fu,dB,List.flatMap_singleton,Option.toList_some,hc];cases I:del j with
   |true =>
    rw[I]at R;simp only[if_true,BC,BU,<- R,Bool.not_true,BN,if_false,BV,BW];exact⟨M,y⟩
   |false =>
    rw[I]at R;simp only[BN,if_false,BU,<- R,Bool.not_false,if_true,BV,List.length_cons,BW,y];exact⟨M.append ⟨c,u j,[],[],by simp,by simp,X,rfl,rfl⟩,trivial⟩
 obtain⟨M,y⟩:=O xs.length (Nat.le_refl _);rw[List.take_length]at M y;refine⟨_,M,?_,y⟩;rw[hB];exact oF (λj=>by split <;> simp) _
structure qP (P:Program) (f idx:FuncId) (E:TypeId) (s:Nat):Prop where
 none_:∀ (w:World) (v0 fv:Value) (n:Nat) (flat:List Value),Row w E s v0 n flat->Calls P idx #[v0,fv] w (λe w'=>e=.returned (.int .i64 (-1))/\Below w.heap.size w w') ->
  Calls P f #[v0,fv] w λe w'=>e=.returned v0/\Below w.heap.size w w'
 some_:∀ (w:World) (g n cap:Nat) (flat:List Value) (fi:FuncId) (caps:Array Value) (del:Nat->Bool) (p0:Nat),Row w E s (.slice (some ⟨g,0,none⟩) n cap) n flat->(∀ u∈flat,u.oneCell'=true)->fO P fi->p0<n->del p0=true->(∀ j,j<p0->del j=false) ->
  (∀ w1:World,w.heap.size<=w1.heap.size->(∀ k,k<w.heap.size->k≠g->w1.heap[k]?=w.heap[k]?)->∀ j,j<n->Calls P fi (#[.agg ((flat.drop (j*s)).take s).toArray]++caps) w1 (λe w2=>e=.returned (.bool (del j))/\Below w1.heap.size w1 w2)) ->
  Calls P idx #[.slice (some ⟨g,0,none⟩) n cap,.func (.func fi) #[] caps] w (λe w'=>e=.returned (.int .i64 p0)/\Below w.heap.size w w') ->
  Calls P f #[.slice (some ⟨g,0,none⟩) n cap,.func (.func fi) #[] caps] w λe w'=>∃ v',e=.returned v'/\Row w' E s v' (dB del n) (fu s del flat n)/\w.grownBy w' (some g)/\v'.ownBlock=some g
def nV {α β:Type}(xs:List α)(r:α×Unit->Option Bool)(o:Option ((Int×Unit)×β)):Prop :=
 ((∀ x∈xs,r (x,())=some false)/\∃ u,o=some ((-1,()),u)) \/
 ∃ p x u,xs[p]?=some x/\r (x,())=some true/\(∀ j y,j<p->xs[j]?=some y->r (y,())=some false)/\o=some ((((p:Nat):Int),()),u)
theorem Ar {A u:Type}(h:A=u)(cv:A->u)(r:∀ x,HEq x (cv x))(xs:List A):HEq xs (xs.map cv):=by
 subst h;have:cv=id:=funext λx=>(eq_of_heq (r x)).symm
 subst this;simp
theorem nB {P:Program}{f idx:FuncId}{E:TypeId}{e e':Ty}{J ef:Bool}{cv:e.den->e'.den}(d2:∀ x,HEq x (cv x))(bn:e.sh=e'.sh)
  {b5:ab [PK.rd (.list false E e'),PK.fn [e'] .bool]->Option (ai [RK.v (.int .i64)]×ah [PK.rd (.list false E e'),PK.fn [e'] .bool])}
  (hE:fO P f) (hd:e.shy=false) (d1:e'.isAgg=true) (cw:bO P ⟨idx,[.rd (.list false E e'),.fn [e'] .bool],[.v (.int .i64)],ef,b5⟩)
  (cc:∀ (xs:List e'.den) (X:Tup [e']->Option Bool),xs.length<=1048576->(∀ x∈xs,∃ b,X (x,())=some b)->nV xs X (b5 (xs,X,())))
  (a4:qP P f idx E e.cells) :
  bO P ⟨f,[.own (.list true E e),.fn [e'] .bool],[.v (.list true E e)],J,λx=>gH e x.1 (λy=>x.2.1 (cv y.1,()))⟩:=by
 refine⟨hE,?_⟩;intro w ro x vs b3 y c0 e6 b4 hy;obtain⟨xs,X,_⟩:=x;obtain⟨v0,fo,b0,fx,rfl,rfl,⟨f6,c3,c1⟩,v1,fz,b1,g4,rfl,rfl,⟨f8,ad⟩,rfl,rfl⟩:=c0;have c3:f6=[v0]:=c3;subst c3 f8;have cy:=c1;rw[bH (by simp)]at c1;obtain⟨u0,e0,H0⟩:=c1;simp only[BH,and_true]at e0;subst e0;obtain⟨I,B0,r0,Y,l0⟩:=qO H0;have ad:hZ P w (λk=>k<w.heap.size/\k∉([b0,[]]:List (List Nat)).flatten) [e'] .bool X v1:=ad;have hy:gH e xs (λy=>X (cv y.1,()))=some y:=hy;simp only[BD,BE,BC]at b4 e6 ad ⊢;unfold gH at hy;split at hy
 rotate_left
 ·cases hy
 rename_i e7;obtain⟨ys,c4,rfl⟩:=BB.1 hy;obtain⟨a5,rfl⟩:=rO c4;simp only at a5;have Z:∀ k∈b0,k<w.heap.size:=H0.lt;have hT:e.den=e'.den:=jq bn;have bb:nV (xs.map cv) X (b5 (xs.map cv,X,())):=cc _ _ (by rw[BF];exact e7) (λx hx=>by
  obtain⟨x',eg,rfl⟩:=List.mem_map.1 hx;exact a5 x' eg)
 have ex:Rd w (λk=>k<w.heap.size) (.list false E e') (xs.map cv) [v0] :=
  Rd.flags (a:=.list true E e) (by simp only[Ty.sh,bn]) (Ar hT cv d2 xs) (Mx.rd (λk r=>(e6 k r).1) Z cy)
 have a0:∀ (i:Int) (u:ah [PK.rd (.list false E e'),PK.fn [e'] .bool]),b5 (xs.map cv,X,())=some ((i,()),u)->Calls P idx #[v0,v1] w (λe w'=>e=.returned (.int .i64 i)/\Below w.heap.size w w'):=by
  intro i u hi;have:=cw.2 w (λk=>k<w.heap.size) (xs.map cv,X,()) [v0,v1] [[],[]] _
   ⟨v0,[v1],[],[[]],rfl,rfl,⟨rfl,[v0],rfl,ex⟩,v1,[],[],[],rfl,rfl,⟨rfl,hZ.mono (λk r=>⟨r.1,by simp⟩) ad⟩,rfl,rfl⟩
   (λk r=>⟨r,by simp⟩) (by simp) hi
  refine this.mono λe w' hp=>?_
  obtain⟨v,us,N,g3,fl,rfl,a6,f0,fc,ev,f3,f1,_,_,d3,_,_⟩:=hp;refine⟨?_,⟨fc,ev,f3,f0,λk r=>f1 k r (by simp)⟩⟩;obtain⟨u,fr,b,fd,e1,e2,⟨cs,O,hm⟩,e3,e4⟩:=d3;subst e3;subst e1;have a6:v=u:=a6;subst a6;have O:cs=[v]:=O;have hm:cs=[.int .i64 i]:=hm.1;rw[O]at hm;simp only[BH,and_true]at hm;rw[hm]
 have a2:∀ (ys:List e.den) (v':Value) (w':World) (b2:List Value) (B':List Nat),Row w' E e.cells v' ys.length b2->w.grownBy w' v0.ownBlock->v'.ownBlock=v0.ownBlock->Els w (λ_=>False) e ys b2 B'->B'.Sublist B0 ->
   tr ⟨f,[.own (.list true E e),.fn [e'] .bool],[.v (.list true E e)],J,λx=>gH e x.1 (λy=>x.2.1 (cv y.1,()))⟩ w ro [v0,v1] [b0,[]] ((ys,()),()) (.returned v') w':=by
  intro ys v' w' b2 B' r' z a3 L a1;have H:b0.Nodup:=b4;have hB:∀ k∈B',w'.heap[k]?=w.heap[k]?:=λk r=>by
   have cp:k∈B0:=a1.subset r;refine z.block k (Z k (by rw[Y];exact BJ _ cp)) λh=>?_
   rw[Y]at H;exact (BS.1 H).2.2 k (by rw[<- h];simp) k cp rfl
  have L':Els w' (λk=>False\/(J=false/\ro k)) e ys b2 B':=L.carry (λ_ h=>h.elim) (λ_ h=>h.elim) hB;have R:=vi r' L';rw[a3]at R;have M:(v0.ownBlock.toList++B').Sublist b0:=by rw[Y];exact (BG _).append a1
  refine⟨v',[v'],λ_=>False,[[],[]],[v0.ownBlock.toList++B'],rfl,rfl,z.size,z.os,z.tape,z.output,?_,?_,?_,?_,?_,?_⟩
  ·intro k r hn;refine z.block k r (λh=>hn ?_);simp only[BD,BE,BC];rw[Y];exact BK _ (by rw[<- h];simp)
  ·intro k h;exact h.elim
  ·exact⟨rfl,rfl,trivial⟩
  ·refine⟨v',[],_,[],rfl,rfl,⟨[v'],rfl,?_⟩,rfl,rfl⟩;rw[bH (by simp)];exact⟨v',rfl,R⟩
  ·simp only[BD,BE,BC,BX];exact b4.sublist M
  ·intro k r;simp only[BD,BE,BC,BX]at r;refine⟨⟨BO (Z k (M.subset r)) z.size,.inr ?_⟩,λh=>h⟩;simp only[BD,BE,BC];exact M.subset r
 have c2:Els w (λ_=>False) e xs I B0:=l0.deep hd;rcases bb with ⟨ec,u,hi⟩|⟨p,x,u,hx,f7,b9,hi⟩
 ·have c4:xs.filter (λx=>!decide (X (cv x,())=some true))=xs:=by
   rw[List.filter_eq_self];intro a ha;rw[ec (cv a) (List.mem_map_of_mem ha)];simp
  refine (a4.none_ w v0 v1 xs.length I r0 (a0 _ _ hi)).mono λen w'=>?_
  rintro⟨rfl,hb⟩;rw[c4];exact a2 xs v0 w' I B0 (r0.same (λk r=>hb.block k (r0.lt k r))) ⟨hb.os,hb.tape,hb.output,hb.size,λk r _=>hb.block k r⟩ rfl c2 (BG _)
 ·obtain⟨fi,eb,rfl,em,bl⟩:=ad;have b6:p<xs.length:=by
   have:=(List.getElem?_eq_some_iff.1 hx).1
   rwa [BF]at this
  have es:=r0;rcases r0.2 with ⟨_,h⟩|⟨g,f5,g1,mk,rfl,hg,g2,fv,g5,ed⟩
  ·exact absurd b6 (by rw[h];omega)
  obtain⟨b3,hB,f2⟩:=c2.to;have H:b0.Nodup:=b4;rw[Y]at H;have ej:∀ k∈B0,k≠g:=λk r h=>(BS.1 H).2.2 g (by simp[BY]) k r h.symm
  have bx:∀ (j:Nat) (x:e.den),xs[j]?=some x->(λj=>match xs[j]? with|some x=>decide (X (cv x,())=some true)|none=>false) j=decide (X (cv x,())=some true):=λj x hj=>by simp only[hj]
  obtain⟨B',L,a1,f4⟩:=zd c2 (λx=>decide (X (cv x,())=some true)) _ bx;have ba:∀ j,(xs.map cv)[j]?=(xs[j]?).map cv:=λj=>BT
  refine (a4.some_ w g xs.length f5 I fi eb (λj=>match xs[j]? with|some x=>decide (X (cv x,())=some true)|none=>false) p es l0.one em b6 ?_ ?_ ?_ (a0 _ _ hi)).mono λen w'=>?_
  ·rw[ba,BA b6,Option.map_some,BP]at hx;simp only[BA b6,hx,f7,decide_true]
  ·intro j hj;have c6:j<xs.length:=by omega
   have:=b9 j (cv xs[j]) hj (by rw[ba,BA c6];rfl);simp only[BA c6,this];simp
  ·intro w1 dd e5 j hj;have cx:=BA hj;obtain⟨c,h3,h4⟩:=f2 j xs[j] cx;have hc:(I.drop (j*e.cells)).take e.cells=c:=by
    refine BR λi=>?_
    rw[BL];split
    ·rename_i hi;have dc:i<c.length:=by rw[h3.len];exact hi
     rw[BM,h4 i c[i] (BA dc),BA dc]
    ·rename_i hi;exact (BI (by rw[h3.len];omega)).symm
   rw[hc];have cb:∀ k∈b3 j,k∈B0:=λk r=>by rw[hB];exact dV.2 ⟨j,hj,r⟩
   have c5:∀ k∈b3 j,k<w.heap.size:=λk r=>Z k (by rw[Y];exact BJ _ (cb k r))
   have M1:Mx w1 (λ_=>False) e none 0 xs[j] c (b3 j):=h3.carry (λ_ h=>h) (λ_ h=>h.elim) (λk r=>e5 k (c5 k r) (ej k (cb k r)));have R1:Rd w1 (λk=>k<w1.heap.size) e' (cv xs[j]) c:=Rd.flags bn (d2 _) (Mx.rd (λ_ h=>h.elim) (λk r=>BO (c5 k r) dd) M1);obtain⟨b,hb⟩:=a5 xs[j] (List.getElem_mem hj);have:=bl w1 dd (λk r=>e5 k r.1 (λh=>r.2 (by rw[h,Y];exact BK _ (by simp[BY])))) (cv xs[j],()) [.agg c.toArray] b ⟨.agg c.toArray,c,[],rfl,by unfold c9;rw[d1];rfl,R1,rfl⟩ hb;refine Calls.mono (h:=this) λe2 w2 hp=>?_
   obtain⟨u,cu,rfl,O,a9,et⟩:=hp;have O:cu=[u]:=O;have a9:cu=[.bool b]:=a9;rw[O]at a9;simp only[BH,and_true]at a9;refine⟨?_,et⟩;rw[a9];simp only[cx,hb];cases b <;> simp
  ·rintro⟨v',rfl,r',z,a3⟩;rw[<- f4]at r';exact a2 _ v' w' _ B' r' z a3 L a1
theorem my:∀ a:Ty,a.hd.cells=a.cells
 |.pair a b=>by show a.hd.cells+b.hd.cells=a.cells+b.cells;rw[my a,my b]
 |.list _ _ _=>rfl
 |.int _=>rfl
 |.bool=>rfl
 |.str=>rfl
 |.unit=>rfl
 |.hdr=>rfl
theorem Mx.hd {w w':World}{G G':Nat->Prop}:∀ {a:Ty} {pos:Nat} {x:a.den} {cs:List Value} {bs:List Nat},a.sh=a->Mx w G a none pos x cs bs->Mx w' G' a.hd none pos (hdD a x) cs bs
 |.int _,_,_,_,_,_,h=>h
 |.bool,_,_,_,_,_,h=>h
 |.str,_,_,_,_,_,h=>h
 |.unit,_,_,_,_,_,h=>h
 |.hdr,_,_,_,_,_,h=>h
 |.pair a b,pos,x,_,_,r,⟨z,O,M,R,H,J,u,I⟩=>by
  simp only[Ty.sh,Ty.pair.injEq]at r;exact⟨z,O,M,R,H,J,Mx.hd r.1 u,Mx.hd r.2 (Mx.pos I)⟩
 |.list m E e,_,X,cs,bs,r,h=>by
  simp only[Ty.sh,Ty.list.injEq]at r;obtain⟨rfl,_⟩:=r;rw[co]at h;obtain⟨A,y,u,_⟩:=h.2;exact⟨⟨A,y,u⟩,h.1⟩
theorem Bl {P:Program}{f:FuncId}{E:TypeId}{e:Ty}{H:Nat}{fr:Bool}(he:e.sh=e)
  (hs:bO P ⟨f,[.rd (.list false E e)],[.v (.list true E e)],fr,λx=>fI e H x.1⟩):bO P ⟨f,[.rd (.list false E e)],[.v (.list true E e.hd)],true,λx=>zt e H x.1⟩:=by
 refine⟨hs.1,λw ro x vs a2 y r b3 a4 hy=>?_⟩;obtain⟨z,hz,rfl⟩:=BB.1 hy;obtain⟨⟨xs,⟨⟩⟩,⟨⟩⟩:=z;refine (hs.2 w ro x vs a2 _ r b3 a4 hz).mono λen w' hp=>?_
 obtain⟨v,us,N,M,a0,h1,Y,a5,b5,a9,b4,ad,hN,J,R,O,I⟩:=hp;obtain⟨u,a6,b,Z,e1,e2,⟨cs,a3,hm⟩,e3,e4⟩:=R;refine⟨v,us,N,M,a0,h1,Y,a5,b5,a9,b4,ad,hN,?_,⟨u,a6,b,Z,e1,e2,⟨cs,a3,?_⟩,e3,e4⟩,O,I⟩
 ·obtain⟨v1,b9,b1,b6,rfl,rfl,_,rfl,rfl⟩:=r
  match M,J with
  |[b2],J=>exact J
  |[],J=>exact J.elim
  |_::_::_,J=>exact (J.2:False).elim
 ·rw[bH (by simp)]at hm ⊢;obtain⟨v2,h2,X,a1,h3,h4,h5⟩:=hm;refine⟨v2,h2,X,a1,?_,?_,λj y hj=>?_⟩
  ·rw[my,BF];exact h3
  ·rw[BF];exact h4
  ·rw[BT]at hj;obtain⟨x',b0,rfl⟩:=BB.1 hj;obtain⟨c,h6,h7⟩:=h5 j x' b0;exact⟨c,h6.hd he,λi u hi=>by rw[my];exact h7 i u hi⟩
end Go.Proofs.YtaelpfghkndliaaGreatEv
