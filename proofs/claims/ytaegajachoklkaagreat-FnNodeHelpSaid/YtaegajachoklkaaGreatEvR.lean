/- slices.DeleteFunc: from what its walk says to its contract; the headers of a copy. -/
import Derived.Test.YtaegajachoklkaaGreatEvQ
set_option linter.unusedVariables false
set_option linter.unusedSimpArgs false
open Bool renaming false_eq_true->BT
open Go.Value renaming ownBlock->B7
open List renaming getElem?_eq_getElem->BG,append_nil->BI,flatten_cons->BJ,flatten_nil->BK,length_map->BL,getElem?_eq_none->BO,mem_append_right->BP,mem_append_left->BQ,getElem?_take->BR,getElem?_drop->BS,flatMap_cons->BW,ext_getElem?->BX,nodup_append->BY,getElem?_map->BZ,filter_cons->B3,filter_nil->B4,length_nil->B5,nil_append->B6
open List.Sublist renaming refl->BM
open List.cons renaming injEq->BN
open Nat renaming lt_of_lt_of_le->BU
open Option renaming map_eq_some_iff->BH
open Option.some renaming injEq->BV
namespace Go.Proofs.YtaegajachoklkaaGreatEv
open Go Go.RowKit
def fG (s:Nat)(del:Nat->Bool)(flat:List Value):Nat->List Value
 |0=>[]
 |j+1=>fG s del flat j++(if del j=true then [] else (flat.drop (j*s)).take s)
def dy (del:Nat->Bool):Nat->Nat
 |0=>0
 |j+1=>dy del j+(if del j=true then 0 else 1)
theorem rV {α:Type}{z:α×Unit->Option Bool}:∀ {xs r:List α},l7 z xs=some r->(∀ x∈xs,∃ b,z (x,())=some b)/\r=xs.filter (λx=>!decide (z (x,())=some true))
 |[],r,h=>by
  simp only[l7,BV]at h;subst h;exact⟨by simp,rfl⟩
 |x::xs,r,h=>by
  simp only[l7]at h;obtain⟨b,H,h⟩:=Option.bind_eq_some_iff.1 h;obtain⟨O,J,rfl⟩:=BH.1 h;obtain⟨M,I⟩:=rV J;subst I;refine⟨λy u=>?_,?_⟩
  ·rcases List.mem_cons.1 u with rfl|u
   ·exact⟨b,H⟩
   ·exact M y u
  ·cases b <;> simp[H]
theorem oK {f g:Nat->List Nat}(h:∀ j,(f j).Sublist (g j)):∀ l:List Nat,(l.flatMap f).Sublist (l.flatMap g)
 |[]=>BM _
 |a::l=>by
  rw[BW,BW];exact (h a).append (oK h l)
theorem zE {w:World}{G:Nat->Prop}{e:Ty}{xs:List e.den}{flat:List Value}{B:List Nat}(H:Els w G e xs flat B)(p:e.den->Bool)(del:Nat->Bool)(u:∀ (j:Nat) (x:e.den),xs[j]?=some x->del j=p x) :
  ∃ Y,Els w G e (xs.filter λx=>!p x) (fG e.cells del flat xs.length) Y/\Y.Sublist B/\(xs.filter λx=>!p x).length=dy del xs.length:=by
 obtain⟨O,hB,hx⟩:=H.to;have I:∀ j,j<=xs.length->Els w G e ((xs.take j).filter λx=>!p x) (fG e.cells del flat j) ((List.range j).flatMap λi=>if del i=true then [] else O i)/\((xs.take j).filter λx=>!p x).length=dy del j:=by
  intro j;induction j with
  |zero=>intro _;exact⟨⟨rfl,rfl⟩,rfl⟩
  |succ j ih =>
   intro hj;have r:j<xs.length:=by omega
   obtain⟨M,z⟩:=ih (by omega);obtain⟨c,X,h4⟩:=hx j xs[j] (BG r);have R:=u j xs[j] (BG r);have hc:(flat.drop (j*e.cells)).take e.cells=c:=by
    refine BX λi=>?_
    rw[BR];split
    ·rename_i Z;have y:i<c.length:=by rw[X.len];exact Z
     rw[BS,h4 i c[i] (BG y),BG y]
    ·rename_i Z;exact (BO (by rw[X.len];omega)).symm
   rw[List.take_add_one,BG r,List.filter_append,List.range_succ,List.flatMap_append,List.length_append];simp only[fG,dy,List.flatMap_singleton,Option.toList_some,hc];cases J:del j with
   |true =>
    rw[J]at R;simp only[if_true,BI,B3,<- R,Bool.not_true,BT,if_false,B4,B5];exact⟨M,z⟩
   |false =>
    rw[J]at R;simp only[BT,if_false,B3,<- R,Bool.not_false,if_true,B4,List.length_cons,B5,z];exact⟨M.append ⟨c,O j,[],[],by simp,by simp,X,rfl,rfl⟩,trivial⟩
 obtain⟨M,z⟩:=I xs.length (Nat.le_refl _);rw[List.take_length]at M z;refine⟨_,M,?_,z⟩;rw[hB];exact oK (λj=>by split <;> simp) _
structure qY (P:Program) (f idx:FuncId) (E:TypeId) (s:Nat):Prop where
 none_:∀ (w:World) (v0 fv:Value) (n:Nat) (flat:List Value),Row w E s v0 n flat->Calls P idx #[v0,fv] w (λe w'=>e=.returned (.int .i64 (-1))/\Below w.heap.size w w') ->
  Calls P f #[v0,fv] w λe w'=>e=.returned v0/\Below w.heap.size w w'
 some_:∀ (w:World) (g n cap:Nat) (flat:List Value) (fi:FuncId) (caps:Array Value) (del:Nat->Bool) (p0:Nat),Row w E s (.slice (some ⟨g,0,none⟩) n cap) n flat->(∀ u∈flat,u.oneCell'=true)->fU P fi->p0<n->del p0=true->(∀ j,j<p0->del j=false) ->
  (∀ w1:World,w.heap.size<=w1.heap.size->(∀ k,k<w.heap.size->k≠g->w1.heap[k]?=w.heap[k]?)->∀ j,j<n->Calls P fi (#[.agg ((flat.drop (j*s)).take s).toArray]++caps) w1 (λe w2=>e=.returned (.bool (del j))/\Below w1.heap.size w1 w2)) ->
  Calls P idx #[.slice (some ⟨g,0,none⟩) n cap,.func (.func fi) #[] caps] w (λe w'=>e=.returned (.int .i64 p0)/\Below w.heap.size w w') ->
  Calls P f #[.slice (some ⟨g,0,none⟩) n cap,.func (.func fi) #[] caps] w λe w'=>∃ v',e=.returned v'/\Row w' E s v' (dy del n) (fG s del flat n)/\w.grownBy w' (some g)/\v'.ownBlock=some g
def n9 {α β:Type}(xs:List α)(r:α×Unit->Option Bool)(o:Option ((Int×Unit)×β)):Prop :=
 ((∀ x∈xs,r (x,())=some false)/\∃ u,o=some ((-1,()),u)) \/
 ∃ p x u,xs[p]?=some x/\r (x,())=some true/\(∀ j y,j<p->xs[j]?=some y->r (y,())=some false)/\o=some ((((p:Nat):Int),()),u)
theorem AR {A u:Type}(h:A=u)(cv:A->u)(r:∀ x,HEq x (cv x))(xs:List A):HEq xs (xs.map cv):=by
 subst h;have:cv=id:=funext λx=>(eq_of_heq (r x)).symm
 subst this;simp
theorem nJ {P:Program}{f idx:FuncId}{E:TypeId}{e e':Ty}{X et:Bool}{cv:e.den->e'.den}(dc:∀ x,HEq x (cv x))(cb:e.sh=e'.sh)
  {ba:ab [PK.rd (.list false E e'),PK.fn [e'] .bool]->Option (ai [RK.v (.int .i64)]×ah [PK.rd (.list false E e'),PK.fn [e'] .bool])}
  (hE:fU P f) (hd:e.shy=false) (ec:e'.isAgg=true) (eb:bO P ⟨idx,[.rd (.list false E e'),.fn [e'] .bool],[.v (.int .i64)],et,ba⟩)
  (dd:∀ (xs:List e'.den) (Y:Tup [e']->Option Bool),xs.length<=1048576->(∀ x∈xs,∃ b,Y (x,())=some b)->n9 xs Y (ba (xs,Y,())))
  (a3:qY P f idx E e.cells) :
  bO P ⟨f,[.own (.list true E e),.fn [e'] .bool],[.v (.list true E e)],X,λx=>gI e x.1 (λy=>x.2.1 (cv y.1,()))⟩:=by
 refine⟨hE,?_⟩;intro w ro x vs b2 y c4 ef b5 hy;obtain⟨xs,Y,_⟩:=x;obtain⟨v0,fr,b0,g3,rfl,rfl,⟨f8,bx,c3⟩,v1,g6,b1,g1,rfl,rfl,⟨eg,ad⟩,rfl,rfl⟩:=c4;have bx:f8=[v0]:=bx;subst bx eg;have cx:=c3;rw[bI (by simp)]at c3;obtain⟨u0,e0,H0⟩:=c3;simp only[BN,and_true]at e0;subst e0;obtain⟨H,B0,r0,J,l0⟩:=qX H0;have ad:ij P w (λk=>k<w.heap.size/\k∉([b0,[]]:List (List Nat)).flatten) [e'] .bool Y v1:=ad;have hy:gI e xs (λy=>Y (cv y.1,()))=some y:=hy;simp only[BJ,BK,BI]at b5 ef ad ⊢;unfold gI at hy;split at hy
 rotate_left
 ·cases hy
 rename_i d2;obtain⟨ys,c2,rfl⟩:=BH.1 hy;obtain⟨a6,rfl⟩:=rV c2;simp only at a6;have Z:∀ k∈b0,k<w.heap.size:=H0.lt;have hT:e.den=e'.den:=jE cb;have bl:n9 (xs.map cv) Y (ba (xs.map cv,Y,())):=dd _ _ (by rw[BL];exact d2) (λx hx=>by
  obtain⟨x',em,rfl⟩:=List.mem_map.1 hx;exact a6 x' em)
 have f4:Rd w (λk=>k<w.heap.size) (.list false E e') (xs.map cv) [v0] :=
  Rd.flags (a:=.list true E e) (by simp only[Ty.sh,cb]) (AR hT cv dc xs) (Mx.rd (λk r=>(ef k r).1) Z cx)
 have a1:∀ (i:Int) (u:ah [PK.rd (.list false E e'),PK.fn [e'] .bool]),ba (xs.map cv,Y,())=some ((i,()),u)->Calls P idx #[v0,v1] w (λe w'=>e=.returned (.int .i64 i)/\Below w.heap.size w w'):=by
  intro i u hi;have:=eb.2 w (λk=>k<w.heap.size) (xs.map cv,Y,()) [v0,v1] [[],[]] _
   ⟨v0,[v1],[],[[]],rfl,rfl,⟨rfl,[v0],rfl,f4⟩,v1,[],[],[],rfl,rfl,⟨rfl,ij.mono (λk r=>⟨r.1,by simp⟩) ad⟩,rfl,rfl⟩
   (λk r=>⟨r,by simp⟩) (by simp) hi
  refine this.mono λe w' hp=>?_
  obtain⟨v,us,N,g4,fx,rfl,a2,fc,f3,ev,f2,ej,_,_,cc,_,_⟩:=hp;refine⟨?_,⟨f3,ev,f2,fc,λk r=>ej k r (by simp)⟩⟩;obtain⟨u,fv,b,fo,e1,e2,⟨cs,O,hm⟩,e3,e4⟩:=cc;subst e3;subst e1;have a2:v=u:=a2;subst a2;have O:cs=[v]:=O;have hm:cs=[.int .i64 i]:=hm.1;rw[O]at hm;simp only[BN,and_true]at hm;rw[hm]
 have a5:∀ (ys:List e.den) (v':Value) (w':World) (b9:List Value) (B':List Nat),Row w' E e.cells v' ys.length b9->w.grownBy w' v0.ownBlock->v'.ownBlock=v0.ownBlock->Els w (λ_=>False) e ys b9 B'->B'.Sublist B0 ->
   tD ⟨f,[.own (.list true E e),.fn [e'] .bool],[.v (.list true E e)],X,λx=>gI e x.1 (λy=>x.2.1 (cv y.1,()))⟩ w ro [v0,v1] [b0,[]] ((ys,()),()) (.returned v') w':=by
  intro ys v' w' b9 B' r' z a4 L a0;have I:b0.Nodup:=b5;have hB:∀ k∈B',w'.heap[k]?=w.heap[k]?:=λk r=>by
   have e5:k∈B0:=a0.subset r;refine z.block k (Z k (by rw[J];exact BP _ e5)) λh=>?_
   rw[J]at I;exact (BY.1 I).2.2 k (by rw[<- h];simp) k e5 rfl
  have L':Els w' (λk=>False\/(X=false/\ro k)) e ys b9 B':=L.carry (λ_ h=>h.elim) (λ_ h=>h.elim) hB;have R:=vz r' L';rw[a4]at R;have M:(v0.ownBlock.toList++B').Sublist b0:=by rw[J];exact (BM _).append a0
  refine⟨v',[v'],λ_=>False,[[],[]],[v0.ownBlock.toList++B'],rfl,rfl,z.size,z.os,z.tape,z.output,?_,?_,?_,?_,?_,?_⟩
  ·intro k r hn;refine z.block k r (λh=>hn ?_);simp only[BJ,BK,BI];rw[J];exact BQ _ (by rw[<- h];simp)
  ·intro k h;exact h.elim
  ·exact⟨rfl,rfl,trivial⟩
  ·refine⟨v',[],_,[],rfl,rfl,⟨[v'],rfl,?_⟩,rfl,rfl⟩;rw[bI (by simp)];exact⟨v',rfl,R⟩
  ·simp only[BJ,BK,BI,B6];exact b5.sublist M
  ·intro k r;simp only[BJ,BK,BI,B6]at r;refine⟨⟨BU (Z k (M.subset r)) z.size,.inr ?_⟩,λh=>h⟩;simp only[BJ,BK,BI];exact M.subset r
 have c0:Els w (λ_=>False) e xs H B0:=l0.deep hd;rcases bl with ⟨f0,u,hi⟩|⟨p,x,u,hx,fd,b3,hi⟩
 ·have c2:xs.filter (λx=>!decide (Y (cv x,())=some true))=xs:=by
   rw[List.filter_eq_self];intro a ha;rw[f0 (cv a) (List.mem_map_of_mem ha)];simp
  refine (a3.none_ w v0 v1 xs.length H r0 (a1 _ _ hi)).mono λen w'=>?_
  rintro⟨rfl,hb⟩;rw[c2];exact a5 xs v0 w' H B0 (r0.same (λk r=>hb.block k (r0.lt k r))) ⟨hb.os,hb.tape,hb.output,hb.size,λk r _=>hb.block k r⟩ rfl c0 (BM _)
 ·obtain⟨fi,cy,rfl,f1,bn⟩:=ad;have b4:p<xs.length:=by
   have:=(List.getElem?_eq_some_iff.1 hx).1
   rwa [BL]at this
  have ex:=r0;rcases r0.2 with ⟨_,h⟩|⟨g,es,g5,mk,rfl,hg,g7,fz,g2,f7⟩
  ·exact absurd b4 (by rw[h];omega)
  obtain⟨b2,hB,f6⟩:=c0.to;have I:b0.Nodup:=b5;rw[J]at I;have ey:∀ k∈B0,k≠g:=λk r h=>(BY.1 I).2.2 g (by simp[B7]) k r h.symm
  have c1:∀ (j:Nat) (x:e.den),xs[j]?=some x->(λj=>match xs[j]? with|some x=>decide (Y (cv x,())=some true)|none=>false) j=decide (Y (cv x,())=some true):=λj x hj=>by simp only[hj]
  obtain⟨B',L,a0,fl⟩:=zE c0 (λx=>decide (Y (cv x,())=some true)) _ c1;have bb:∀ j,(xs.map cv)[j]?=(xs[j]?).map cv:=λj=>BZ
  refine (a3.some_ w g xs.length es H fi cy (λj=>match xs[j]? with|some x=>decide (Y (cv x,())=some true)|none=>false) p ex l0.one f1 b4 ?_ ?_ ?_ (a1 _ _ hi)).mono λen w'=>?_
  ·rw[bb,BG b4,Option.map_some,BV]at hx;simp only[BG b4,hx,fd,decide_true]
  ·intro j hj;have e6:j<xs.length:=by omega
   have:=b3 j (cv xs[j]) hj (by rw[bb,BG e6];rfl);simp only[BG e6,this];simp
  ·intro w1 ed d1 j hj;have cp:=BG hj;obtain⟨c,h3,h4⟩:=f6 j xs[j] cp;have hc:(H.drop (j*e.cells)).take e.cells=c:=by
    refine BX λi=>?_
    rw[BR];split
    ·rename_i hi;have cw:i<c.length:=by rw[h3.len];exact hi
     rw[BS,h4 i c[i] (BG cw),BG cw]
    ·rename_i hi;exact (BO (by rw[h3.len];omega)).symm
   rw[hc];have d3:∀ k∈b2 j,k∈B0:=λk r=>by rw[hB];exact dV.2 ⟨j,hj,r⟩
   have e7:∀ k∈b2 j,k<w.heap.size:=λk r=>Z k (by rw[J];exact BP _ (d3 k r))
   have M1:Mx w1 (λ_=>False) e none 0 xs[j] c (b2 j):=h3.carry (λ_ h=>h) (λ_ h=>h.elim) (λk r=>d1 k (e7 k r) (ey k (d3 k r)));have R1:Rd w1 (λk=>k<w1.heap.size) e' (cv xs[j]) c:=Rd.flags cb (dc _) (Mx.rd (λ_ h=>h.elim) (λk r=>BU (e7 k r) ed) M1);obtain⟨b,hb⟩:=a6 xs[j] (List.getElem_mem hj);have:=bn w1 ed (λk r=>d1 k r.1 (λh=>r.2 (by rw[h,J];exact BQ _ (by simp[B7])))) (cv xs[j],()) [.agg c.toArray] b ⟨.agg c.toArray,c,[],rfl,by unfold da;rw[ec];rfl,R1,rfl⟩ hb;refine Calls.mono (h:=this) λe2 w2 hp=>?_
   obtain⟨u,cu,rfl,O,a9,f5⟩:=hp;have O:cu=[u]:=O;have a9:cu=[.bool b]:=a9;rw[O]at a9;simp only[BN,and_true]at a9;refine⟨?_,f5⟩;rw[a9];simp only[cp,hb];cases b <;> simp
  ·rintro⟨v',rfl,r',z,a4⟩;rw[<- fl]at r';exact a5 _ v' w' _ B' r' z a4 L a0
theorem mG:∀ a:Ty,a.hd.cells=a.cells
 |.pair a b=>by show a.hd.cells+b.hd.cells=a.cells+b.cells;rw[mG a,mG b]
 |.list _ _ _=>rfl
 |.int _=>rfl
 |.bool=>rfl
 |.str=>rfl
 |.unit=>rfl
 |.hdr=>rfl
theorem Mx.hd {w w':World}{G G':Nat->Prop}:∀ {a:Ty} {pos:Nat} {x:a.den} {cs:List Value} {bs:List Nat},a.sh=a->Mx w G a none pos x cs bs->Mx w' G' a.hd none pos (hdD a x) cs bs
 |.int _,_,_,_,_,_,h=>h
 |.bool,_,_,_,_,_,h=>h
 |.str,_,_,_,_,_,h=>h
 |.unit,_,_,_,_,_,h=>h
 |.hdr,_,_,_,_,_,h=>h
 |.pair a b,pos,x,_,_,r,⟨H,M,J,z,R,O,y,I⟩=>by
  simp only[Ty.sh,Ty.pair.injEq]at r;exact⟨H,M,J,z,R,O,Mx.hd r.1 y,Mx.hd r.2 (Mx.pos I)⟩
 |.list m E e,_,X,cs,bs,r,h=>by
  simp only[Ty.sh,Ty.list.injEq]at r;obtain⟨rfl,_⟩:=r;rw[cn]at h;obtain⟨A,u,y,_⟩:=h.2;exact⟨⟨A,u,y⟩,h.1⟩
theorem uc {P:Program}{f:FuncId}{E:TypeId}{e:Ty}{r:Nat}{fr:Bool}(he:e.sh=e)
  (hs:bO P ⟨f,[.rd (.list false E e)],[.v (.list true E e)],fr,λx=>e9 e r x.1⟩):bO P ⟨f,[.rd (.list false E e)],[.v (.list true E e.hd)],true,λx=>qr e r x.1⟩:=by
 refine⟨hs.1,λw ro x vs b5 y H b0 a3 hy=>?_⟩;obtain⟨z,hz,rfl⟩:=BH.1 hy;obtain⟨⟨xs,⟨⟩⟩,⟨⟩⟩:=z;refine (hs.2 w ro x vs b5 _ H b0 a3 hz).mono λen w' hp=>?_
 obtain⟨v,us,N,R,a2,h1,M,a6,a0,a1,b3,a4,hN,J,X,Z,I⟩:=hp;obtain⟨u,a5,b,Y,e1,e2,⟨cs,b4,hm⟩,e3,e4⟩:=X;refine⟨v,us,N,R,a2,h1,M,a6,a0,a1,b3,a4,hN,?_,⟨u,a5,b,Y,e1,e2,⟨cs,b4,?_⟩,e3,e4⟩,Z,I⟩
 ·obtain⟨v1,ba,b1,b9,rfl,rfl,_,rfl,rfl⟩:=H
  match R,J with
  |[b2],J=>exact J
  |[],J=>exact J.elim
  |_::_::_,J=>exact (J.2:False).elim
 ·rw[bI (by simp)]at hm ⊢;obtain⟨v2,h2,O,ad,h3,h4,h5⟩:=hm;refine⟨v2,h2,O,ad,?_,?_,λj y hj=>?_⟩
  ·rw[mG,BL];exact h3
  ·rw[BL];exact h4
  ·rw[BZ]at hj;obtain⟨x',a9,rfl⟩:=BH.1 hj;obtain⟨c,h6,h7⟩:=h5 j x' a9;exact⟨c,h6.hd he,λi u hi=>by rw[mG];exact h7 i u hi⟩
end Go.Proofs.YtaegajachoklkaaGreatEv
