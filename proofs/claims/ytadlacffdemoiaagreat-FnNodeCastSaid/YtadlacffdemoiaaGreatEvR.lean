/- slices.DeleteFunc: from what its walk says to its contract; the headers of a copy. -/
import Derived.Test.YtadlacffdemoiaaGreatEvQ
set_option linter.unusedVariables false
set_option linter.unusedSimpArgs false
open Bool renaming false_eq_true->BN
open Go.Value renaming ownBlock->BY
open List renaming getElem?_eq_getElem->BA,append_nil->BC,flatten_cons->BD,flatten_nil->BE,length_map->BF,getElem?_eq_none->BI,mem_append_right->BJ,mem_append_left->BK,getElem?_take->BL,getElem?_drop->BM,flatMap_cons->BQ,ext_getElem?->BR,nodup_append->BS,getElem?_map->BT,filter_cons->BU,filter_nil->BV,length_nil->BW,nil_append->BX
open List.Sublist renaming refl->BG
open List.cons renaming injEq->BH
open Nat renaming lt_of_lt_of_le->BO
open Option renaming map_eq_some_iff->BB
open Option.some renaming injEq->BP
namespace Go.Proofs.YtadlacffdemoiaaGreatEv
open Go Go.RowKit
def fu (s:Nat)(del:Nat->Bool)(flat:List Value):Nat->List Value
 |0=>[]
 |j+1=>fu s del flat j++(if del j=true then [] else (flat.drop (j*s)).take s)
def dB (del:Nat->Bool):Nat->Nat
 |0=>0
 |j+1=>dB del j+(if del j=true then 0 else 1)
theorem rR {α:Type}{z:α×Unit->Option Bool}:∀ {xs r:List α},lR z xs=some r->(∀ x∈xs,∃ b,z (x,())=some b)/\r=xs.filter (λx=>!decide (z (x,())=some true))
 |[],r,h=>by
  simp only[lR,BP]at h;subst h;exact⟨by simp,rfl⟩
 |x::xs,r,h=>by
  simp only[lR]at h;obtain⟨b,H,h⟩:=Option.bind_eq_some_iff.1 h;obtain⟨O,M,rfl⟩:=BB.1 h;obtain⟨I,J⟩:=rR M;subst J;refine⟨λy u=>?_,?_⟩
  ·rcases List.mem_cons.1 u with rfl|u
   ·exact⟨b,H⟩
   ·exact I y u
  ·cases b <;> simp[H]
theorem oH {f g:Nat->List Nat}(h:∀ j,(f j).Sublist (g j)):∀ l:List Nat,(l.flatMap f).Sublist (l.flatMap g)
 |[]=>BG _
 |a::l=>by
  rw[BQ,BQ];exact (h a).append (oH h l)
theorem zp {w:World}{G:Nat->Prop}{e:Ty}{xs:List e.den}{flat:List Value}{B:List Nat}(H:Els w G e xs flat B)(p:e.den->Bool)(del:Nat->Bool)(u:∀ (j:Nat) (x:e.den),xs[j]?=some x->del j=p x) :
  ∃ Z,Els w G e (xs.filter λx=>!p x) (fu e.cells del flat xs.length) Z/\Z.Sublist B/\(xs.filter λx=>!p x).length=dB del xs.length:=by
 obtain⟨J,hB,hx⟩:=H.to;have M:∀ j,j<=xs.length->Els w G e ((xs.take j).filter λx=>!p x) (fu e.cells del flat j) ((List.range j).flatMap λi=>if del i=true then [] else J i)/\((xs.take j).filter λx=>!p x).length=dB del j:=by
  intro j;induction j with
  |zero=>intro _;exact⟨⟨rfl,rfl⟩,rfl⟩
  |succ j ih =>
   intro hj;have r:j<xs.length:=by omega
   obtain⟨z,O⟩:=ih (by omega);obtain⟨c,X,h4⟩:=hx j xs[j] (BA r);have R:=u j xs[j] (BA r);have hc:(flat.drop (j*e.cells)).take e.cells=c:=by
    refine BR λi=>?_
    rw[BL];split
    ·rename_i Y;have I:i<c.length:=by rw[X.len];exact Y
     rw[BM,h4 i c[i] (BA I),BA I]
    ·rename_i Y;exact (BI (by rw[X.len];omega)).symm
   rw[List.take_add_one,BA r,List.filter_append,List.range_succ,List.flatMap_append,List.length_append];simp only[fu,dB,List.flatMap_singleton,Option.toList_some,hc];cases y:del j with
   |true =>
    rw[y]at R;simp only[if_true,BC,BU,<- R,Bool.not_true,BN,if_false,BV,BW];exact⟨z,O⟩
   |false =>
    rw[y]at R;simp only[BN,if_false,BU,<- R,Bool.not_false,if_true,BV,List.length_cons,BW,O];exact⟨z.append ⟨c,J j,[],[],by simp,by simp,X,rfl,rfl⟩,trivial⟩
 obtain⟨z,O⟩:=M xs.length (Nat.le_refl _);rw[List.take_length]at z O;refine⟨_,z,?_,O⟩;rw[hB];exact oH (λj=>by split <;> simp) _
structure qR (P:Program) (f idx:FuncId) (E:TypeId) (s:Nat):Prop where
 none_:∀ (w:World) (v0 fv:Value) (n:Nat) (flat:List Value),Row w E s v0 n flat->Calls P idx #[v0,fv] w (λe w'=>e=.returned (.int .i64 (-1))/\Below w.heap.size w w') ->
  Calls P f #[v0,fv] w λe w'=>e=.returned v0/\Below w.heap.size w w'
 some_:∀ (w:World) (g n cap:Nat) (flat:List Value) (fi:FuncId) (caps:Array Value) (del:Nat->Bool) (p0:Nat),Row w E s (.slice (some ⟨g,0,none⟩) n cap) n flat->(∀ u∈flat,u.oneCell'=true)->fP P fi->p0<n->del p0=true->(∀ j,j<p0->del j=false) ->
  (∀ w1:World,w.heap.size<=w1.heap.size->(∀ k,k<w.heap.size->k≠g->w1.heap[k]?=w.heap[k]?)->∀ j,j<n->Calls P fi (#[.agg ((flat.drop (j*s)).take s).toArray]++caps) w1 (λe w2=>e=.returned (.bool (del j))/\Below w1.heap.size w1 w2)) ->
  Calls P idx #[.slice (some ⟨g,0,none⟩) n cap,.func (.func fi) #[] caps] w (λe w'=>e=.returned (.int .i64 p0)/\Below w.heap.size w w') ->
  Calls P f #[.slice (some ⟨g,0,none⟩) n cap,.func (.func fi) #[] caps] w λe w'=>∃ v',e=.returned v'/\Row w' E s v' (dB del n) (fu s del flat n)/\w.grownBy w' (some g)/\v'.ownBlock=some g
def nZ {α β:Type}(xs:List α)(r:α×Unit->Option Bool)(o:Option ((Int×Unit)×β)):Prop :=
 ((∀ x∈xs,r (x,())=some false)/\∃ u,o=some ((-1,()),u)) \/
 ∃ p x u,xs[p]?=some x/\r (x,())=some true/\(∀ j y,j<p->xs[j]?=some y->r (y,())=some false)/\o=some ((((p:Nat):Int),()),u)
theorem AE {A u:Type}(h:A=u)(cv:A->u)(r:∀ x,HEq x (cv x))(xs:List A):HEq xs (xs.map cv):=by
 subst h;have:cv=id:=funext λx=>(eq_of_heq (r x)).symm
 subst this;simp
theorem nF {P:Program}{f idx:FuncId}{E:TypeId}{e e':Ty}{J f2:Bool}{cv:e.den->e'.den}(d3:∀ x,HEq x (cv x))(c1:e.sh=e'.sh)
  {b5:ab [PK.rd (.list false E e'),PK.fn [e'] .bool]->Option (ai [RK.v (.int .i64)]×ah [PK.rd (.list false E e'),PK.fn [e'] .bool])}
  (hE:fP P f) (hd:e.shy=false) (cy:e'.isAgg=true) (ec:bP P ⟨idx,[.rd (.list false E e'),.fn [e'] .bool],[.v (.int .i64)],f2,b5⟩)
  (c6:∀ (xs:List e'.den) (X:Tup [e']->Option Bool),xs.length<=1048576->(∀ x∈xs,∃ b,X (x,())=some b)->nZ xs X (b5 (xs,X,())))
  (a2:qR P f idx E e.cells) :
  bP P ⟨f,[.own (.list true E e),.fn [e'] .bool],[.v (.list true E e)],J,λx=>gJ e x.1 (λy=>x.2.1 (cv y.1,()))⟩:=by
 refine⟨hE,?_⟩;intro w ro x vs ba y c2 cp b4 hy;obtain⟨xs,X,_⟩:=x;obtain⟨v0,fz,b0,fr,rfl,rfl,⟨et,c0,bn⟩,v1,g6,b1,fo,rfl,rfl,⟨f3,a3⟩,rfl,rfl⟩:=c2;have c0:et=[v0]:=c0;subst c0 f3;have e7:=bn;rw[bI (by simp)]at bn;obtain⟨u0,e0,H0⟩:=bn;simp only[BH,and_true]at e0;subst e0;obtain⟨H,B0,r0,O,l0⟩:=qQ H0;have a3:ia P w (λk=>k<w.heap.size/\k∉([b0,[]]:List (List Nat)).flatten) [e'] .bool X v1:=a3;have hy:gJ e xs (λy=>X (cv y.1,()))=some y:=hy;simp only[BD,BE,BC]at b4 cp a3 ⊢;unfold gJ at hy;split at hy
 rotate_left
 ·cases hy
 rename_i cx;obtain⟨ys,c5,rfl⟩:=BB.1 hy;obtain⟨a9,rfl⟩:=rR c5;simp only at a9;have a0:∀ k∈b0,k<w.heap.size:=H0.lt;have hT:e.den=e'.den:=js c1;have c4:nZ (xs.map cv) X (b5 (xs.map cv,X,())):=c6 _ _ (by rw[BF];exact cx) (λx hx=>by
  obtain⟨x',ef,rfl⟩:=List.mem_map.1 hx;exact a9 x' ef)
 have fd:Rd w (λk=>k<w.heap.size) (.list false E e') (xs.map cv) [v0] :=
  Rd.flags (a:=.list true E e) (by simp only[Ty.sh,c1]) (AE hT cv d3 xs) (Mx.rd (λk r=>(cp k r).1) a0 e7)
 have a1:∀ (i:Int) (u:ah [PK.rd (.list false E e'),PK.fn [e'] .bool]),b5 (xs.map cv,X,())=some ((i,()),u)->Calls P idx #[v0,v1] w (λe w'=>e=.returned (.int .i64 i)/\Below w.heap.size w w'):=by
  intro i u hi;have:=ec.2 w (λk=>k<w.heap.size) (xs.map cv,X,()) [v0,v1] [[],[]] _
   ⟨v0,[v1],[],[[]],rfl,rfl,⟨rfl,[v0],rfl,fd⟩,v1,[],[],[],rfl,rfl,⟨rfl,ia.mono (λk r=>⟨r.1,by simp⟩) a3⟩,rfl,rfl⟩
   (λk r=>⟨r,by simp⟩) (by simp) hi
  refine this.mono λe w' hp=>?_
  obtain⟨v,us,N,fx,g4,rfl,a6,eg,f8,f7,f1,ev,_,_,dc,_,_⟩:=hp;refine⟨?_,⟨f8,f7,f1,eg,λk r=>ev k r (by simp)⟩⟩;obtain⟨u,g2,b,fl,e1,e2,⟨cs,M,hm⟩,e3,e4⟩:=dc;subst e3;subst e1;have a6:v=u:=a6;subst a6;have M:cs=[v]:=M;have hm:cs=[.int .i64 i]:=hm.1;rw[M]at hm;simp only[BH,and_true]at hm;rw[hm]
 have a5:∀ (ys:List e.den) (v':Value) (w':World) (b2:List Value) (B':List Nat),Row w' E e.cells v' ys.length b2->w.grownBy w' v0.ownBlock->v'.ownBlock=v0.ownBlock->Els w (λ_=>False) e ys b2 B'->B'.Sublist B0 ->
   tu ⟨f,[.own (.list true E e),.fn [e'] .bool],[.v (.list true E e)],J,λx=>gJ e x.1 (λy=>x.2.1 (cv y.1,()))⟩ w ro [v0,v1] [b0,[]] ((ys,()),()) (.returned v') w':=by
  intro ys v' w' b2 B' r' z ad L Z;have I:b0.Nodup:=b4;have hB:∀ k∈B',w'.heap[k]?=w.heap[k]?:=λk r=>by
   have cw:k∈B0:=Z.subset r;refine z.block k (a0 k (by rw[O];exact BJ _ cw)) λh=>?_
   rw[O]at I;exact (BS.1 I).2.2 k (by rw[<- h];simp) k cw rfl
  have L':Els w' (λk=>False\/(J=false/\ro k)) e ys b2 B':=L.carry (λ_ h=>h.elim) (λ_ h=>h.elim) hB;have R:=vo r' L';rw[ad]at R;have Y:(v0.ownBlock.toList++B').Sublist b0:=by rw[O];exact (BG _).append Z
  refine⟨v',[v'],λ_=>False,[[],[]],[v0.ownBlock.toList++B'],rfl,rfl,z.size,z.os,z.tape,z.output,?_,?_,?_,?_,?_,?_⟩
  ·intro k r hn;refine z.block k r (λh=>hn ?_);simp only[BD,BE,BC];rw[O];exact BK _ (by rw[<- h];simp)
  ·intro k h;exact h.elim
  ·exact⟨rfl,rfl,trivial⟩
  ·refine⟨v',[],_,[],rfl,rfl,⟨[v'],rfl,?_⟩,rfl,rfl⟩;rw[bI (by simp)];exact⟨v',rfl,R⟩
  ·simp only[BD,BE,BC,BX];exact b4.sublist Y
  ·intro k r;simp only[BD,BE,BC,BX]at r;refine⟨⟨BO (a0 k (Y.subset r)) z.size,.inr ?_⟩,λh=>h⟩;simp only[BD,BE,BC];exact Y.subset r
 have c3:Els w (λ_=>False) e xs H B0:=l0.deep hd;rcases c4 with ⟨f6,u,hi⟩|⟨p,x,u,hx,fc,b9,hi⟩
 ·have c5:xs.filter (λx=>!decide (X (cv x,())=some true))=xs:=by
   rw[List.filter_eq_self];intro a ha;rw[f6 (cv a) (List.mem_map_of_mem ha)];simp
  refine (a2.none_ w v0 v1 xs.length H r0 (a1 _ _ hi)).mono λen w'=>?_
  rintro⟨rfl,hb⟩;rw[c5];exact a5 xs v0 w' H B0 (r0.same (λk r=>hb.block k (r0.lt k r))) ⟨hb.os,hb.tape,hb.output,hb.size,λk r _=>hb.block k r⟩ rfl c3 (BG _)
 ·obtain⟨fi,eb,rfl,em,bx⟩:=a3;have b3:p<xs.length:=by
   have:=(List.getElem?_eq_some_iff.1 hx).1
   rwa [BF]at this
  have ed:=r0;rcases r0.2 with ⟨_,h⟩|⟨g,ex,g3,mk,rfl,hg,g1,g5,fv,f5⟩
  ·exact absurd b3 (by rw[h];omega)
  obtain⟨ba,hB,f0⟩:=c3.to;have I:b0.Nodup:=b4;rw[O]at I;have es:∀ k∈B0,k≠g:=λk r h=>(BS.1 I).2.2 g (by simp[BY]) k r h.symm
  have bl:∀ (j:Nat) (x:e.den),xs[j]?=some x->(λj=>match xs[j]? with|some x=>decide (X (cv x,())=some true)|none=>false) j=decide (X (cv x,())=some true):=λj x hj=>by simp only[hj]
  obtain⟨B',L,Z,f4⟩:=zp c3 (λx=>decide (X (cv x,())=some true)) _ bl;have bb:∀ j,(xs.map cv)[j]?=(xs[j]?).map cv:=λj=>BT
  refine (a2.some_ w g xs.length ex H fi eb (λj=>match xs[j]? with|some x=>decide (X (cv x,())=some true)|none=>false) p ed l0.one em b3 ?_ ?_ ?_ (a1 _ _ hi)).mono λen w'=>?_
  ·rw[bb,BA b3,Option.map_some,BP]at hx;simp only[BA b3,hx,fc,decide_true]
  ·intro j hj;have cb:j<xs.length:=by omega
   have:=b9 j (cv xs[j]) hj (by rw[bb,BA cb];rfl);simp only[BA cb,this];simp
  ·intro w1 dd e6 j hj;have d1:=BA hj;obtain⟨c,h3,h4⟩:=f0 j xs[j] d1;have hc:(H.drop (j*e.cells)).take e.cells=c:=by
    refine BR λi=>?_
    rw[BL];split
    ·rename_i hi;have cc:i<c.length:=by rw[h3.len];exact hi
     rw[BM,h4 i c[i] (BA cc),BA cc]
    ·rename_i hi;exact (BI (by rw[h3.len];omega)).symm
   rw[hc];have e5:∀ k∈ba j,k∈B0:=λk r=>by rw[hB];exact dU.2 ⟨j,hj,r⟩
   have d2:∀ k∈ba j,k<w.heap.size:=λk r=>a0 k (by rw[O];exact BJ _ (e5 k r))
   have M1:Mx w1 (λ_=>False) e none 0 xs[j] c (ba j):=h3.carry (λ_ h=>h) (λ_ h=>h.elim) (λk r=>e6 k (d2 k r) (es k (e5 k r)));have R1:Rd w1 (λk=>k<w1.heap.size) e' (cv xs[j]) c:=Rd.flags c1 (d3 _) (Mx.rd (λ_ h=>h.elim) (λk r=>BO (d2 k r) dd) M1);obtain⟨b,hb⟩:=a9 xs[j] (List.getElem_mem hj);have:=bx w1 dd (λk r=>e6 k r.1 (λh=>r.2 (by rw[h,O];exact BK _ (by simp[BY])))) (cv xs[j],()) [.agg c.toArray] b ⟨.agg c.toArray,c,[],rfl,by unfold db;rw[cy];rfl,R1,rfl⟩ hb;refine Calls.mono (h:=this) λe2 w2 hp=>?_
   obtain⟨u,cu,rfl,M,a4,ej⟩:=hp;have M:cu=[u]:=M;have a4:cu=[.bool b]:=a4;rw[M]at a4;simp only[BH,and_true]at a4;refine⟨?_,ej⟩;rw[a4];simp only[d1,hb];cases b <;> simp
  ·rintro⟨v',rfl,r',z,ad⟩;rw[<- f4]at r';exact a5 _ v' w' _ B' r' z ad L Z
theorem mC:∀ a:Ty,a.hd.cells=a.cells
 |.pair a b=>by show a.hd.cells+b.hd.cells=a.cells+b.cells;rw[mC a,mC b]
 |.list _ _ _=>rfl
 |.int _=>rfl
 |.bool=>rfl
 |.str=>rfl
 |.unit=>rfl
 |.hdr=>rfl
theorem Mx.hd {w w':World}{G G':Nat->Prop}:∀ {a:Ty} {pos:Nat} {x:a.den} {cs:List Value} {bs:List Nat},a.sh=a->Mx w G a none pos x cs bs->Mx w' G' a.hd none pos (hdD a x) cs bs
 |.int _,_,_,_,_,_,h=>h
 |.bool,_,_,_,_,_,h=>h
 |.str,_,_,_,_,_,h=>h
 |.unit,_,_,_,_,_,h=>h
 |.hdr,_,_,_,_,_,h=>h
 |.pair a b,pos,x,_,_,r,⟨z,R,J,I,M,H,u,O⟩=>by
  simp only[Ty.sh,Ty.pair.injEq]at r;exact⟨z,R,J,I,M,H,Mx.hd r.1 u,Mx.hd r.2 (Mx.pos O)⟩
 |.list m E e,_,X,cs,bs,r,h=>by
  simp only[Ty.sh,Ty.list.injEq]at r;obtain⟨rfl,_⟩:=r;rw[cn]at h;obtain⟨A,y,u,_⟩:=h.2;exact⟨⟨A,y,u⟩,h.1⟩
theorem Bx {P:Program}{f:FuncId}{E:TypeId}{e:Ty}{r:Nat}{fr:Bool}(he:e.sh=e)
  (hs:bP P ⟨f,[.rd (.list false E e)],[.v (.list true E e)],fr,λx=>fH e r x.1⟩):bP P ⟨f,[.rd (.list false E e)],[.v (.list true E e.hd)],true,λx=>zG e r x.1⟩:=by
 refine⟨hs.1,λw ro x vs ad y H b0 b5 hy=>?_⟩;obtain⟨z,hz,rfl⟩:=BB.1 hy;obtain⟨⟨xs,⟨⟩⟩,⟨⟩⟩:=z;refine (hs.2 w ro x vs ad _ H b0 b5 hz).mono λen w' hp=>?_
 obtain⟨v,us,N,O,b4,h1,Y,a9,a1,a2,b3,a3,hN,J,X,Z,I⟩:=hp;obtain⟨u,a5,b,R,e1,e2,⟨cs,a4,hm⟩,e3,e4⟩:=X;refine⟨v,us,N,O,b4,h1,Y,a9,a1,a2,b3,a3,hN,?_,⟨u,a5,b,R,e1,e2,⟨cs,a4,?_⟩,e3,e4⟩,Z,I⟩
 ·obtain⟨v1,ba,b1,b9,rfl,rfl,_,rfl,rfl⟩:=H
  match O,J with
  |[b2],J=>exact J
  |[],J=>exact J.elim
  |_::_::_,J=>exact (J.2:False).elim
 ·rw[bI (by simp)]at hm ⊢;obtain⟨v2,h2,M,a0,h3,h4,h5⟩:=hm;refine⟨v2,h2,M,a0,?_,?_,λj y hj=>?_⟩
  ·rw[mC,BF];exact h3
  ·rw[BF];exact h4
  ·rw[BT]at hj;obtain⟨x',a6,rfl⟩:=BB.1 hj;obtain⟨c,h6,h7⟩:=h5 j x' a6;exact⟨c,h6.hd he,λi u hi=>by rw[mC];exact h7 i u hi⟩
end Go.Proofs.YtadlacffdemoiaaGreatEv
