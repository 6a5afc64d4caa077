/- slices.DeleteFunc: from what its walk says to its contract; the headers of a copy. -/
import Derived.Test.YtaegajachoklkaaGreatEvQ
set_option linter.unusedVariables false
set_option linter.unusedSimpArgs false
open Bool renaming false_eq_true->CA
open Go.Value renaming ownBlock->CL
open List renaming getElem?_eq_getElem->BU,append_nil->BW,flatten_cons->BX,flatten_nil->BY,length_map->BZ,getElem?_eq_none->B5,mem_append_right->B6,mem_append_left->B7,getElem?_take->B8,getElem?_drop->B9,flatMap_cons->CD,ext_getElem?->CE,nodup_append->CF,getElem?_map->CG,filter_cons->CH,filter_nil->CI,length_nil->CJ,nil_append->CK
open List.Sublist renaming refl->B3
open List.cons renaming injEq->B4
open Nat renaming lt_of_lt_of_le->CB
open Option renaming map_eq_some_iff->BV
open Option.some renaming injEq->CC
namespace Go.Proofs.YtaegajachoklkaaGreatEv
open Go Go.RowKit
def fO (s:Nat)(del:Nat->Bool)(flat:List Value):Nat->List Value
 |0=>[]
 |j+1=>fO s del flat j++(if del j=true then [] else (flat.drop (j*s)).take s)
def dI (del:Nat->Bool):Nat->Nat
 |0=>0
 |j+1=>dI del j+(if del j=true then 0 else 1)
theorem sa {α:Type}{z:α×Unit->Option Bool}:∀ {xs r:List α},ma z xs=some r->(∀ x∈xs,∃ b,z (x,())=some b)/\r=xs.filter (λx=>!decide (z (x,())=some true))
 |[],r,h=>by
  simp only[ma,CC]at h;subst h;exact⟨by simp,rfl⟩
 |x::xs,r,h=>by
  simp only[ma]at h;obtain⟨b,H,h⟩:=Option.bind_eq_some_iff.1 h;obtain⟨O,J,rfl⟩:=BV.1 h;obtain⟨I,M⟩:=sa J;subst M;refine⟨λy u=>?_,?_⟩
  ·rcases List.mem_cons.1 u with rfl|u
   ·exact⟨b,H⟩
   ·exact I y u
  ·cases b <;> simp[H]
theorem oO {f g:Nat->List Nat}(h:∀ j,(f j).Sublist (g j)):∀ l:List Nat,(l.flatMap f).Sublist (l.flatMap g)
 |[]=>B3 _
 |a::l=>by
  rw[CD,CD];exact (h a).append (oO h l)
theorem zR {w:World}{G:Nat->Prop}{e:Ty}{xs:List e.den}{flat:List Value}{B:List Nat}(H:Els w G e xs flat B)(p:e.den->Bool)(del:Nat->Bool)(M:∀ (j:Nat) (x:e.den),xs[j]?=some x->del j=p x) :
  ∃ Y,Els w G e (xs.filter λx=>!p x) (fO e.cells del flat xs.length) Y/\Y.Sublist B/\(xs.filter λx=>!p x).length=dI del xs.length:=by
 obtain⟨z,hB,hx⟩:=H.to;have I:∀ j,j<=xs.length->Els w G e ((xs.take j).filter λx=>!p x) (fO e.cells del flat j) ((List.range j).flatMap λi=>if del i=true then [] else z i)/\((xs.take j).filter λx=>!p x).length=dI del j:=by
  intro j;induction j with
  |zero=>intro _;exact⟨⟨rfl,rfl⟩,rfl⟩
  |succ j ih =>
   intro hj;have r:j<xs.length:=by omega
   obtain⟨u,J⟩:=ih (by omega);obtain⟨c,X,h4⟩:=hx j xs[j] (BU r);have R:=M j xs[j] (BU r);have hc:(flat.drop (j*e.cells)).take e.cells=c:=by
    refine CE λi=>?_
    rw[B8];split
    ·rename_i Z;have O:i<c.length:=by rw[X.len];exact Z
     rw[B9,h4 i c[i] (BU O),BU O]
    ·rename_i Z;exact (B5 (by rw[X.len];omega)).symm
   rw[List.take_add_one,BU r,List.filter_append,List.range_succ,List.flatMap_append,List.length_append];simp only[fO,dI,List.flatMap_singleton,Option.toList_some,hc];cases y:del j with
   |true =>
    rw[y]at R;simp only[if_true,BW,CH,<- R,Bool.not_true,CA,if_false,CI,CJ];exact⟨u,J⟩
   |false =>
    rw[y]at R;simp only[CA,if_false,CH,<- R,Bool.not_false,if_true,CI,List.length_cons,CJ,J];exact⟨u.append ⟨c,z j,[],[],by simp,by simp,X,rfl,rfl⟩,trivial⟩
 obtain⟨u,J⟩:=I xs.length (Nat.le_refl _);rw[List.take_length]at u J;refine⟨_,u,?_,J⟩;rw[hB];exact oO (λj=>by split <;> simp) _
structure rg (P:Program) (f idx:FuncId) (E:TypeId) (s:Nat):Prop where
 none_:∀ (w:World) (v0 fv:Value) (n:Nat) (flat:List Value),Row w E s v0 n flat->Calls P idx #[v0,fv] w (λe w'=>e=.returned (.int .i64 (-1))/\Below w.heap.size w w') ->
  Calls P f #[v0,fv] w λe w'=>e=.returned v0/\Below w.heap.size w w'
 some_:∀ (w:World) (g n cap:Nat) (flat:List Value) (fi:FuncId) (caps:Array Value) (del:Nat->Bool) (p0:Nat),Row w E s (.slice (some ⟨g,0,none⟩) n cap) n flat->(∀ u∈flat,u.oneCell'=true)->ge P fi->p0<n->del p0=true->(∀ j,j<p0->del j=false) ->
  (∀ w1:World,w.heap.size<=w1.heap.size->(∀ k,k<w.heap.size->k≠g->w1.heap[k]?=w.heap[k]?)->∀ j,j<n->Calls P fi (#[.agg ((flat.drop (j*s)).take s).toArray]++caps) w1 (λe w2=>e=.returned (.bool (del j))/\Below w1.heap.size w1 w2)) ->
  Calls P idx #[.slice (some ⟨g,0,none⟩) n cap,.func (.func fi) #[] caps] w (λe w'=>e=.returned (.int .i64 p0)/\Below w.heap.size w w') ->
  Calls P f #[.slice (some ⟨g,0,none⟩) n cap,.func (.func fi) #[] caps] w λe w'=>∃ v',e=.returned v'/\Row w' E s v' (dI del n) (fO s del flat n)/\w.grownBy w' (some g)/\v'.ownBlock=some g
def oi {α β:Type}(xs:List α)(r:α×Unit->Option Bool)(o:Option ((Int×Unit)×β)):Prop :=
 ((∀ x∈xs,r (x,())=some false)/\∃ u,o=some ((-1,()),u)) \/
 ∃ p x u,xs[p]?=some x/\r (x,())=some true/\(∀ j y,j<p->xs[j]?=some y->r (y,())=some false)/\o=some ((((p:Nat):Int),()),u)
theorem Be {A u:Type}(h:A=u)(cv:A->u)(r:∀ x,HEq x (cv x))(xs:List A):HEq xs (xs.map cv):=by
 subst h;have:cv=id:=funext λx=>(eq_of_heq (r x)).symm
 subst this;simp
theorem nQ {P:Program}{f idx:FuncId}{E:TypeId}{e e':Ty}{X f4:Bool}{cv:e.den->e'.den}(cb:∀ x,HEq x (cv x))(ba:e.sh=e'.sh)
  {b4:ab [PK.rd (.list false E e'),PK.fn [e'] .bool]->Option (ai [RK.v (.int .i64)]×ah [PK.rd (.list false E e'),PK.fn [e'] .bool])}
  (hE:ge P f) (hd:e.shy=false) (d2:e'.isAgg=true) (e6:bT P ⟨idx,[.rd (.list false E e'),.fn [e'] .bool],[.v (.int .i64)],f4,b4⟩)
  (c4:∀ (xs:List e'.den) (O:Tup [e']->Option Bool),xs.length<=1048576->(∀ x∈xs,∃ b,O (x,())=some b)->oi xs O (b4 (xs,O,())))
  (a7:rg P f idx E e.cells) :
  bT P ⟨f,[.own (.list true E e),.fn [e'] .bool],[.v (.list true E e)],X,λx=>gR e x.1 (λy=>x.2.1 (cv y.1,()))⟩:=by
 refine⟨hE,?_⟩;intro w ro x vs a9 y bb cx ad hy;obtain⟨xs,O,_⟩:=x;obtain⟨v0,fz,b0,g6,rfl,rfl,⟨ef,c2,c0⟩,v1,g2,b1,fo,rfl,rfl,⟨ed,a4⟩,rfl,rfl⟩:=bb;have c2:ef=[v0]:=c2;subst c2 ed;have d1:=c0;rw[bM (by simp)]at c0;obtain⟨u0,e0,H0⟩:=c0;simp only[B4,and_true]at e0;subst e0;obtain⟨H,B0,r0,Y,l0⟩:=re H0;have a4:ip P w (λk=>k<w.heap.size/\k∉([b0,[]]:List (List Nat)).flatten) [e'] .bool O v1:=a4;have hy:gR e xs (λy=>O (cv y.1,()))=some y:=hy;simp only[BX,BY,BW]at ad cx a4 ⊢;unfold gR at hy;split at hy
 rotate_left
 ·cases hy
 rename_i dd;obtain⟨ys,bl,rfl⟩:=BV.1 hy;obtain⟨a8,rfl⟩:=sa bl;simp only at a8;have a0:∀ k∈b0,k<w.heap.size:=H0.lt;have hT:e.den=e'.den:=jH ba;have bx:oi (xs.map cv) O (b4 (xs.map cv,O,())):=c4 _ _ (by rw[BZ];exact dd) (λx hx=>by
  obtain⟨x',eg,rfl⟩:=List.mem_map.1 hx;exact a8 x' eg)
 have f7:Rd w (λk=>k<w.heap.size) (.list false E e') (xs.map cv) [v0] :=
  Rd.flags (a:=.list true E e) (by simp only[Ty.sh,ba]) (Be hT cv cb xs) (Mx.rd (λk r=>(cx k r).1) a0 d1)
 have a1:∀ (i:Int) (u:ah [PK.rd (.list false E e'),PK.fn [e'] .bool]),b4 (xs.map cv,O,())=some ((i,()),u)->Calls P idx #[v0,v1] w (λe w'=>e=.returned (.int .i64 i)/\Below w.heap.size w w'):=by
  intro i u hi;have:=e6.2 w (λk=>k<w.heap.size) (xs.map cv,O,()) [v0,v1] [[],[]] _
   ⟨v0,[v1],[],[[]],rfl,rfl,⟨rfl,[v0],rfl,f7⟩,v1,[],[],[],rfl,rfl,⟨rfl,ip.mono (λk r=>⟨r.1,by simp⟩) a4⟩,rfl,rfl⟩
   (λk r=>⟨r,by simp⟩) (by simp) hi
  refine this.mono λe w' hp=>?_
  obtain⟨v,us,N,g4,fv,rfl,a6,f5,fd,et,fc,ev,_,_,cc,_,_⟩:=hp;refine⟨?_,⟨fd,et,fc,f5,λk r=>ev k r (by simp)⟩⟩;obtain⟨u,g1,b,fl,e1,e2,⟨cs,M,hm⟩,e3,e4⟩:=cc;subst e3;subst e1;have a6:v=u:=a6;subst a6;have M:cs=[v]:=M;have hm:cs=[.int .i64 i]:=hm.1;rw[M]at hm;simp only[B4,and_true]at hm;rw[hm]
 have a3:∀ (ys:List e.den) (v':Value) (w':World) (b3:List Value) (B':List Nat),Row w' E e.cells v' ys.length b3->w.grownBy w' v0.ownBlock->v'.ownBlock=v0.ownBlock->Els w (λ_=>False) e ys b3 B'->B'.Sublist B0 ->
   tI ⟨f,[.own (.list true E e),.fn [e'] .bool],[.v (.list true E e)],X,λx=>gR e x.1 (λy=>x.2.1 (cv y.1,()))⟩ w ro [v0,v1] [b0,[]] ((ys,()),()) (.returned v') w':=by
  intro ys v' w' b3 B' r' z a5 L Z;have I:b0.Nodup:=ad;have hB:∀ k∈B',w'.heap[k]?=w.heap[k]?:=λk r=>by
   have cw:k∈B0:=Z.subset r;refine z.block k (a0 k (by rw[Y];exact B6 _ cw)) λh=>?_
   rw[Y]at I;exact (CF.1 I).2.2 k (by rw[<- h];simp) k cw rfl
  have L':Els w' (λk=>False\/(X=false/\ro k)) e ys b3 B':=L.carry (λ_ h=>h.elim) (λ_ h=>h.elim) hB;have R:=vE r' L';rw[a5]at R;have J:(v0.ownBlock.toList++B').Sublist b0:=by rw[Y];exact (B3 _).append Z
  refine⟨v',[v'],λ_=>False,[[],[]],[v0.ownBlock.toList++B'],rfl,rfl,z.size,z.os,z.tape,z.output,?_,?_,?_,?_,?_,?_⟩
  ·intro k r hn;refine z.block k r (λh=>hn ?_);simp only[BX,BY,BW];rw[Y];exact B7 _ (by rw[<- h];simp)
  ·intro k h;exact h.elim
  ·exact⟨rfl,rfl,trivial⟩
  ·refine⟨v',[],_,[],rfl,rfl,⟨[v'],rfl,?_⟩,rfl,rfl⟩;rw[bM (by simp)];exact⟨v',rfl,R⟩
  ·simp only[BX,BY,BW,CK];exact ad.sublist J
  ·intro k r;simp only[BX,BY,BW,CK]at r;refine⟨⟨CB (a0 k (J.subset r)) z.size,.inr ?_⟩,λh=>h⟩;simp only[BX,BY,BW];exact J.subset r
 have c1:Els w (λ_=>False) e xs H B0:=l0.deep hd;rcases bx with ⟨f2,u,hi⟩|⟨p,x,u,hx,em,b5,hi⟩
 ·have bl:xs.filter (λx=>!decide (O (cv x,())=some true))=xs:=by
   rw[List.filter_eq_self];intro a ha;rw[f2 (cv a) (List.mem_map_of_mem ha)];simp
  refine (a7.none_ w v0 v1 xs.length H r0 (a1 _ _ hi)).mono λen w'=>?_
  rintro⟨rfl,hb⟩;rw[bl];exact a3 xs v0 w' H B0 (r0.same (λk r=>hb.block k (r0.lt k r))) ⟨hb.os,hb.tape,hb.output,hb.size,λk r _=>hb.block k r⟩ rfl c1 (B3 _)
 ·obtain⟨fi,d3,rfl,f1,bn⟩:=a4;have b2:p<xs.length:=by
   have:=(List.getElem?_eq_some_iff.1 hx).1
   rwa [BZ]at this
  have es:=r0;rcases r0.2 with ⟨_,h⟩|⟨g,f0,fx,mk,rfl,hg,fr,g3,g5,f6⟩
  ·exact absurd b2 (by rw[h];omega)
  obtain⟨a9,hB,f3⟩:=c1.to;have I:b0.Nodup:=ad;rw[Y]at I;have f8:∀ k∈B0,k≠g:=λk r h=>(CF.1 I).2.2 g (by simp[CL]) k r h.symm
  have c3:∀ (j:Nat) (x:e.den),xs[j]?=some x->(λj=>match xs[j]? with|some x=>decide (O (cv x,())=some true)|none=>false) j=decide (O (cv x,())=some true):=λj x hj=>by simp only[hj]
  obtain⟨B',L,Z,ex⟩:=zR c1 (λx=>decide (O (cv x,())=some true)) _ c3;have b9:∀ j,(xs.map cv)[j]?=(xs[j]?).map cv:=λj=>CG
  refine (a7.some_ w g xs.length f0 H fi d3 (λj=>match xs[j]? with|some x=>decide (O (cv x,())=some true)|none=>false) p es l0.one f1 b2 ?_ ?_ ?_ (a1 _ _ hi)).mono λen w'=>?_
  ·rw[b9,BU b2,Option.map_some,CC]at hx;simp only[BU b2,hx,em,decide_true]
  ·intro j hj;have dc:j<xs.length:=by omega
   have:=b5 j (cv xs[j]) hj (by rw[b9,BU dc];rfl);simp only[BU dc,this];simp
  ·intro w1 ec eb j hj;have e7:=BU hj;obtain⟨c,h3,h4⟩:=f3 j xs[j] e7;have hc:(H.drop (j*e.cells)).take e.cells=c:=by
    refine CE λi=>?_
    rw[B8];split
    ·rename_i hi;have e5:i<c.length:=by rw[h3.len];exact hi
     rw[B9,h4 i c[i] (BU e5),BU e5]
    ·rename_i hi;exact (B5 (by rw[h3.len];omega)).symm
   rw[hc];have cy:∀ k∈a9 j,k∈B0:=λk r=>by rw[hB];exact d6.2 ⟨j,hj,r⟩
   have cp:∀ k∈a9 j,k<w.heap.size:=λk r=>a0 k (by rw[Y];exact B6 _ (cy k r))
   have M1:Mx w1 (λ_=>False) e none 0 xs[j] c (a9 j):=h3.carry (λ_ h=>h) (λ_ h=>h.elim) (λk r=>eb k (cp k r) (f8 k (cy k r)));have R1:Rd w1 (λk=>k<w1.heap.size) e' (cv xs[j]) c:=Rd.flags ba (cb _) (Mx.rd (λ_ h=>h.elim) (λk r=>CB (cp k r) ec) M1);obtain⟨b,hb⟩:=a8 xs[j] (List.getElem_mem hj);have:=bn w1 ec (λk r=>eb k r.1 (λh=>r.2 (by rw[h,Y];exact B7 _ (by simp[CL])))) (cv xs[j],()) [.agg c.toArray] b ⟨.agg c.toArray,c,[],rfl,by unfold dj;rw[d2];rfl,R1,rfl⟩ hb;refine Calls.mono (h:=this) λe2 w2 hp=>?_
   obtain⟨u,cu,rfl,M,a2,ej⟩:=hp;have M:cu=[u]:=M;have a2:cu=[.bool b]:=a2;rw[M]at a2;simp only[B4,and_true]at a2;refine⟨?_,ej⟩;rw[a2];simp only[e7,hb];cases b <;> simp
  ·rintro⟨v',rfl,r',z,a5⟩;rw[<- ex]at r';exact a3 _ v' w' _ B' r' z a5 L Z
theorem mL:∀ a:Ty,a.hd.cells=a.cells
 |.pair a b=>by show a.hd.cells+b.hd.cells=a.cells+b.cells;rw[mL a,mL b]
 |.list _ _ _=>rfl
 |.int _=>rfl
 |.bool=>rfl
 |.str=>rfl
 |.unit=>rfl
 |.hdr=>rfl
theorem Mx.hd {w w':World}{G G':Nat->Prop}:∀ {a:Ty} {pos:Nat} {x:a.den} {cs:List Value} {bs:List Nat},a.sh=a->Mx w G a none pos x cs bs->Mx w' G' a.hd none pos (hdD a x) cs bs
 |.int _,_,_,_,_,_,h=>h
 |.bool,_,_,_,_,_,h=>h
 |.str,_,_,_,_,_,h=>h
 |.unit,_,_,_,_,_,h=>h
 |.hdr,_,_,_,_,_,h=>h
 |.pair a b,pos,x,_,_,r,⟨J,z,M,I,O,R,u,H⟩=>by
  simp only[Ty.sh,Ty.pair.injEq]at r;exact⟨J,z,M,I,O,R,Mx.hd r.1 u,Mx.hd r.2 (Mx.pos H)⟩
 |.list m E e,_,X,cs,bs,r,h=>by
  simp only[Ty.sh,Ty.list.injEq]at r;obtain⟨rfl,_⟩:=r;rw[cA]at h;obtain⟨A,y,u,_⟩:=h.2;exact⟨⟨A,y,u⟩,h.1⟩
theorem uh {P:Program}{f:FuncId}{E:TypeId}{e:Ty}{r:Nat}{fr:Bool}(he:e.sh=e)
  (hs:bT P ⟨f,[.rd (.list false E e)],[.v (.list true E e)],fr,λx=>fj e r x.1⟩):bT P ⟨f,[.rd (.list false E e)],[.v (.list true E e.hd)],true,λx=>qx e r x.1⟩:=by
 refine⟨hs.1,λw ro x vs a2 y H a6 b3 hy=>?_⟩;obtain⟨z,hz,rfl⟩:=BV.1 hy;obtain⟨⟨xs,⟨⟩⟩,⟨⟩⟩:=z;refine (hs.2 w ro x vs a2 _ H a6 b3 hz).mono λen w' hp=>?_
 obtain⟨v,us,N,X,a5,h1,R,a7,b0,a8,a9,a0,hN,J,M,Z,I⟩:=hp;obtain⟨u,a3,b,O,e1,e2,⟨cs,ad,hm⟩,e3,e4⟩:=M;refine⟨v,us,N,X,a5,h1,R,a7,b0,a8,a9,a0,hN,?_,⟨u,a3,b,O,e1,e2,⟨cs,ad,?_⟩,e3,e4⟩,Z,I⟩
 ·obtain⟨v1,b4,b1,b5,rfl,rfl,_,rfl,rfl⟩:=H
  match X,J with
  |[b2],J=>exact J
  |[],J=>exact J.elim
  |_::_::_,J=>exact (J.2:False).elim
 ·rw[bM (by simp)]at hm ⊢;obtain⟨v2,h2,Y,a1,h3,h4,h5⟩:=hm;refine⟨v2,h2,Y,a1,?_,?_,λj y hj=>?_⟩
  ·rw[mL,BZ];exact h3
  ·rw[BZ];exact h4
  ·rw[CG]at hj;obtain⟨x',a4,rfl⟩:=BV.1 hj;obtain⟨c,h6,h7⟩:=h5 j x' a4;exact⟨c,h6.hd he,λi u hi=>by rw[mL];exact h7 i u hi⟩
end Go.Proofs.YtaegajachoklkaaGreatEv
