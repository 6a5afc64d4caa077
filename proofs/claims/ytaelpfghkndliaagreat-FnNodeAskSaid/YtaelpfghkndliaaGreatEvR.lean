/- slices.DeleteFunc: from what its walk says to its contract; the headers of a copy. -/
import Derived.Test.YtaelpfghkndliaaGreatEvQ
set_option linter.unusedVariables false
set_option linter.unusedSimpArgs false
open Bool renaming false_eq_true->BN
open Go.Value renaming ownBlock->BY
open List renaming getElem?_eq_getElem->BA,append_nil->BC,flatten_cons->BD,flatten_nil->BE,length_map->BF,getElem?_eq_none->BI,mem_append_right->BJ,mem_append_left->BK,getElem?_take->BL,getElem?_drop->BM,flatMap_cons->BQ,ext_getElem?->BR,nodup_append->BS,getElem?_map->BT,filter_cons->BU,filter_nil->BV,length_nil->BW,nil_append->BX
open List.Sublist renaming refl->BG
open List.cons renaming injEq->BH
open Nat renaming lt_of_lt_of_le->BO
open Option renaming map_eq_some_iff->BB
open Option.some renaming injEq->BP
namespace Go.Proofs.YtaelpfghkndliaaGreatEv
open Go Go.RowKit
def fw (s:Nat)(del:Nat->Bool)(flat:List Value):Nat->List Value
 |0=>[]
 |j+1=>fw s del flat j++(if del j=true then [] else (flat.drop (j*s)).take s)
def dC (del:Nat->Bool):Nat->Nat
 |0=>0
 |j+1=>dC del j+(if del j=true then 0 else 1)
theorem rO {α:Type}{z:α×Unit->Option Bool}:∀ {xs r:List α},lO z xs=some r->(∀ x∈xs,∃ b,z (x,())=some b)/\r=xs.filter (λx=>!decide (z (x,())=some true))
 |[],r,h=>by
  simp only[lO,BP]at h;subst h;exact⟨by simp,rfl⟩
 |x::xs,r,h=>by
  simp only[lO]at h;obtain⟨b,H,h⟩:=Option.bind_eq_some_iff.1 h;obtain⟨O,M,rfl⟩:=BB.1 h;obtain⟨J,I⟩:=rO M;subst I;refine⟨λy u=>?_,?_⟩
  ·rcases List.mem_cons.1 u with rfl|u
   ·exact⟨b,H⟩
   ·exact J y u
  ·cases b <;> simp[H]
theorem oG {f g:Nat->List Nat}(h:∀ j,(f j).Sublist (g j)):∀ l:List Nat,(l.flatMap f).Sublist (l.flatMap g)
 |[]=>BG _
 |a::l=>by
  rw[BQ,BQ];exact (h a).append (oG h l)
theorem ze {w:World}{G:Nat->Prop}{e:Ty}{xs:List e.den}{flat:List Value}{B:List Nat}(H:Els w G e xs flat B)(p:e.den->Bool)(del:Nat->Bool)(J:∀ (j:Nat) (x:e.den),xs[j]?=some x->del j=p x) :
  ∃ Y,Els w G e (xs.filter λx=>!p x) (fw e.cells del flat xs.length) Y/\Y.Sublist B/\(xs.filter λx=>!p x).length=dC del xs.length:=by
 obtain⟨O,hB,hx⟩:=H.to;have I:∀ j,j<=xs.length->Els w G e ((xs.take j).filter λx=>!p x) (fw e.cells del flat j) ((List.range j).flatMap λi=>if del i=true then [] else O i)/\((xs.take j).filter λx=>!p x).length=dC del j:=by
  intro j;induction j with
  |zero=>intro _;exact⟨⟨rfl,rfl⟩,rfl⟩
  |succ j ih =>
   intro hj;have r:j<xs.length:=by omega
   obtain⟨z,y⟩:=ih (by omega);obtain⟨c,X,h4⟩:=hx j xs[j] (BA r);have R:=J j xs[j] (BA r);have hc:(flat.drop (j*e.cells)).take e.cells=c:=by
    refine BR λi=>?_
    rw[BL];split
    ·rename_i Z;have u:i<c.length:=by rw[X.len];exact Z
     rw[BM,h4 i c[i] (BA u),BA u]
    ·rename_i Z;exact (BI (by rw[X.len];omega)).symm
   rw[List.take_add_one,BA r,List.filter_append,List.range_succ,List.flatMap_append,List.length_append];simp only[fw,dC,List.flatMap_singleton,Option.toList_some,hc];cases M:del j with
   |true =>
    rw[M]at R;simp only[if_true,BC,BU,<- R,Bool.not_true,BN,if_false,BV,BW];exact⟨z,y⟩
   |false =>
    rw[M]at R;simp only[BN,if_false,BU,<- R,Bool.not_false,if_true,BV,List.length_cons,BW,y];exact⟨z.append ⟨c,O j,[],[],by simp,by simp,X,rfl,rfl⟩,trivial⟩
 obtain⟨z,y⟩:=I xs.length (Nat.le_refl _);rw[List.take_length]at z y;refine⟨_,z,?_,y⟩;rw[hB];exact oG (λj=>by split <;> simp) _
structure qP (P:Program) (f idx:FuncId) (E:TypeId) (s:Nat):Prop where
 none_:∀ (w:World) (v0 fv:Value) (n:Nat) (flat:List Value),Row w E s v0 n flat->Calls P idx #[v0,fv] w (λe w'=>e=.returned (.int .i64 (-1))/\Below w.heap.size w w') ->
  Calls P f #[v0,fv] w λe w'=>e=.returned v0/\Below w.heap.size w w'
 some_:∀ (w:World) (g n cap:Nat) (flat:List Value) (fi:FuncId) (caps:Array Value) (del:Nat->Bool) (p0:Nat),Row w E s (.slice (some ⟨g,0,none⟩) n cap) n flat->(∀ u∈flat,u.oneCell'=true)->fQ P fi->p0<n->del p0=true->(∀ j,j<p0->del j=false) ->
  (∀ w1:World,w.heap.size<=w1.heap.size->(∀ k,k<w.heap.size->k≠g->w1.heap[k]?=w.heap[k]?)->∀ j,j<n->Calls P fi (#[.agg ((flat.drop (j*s)).take s).toArray]++caps) w1 (λe w2=>e=.returned (.bool (del j))/\Below w1.heap.size w1 w2)) ->
  Calls P idx #[.slice (some ⟨g,0,none⟩) n cap,.func (.func fi) #[] caps] w (λe w'=>e=.returned (.int .i64 p0)/\Below w.heap.size w w') ->
  Calls P f #[.slice (some ⟨g,0,none⟩) n cap,.func (.func fi) #[] caps] w λe w'=>∃ v',e=.returned v'/\Row w' E s v' (dC del n) (fw s del flat n)/\w.grownBy w' (some g)/\v'.ownBlock=some g
def nW {α β:Type}(xs:List α)(r:α×Unit->Option Bool)(o:Option ((Int×Unit)×β)):Prop :=
 ((∀ x∈xs,r (x,())=some false)/\∃ u,o=some ((-1,()),u)) \/
 ∃ p x u,xs[p]?=some x/\r (x,())=some true/\(∀ j y,j<p->xs[j]?=some y->r (y,())=some false)/\o=some ((((p:Nat):Int),()),u)
theorem Au {A u:Type}(h:A=u)(cv:A->u)(r:∀ x,HEq x (cv x))(xs:List A):HEq xs (xs.map cv):=by
 subst h;have:cv=id:=funext λx=>(eq_of_heq (r x)).symm
 subst this;simp
theorem nD {P:Program}{f idx:FuncId}{E:TypeId}{e e':Ty}{O f3:Bool}{cv:e.den->e'.den}(dc:∀ x,HEq x (cv x))(ba:e.sh=e'.sh)
  {ad:ac [PK.rd (.list false E e'),PK.fn [e'] .bool]->Option (aj [RK.v (.int .i64)]×ai [PK.rd (.list false E e'),PK.fn [e'] .bool])}
  (hE:fQ P f) (hd:e.shy=false) (dd:e'.isAgg=true) (cb:bP P ⟨idx,[.rd (.list false E e'),.fn [e'] .bool],[.v (.int .i64)],f3,ad⟩)
  (e6:∀ (xs:List e'.den) (M:Tup [e']->Option Bool),xs.length<=1048576->(∀ x∈xs,∃ b,M (x,())=some b)->nW xs M (ad (xs,M,())))
  (a3:qP P f idx E e.cells) :
  bP P ⟨f,[.own (.list true E e),.fn [e'] .bool],[.v (.list true E e)],O,λx=>gK e x.1 (λy=>x.2.1 (cv y.1,()))⟩:=by
 refine⟨hE,?_⟩;intro w ro x vs b6 y bn cw b5 hy;obtain⟨xs,M,_⟩:=x;obtain⟨v0,g1,b0,fr,rfl,rfl,⟨es,bx,c3⟩,v1,fd,b1,g3,rfl,rfl,⟨ef,ab⟩,rfl,rfl⟩:=bn;have bx:es=[v0]:=bx;subst bx ef;have c4:=c3;rw[bH (by simp)]at c3;obtain⟨u0,e0,H0⟩:=c3;simp only[BH,and_true]at e0;subst e0;obtain⟨H,B0,r0,J,l0⟩:=qO H0;have ab:ic P w (λk=>k<w.heap.size/\k∉([b0,[]]:List (List Nat)).flatten) [e'] .bool M v1:=ab;have hy:gK e xs (λy=>M (cv y.1,()))=some y:=hy;simp only[BD,BE,BC]at b5 cw ab ⊢;unfold gK at hy;split at hy
 rotate_left
 ·cases hy
 rename_i cp;obtain⟨ys,bb,rfl⟩:=BB.1 hy;obtain⟨a5,rfl⟩:=rO bb;simp only at a5;have Z:∀ k∈b0,k<w.heap.size:=H0.lt;have hT:e.den=e'.den:=jq ba;have c1:nW (xs.map cv) M (ad (xs.map cv,M,())):=e6 _ _ (by rw[BF];exact cp) (λx hx=>by
  obtain⟨x',eg,rfl⟩:=List.mem_map.1 hx;exact a5 x' eg)
 have f1:Rd w (λk=>k<w.heap.size) (.list false E e') (xs.map cv) [v0] :=
  Rd.flags (a:=.list true E e) (by simp only[Ty.sh,ba]) (Au hT cv dc xs) (Mx.rd (λk r=>(cw k r).1) Z c4)
 have a1:∀ (i:Int) (u:ai [PK.rd (.list false E e'),PK.fn [e'] .bool]),ad (xs.map cv,M,())=some ((i,()),u)->Calls P idx #[v0,v1] w (λe w'=>e=.returned (.int .i64 i)/\Below w.heap.size w w'):=by
  intro i u hi;have:=cb.2 w (λk=>k<w.heap.size) (xs.map cv,M,()) [v0,v1] [[],[]] _
   ⟨v0,[v1],[],[[]],rfl,rfl,⟨rfl,[v0],rfl,f1⟩,v1,[],[],[],rfl,rfl,⟨rfl,ic.mono (λk r=>⟨r.1,by simp⟩) ab⟩,rfl,rfl⟩
   (λk r=>⟨r,by simp⟩) (by simp) hi
  refine this.mono λe w' hp=>?_
  obtain⟨v,us,N,fl,g2,rfl,a2,ex,f5,ev,f7,f0,_,_,cc,_,_⟩:=hp;refine⟨?_,⟨f5,ev,f7,ex,λk r=>f0 k r (by simp)⟩⟩;obtain⟨u,fo,b,fc,e1,e2,⟨cs,X,hm⟩,e3,e4⟩:=cc;subst e3;subst e1;have a2:v=u:=a2;subst a2;have X:cs=[v]:=X;have hm:cs=[.int .i64 i]:=hm.1;rw[X]at hm;simp only[BH,and_true]at hm;rw[hm]
 have a6:∀ (ys:List e.den) (v':Value) (w':World) (b4:List Value) (B':List Nat),Row w' E e.cells v' ys.length b4->w.grownBy w' v0.ownBlock->v'.ownBlock=v0.ownBlock->Els w (λ_=>False) e ys b4 B'->B'.Sublist B0 ->
   tt ⟨f,[.own (.list true E e),.fn [e'] .bool],[.v (.list true E e)],O,λx=>gK e x.1 (λy=>x.2.1 (cv y.1,()))⟩ w ro [v0,v1] [b0,[]] ((ys,()),()) (.returned v') w':=by
  intro ys v' w' b4 B' r' z a4 L a0;have I:b0.Nodup:=b5;have hB:∀ k∈B',w'.heap[k]?=w.heap[k]?:=λk r=>by
   have e7:k∈B0:=a0.subset r;refine z.block k (Z k (by rw[J];exact BJ _ e7)) λh=>?_
   rw[J]at I;exact (BS.1 I).2.2 k (by rw[<- h];simp) k e7 rfl
  have L':Els w' (λk=>False\/(O=false/\ro k)) e ys b4 B':=L.carry (λ_ h=>h.elim) (λ_ h=>h.elim) hB;have R:=vj r' L';rw[a4]at R;have Y:(v0.ownBlock.toList++B').Sublist b0:=by rw[J];exact (BG _).append a0
  refine⟨v',[v'],λ_=>False,[[],[]],[v0.ownBlock.toList++B'],rfl,rfl,z.size,z.os,z.tape,z.output,?_,?_,?_,?_,?_,?_⟩
  ·intro k r hn;refine z.block k r (λh=>hn ?_);simp only[BD,BE,BC];rw[J];exact BK _ (by rw[<- h];simp)
  ·intro k h;exact h.elim
  ·exact⟨rfl,rfl,trivial⟩
  ·refine⟨v',[],_,[],rfl,rfl,⟨[v'],rfl,?_⟩,rfl,rfl⟩;rw[bH (by simp)];exact⟨v',rfl,R⟩
  ·simp only[BD,BE,BC,BX];exact b5.sublist Y
  ·intro k r;simp only[BD,BE,BC,BX]at r;refine⟨⟨BO (Z k (Y.subset r)) z.size,.inr ?_⟩,λh=>h⟩;simp only[BD,BE,BC];exact Y.subset r
 have c2:Els w (λ_=>False) e xs H B0:=l0.deep hd;rcases c1 with ⟨eb,u,hi⟩|⟨p,x,u,hx,ed,b3,hi⟩
 ·have bb:xs.filter (λx=>!decide (M (cv x,())=some true))=xs:=by
   rw[List.filter_eq_self];intro a ha;rw[eb (cv a) (List.mem_map_of_mem ha)];simp
  refine (a3.none_ w v0 v1 xs.length H r0 (a1 _ _ hi)).mono λen w'=>?_
  rintro⟨rfl,hb⟩;rw[bb];exact a6 xs v0 w' H B0 (r0.same (λk r=>hb.block k (r0.lt k r))) ⟨hb.os,hb.tape,hb.output,hb.size,λk r _=>hb.block k r⟩ rfl c2 (BG _)
 ·obtain⟨fi,d2,rfl,f2,c0⟩:=ab;have b2:p<xs.length:=by
   have:=(List.getElem?_eq_some_iff.1 hx).1
   rwa [BF]at this
  have ej:=r0;rcases r0.2 with ⟨_,h⟩|⟨g,em,fz,mk,rfl,hg,fx,fv,g4,f6⟩
  ·exact absurd b2 (by rw[h];omega)
  obtain⟨b6,hB,ec⟩:=c2.to;have I:b0.Nodup:=b5;rw[J]at I;have f4:∀ k∈B0,k≠g:=λk r h=>(BS.1 I).2.2 g (by simp[BY]) k r h.symm
  have bl:∀ (j:Nat) (x:e.den),xs[j]?=some x->(λj=>match xs[j]? with|some x=>decide (M (cv x,())=some true)|none=>false) j=decide (M (cv x,())=some true):=λj x hj=>by simp only[hj]
  obtain⟨B',L,a0,et⟩:=ze c2 (λx=>decide (M (cv x,())=some true)) _ bl;have b9:∀ j,(xs.map cv)[j]?=(xs[j]?).map cv:=λj=>BT
  refine (a3.some_ w g xs.length em H fi d2 (λj=>match xs[j]? with|some x=>decide (M (cv x,())=some true)|none=>false) p ej l0.one f2 b2 ?_ ?_ ?_ (a1 _ _ hi)).mono λen w'=>?_
  ·rw[b9,BA b2,Option.map_some,BP]at hx;simp only[BA b2,hx,ed,decide_true]
  ·intro j hj;have d1:j<xs.length:=by omega
   have:=b3 j (cv xs[j]) hj (by rw[b9,BA d1];rfl);simp only[BA d1,this];simp
  ·intro w1 cy cx j hj;have c6:=BA hj;obtain⟨c,h3,h4⟩:=ec j xs[j] c6;have hc:(H.drop (j*e.cells)).take e.cells=c:=by
    refine BR λi=>?_
    rw[BL];split
    ·rename_i hi;have c5:i<c.length:=by rw[h3.len];exact hi
     rw[BM,h4 i c[i] (BA c5),BA c5]
    ·rename_i hi;exact (BI (by rw[h3.len];omega)).symm
   rw[hc];have d3:∀ k∈b6 j,k∈B0:=λk r=>by rw[hB];exact dV.2 ⟨j,hj,r⟩
   have e5:∀ k∈b6 j,k<w.heap.size:=λk r=>Z k (by rw[J];exact BJ _ (d3 k r))
   have M1:Mx w1 (λ_=>False) e none 0 xs[j] c (b6 j):=h3.carry (λ_ h=>h) (λ_ h=>h.elim) (λk r=>cx k (e5 k r) (f4 k (d3 k r)));have R1:Rd w1 (λk=>k<w1.heap.size) e' (cv xs[j]) c:=Rd.flags ba (dc _) (Mx.rd (λ_ h=>h.elim) (λk r=>BO (e5 k r) cy) M1);obtain⟨b,hb⟩:=a5 xs[j] (List.getElem_mem hj);have:=c0 w1 cy (λk r=>cx k r.1 (λh=>r.2 (by rw[h,J];exact BK _ (by simp[BY])))) (cv xs[j],()) [.agg c.toArray] b ⟨.agg c.toArray,c,[],rfl,by unfold da;rw[dd];rfl,R1,rfl⟩ hb;refine Calls.mono (h:=this) λe2 w2 hp=>?_
   obtain⟨u,cu,rfl,X,a9,f8⟩:=hp;have X:cu=[u]:=X;have a9:cu=[.bool b]:=a9;rw[X]at a9;simp only[BH,and_true]at a9;refine⟨?_,f8⟩;rw[a9];simp only[c6,hb];cases b <;> simp
  ·rintro⟨v',rfl,r',z,a4⟩;rw[<- et]at r';exact a6 _ v' w' _ B' r' z a4 L a0
theorem mA:∀ a:Ty,a.hd.cells=a.cells
 |.pair a b=>by show a.hd.cells+b.hd.cells=a.cells+b.cells;rw[mA a,mA b]
 |.list _ _ _=>rfl
 |.int _=>rfl
 |.bool=>rfl
 |.str=>rfl
 |.unit=>rfl
 |.hdr=>rfl
theorem Mx.hd {w w':World}{G G':Nat->Prop}:∀ {a:Ty} {pos:Nat} {x:a.den} {cs:List Value} {bs:List Nat},a.sh=a->Mx w G a none pos x cs bs->Mx w' G' a.hd none pos (hdD a x) cs bs
 |.int _,_,_,_,_,_,h=>h
 |.bool,_,_,_,_,_,h=>h
 |.str,_,_,_,_,_,h=>h
 |.unit,_,_,_,_,_,h=>h
 |.hdr,_,_,_,_,_,h=>h
 |.pair a b,pos,x,_,_,r,⟨I,O,z,R,H,J,y,M⟩=>by
  simp only[Ty.sh,Ty.pair.injEq]at r;exact⟨I,O,z,R,H,J,Mx.hd r.1 y,Mx.hd r.2 (Mx.pos M)⟩
 |.list m E e,_,X,cs,bs,r,h=>by
  simp only[Ty.sh,Ty.list.injEq]at r;obtain⟨rfl,_⟩:=r;rw[cq]at h;obtain⟨A,u,y,_⟩:=h.2;exact⟨⟨A,u,y⟩,h.1⟩
theorem Bo {P:Program}{f:FuncId}{E:TypeId}{e:Ty}{r:Nat}{fr:Bool}(he:e.sh=e)
  (hs:bP P ⟨f,[.rd (.list false E e)],[.v (.list true E e)],fr,λx=>fJ e r x.1⟩):bP P ⟨f,[.rd (.list false E e)],[.v (.list true E e.hd)],true,λx=>zu e r x.1⟩:=by
 refine⟨hs.1,λw ro x vs a9 y H a0 a6 hy=>?_⟩;obtain⟨z,hz,rfl⟩:=BB.1 hy;obtain⟨⟨xs,⟨⟩⟩,⟨⟩⟩:=z;refine (hs.2 w ro x vs a9 _ H a0 a6 hz).mono λen w' hp=>?_
 obtain⟨v,us,N,R,a5,h1,O,ab,b3,a4,a1,b4,hN,J,X,Y,I⟩:=hp;obtain⟨u,a3,b,M,e1,e2,⟨cs,a2,hm⟩,e3,e4⟩:=X;refine⟨v,us,N,R,a5,h1,O,ab,b3,a4,a1,b4,hN,?_,⟨u,a3,b,M,e1,e2,⟨cs,a2,?_⟩,e3,e4⟩,Y,I⟩
 ·obtain⟨v1,b6,b1,b5,rfl,rfl,_,rfl,rfl⟩:=H
  match R,J with
  |[b2],J=>exact J
  |[],J=>exact J.elim
  |_::_::_,J=>exact (J.2:False).elim
 ·rw[bH (by simp)]at hm ⊢;obtain⟨v2,h2,Z,b0,h3,h4,h5⟩:=hm;refine⟨v2,h2,Z,b0,?_,?_,λj y hj=>?_⟩
  ·rw[mA,BF];exact h3
  ·rw[BF];exact h4
  ·rw[BT]at hj;obtain⟨x',ad,rfl⟩:=BB.1 hj;obtain⟨c,h6,h7⟩:=h5 j x' ad;exact⟨c,h6.hd he,λi u hi=>by rw[mA];exact h7 i u hi⟩
end Go.Proofs.YtaelpfghkndliaaGreatEv
