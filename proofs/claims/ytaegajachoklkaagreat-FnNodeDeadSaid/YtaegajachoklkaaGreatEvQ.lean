/- Elements side by side; slices.Insert: from what its walk says to its contract. -/
import Derived.Test.YtaegajachoklkaaGreatE3
import Derived.Test.YtaegajachoklkaaGreatE0
set_option linter.unusedVariables false
set_option linter.unusedSimpArgs false
open List renaming mem_append_left->BK,mem_append_right->BL,nodup_append->BM,append_assoc->BN,flatten_cons->BO,flatten_nil->BP,append_nil->BQ,nil_append->BR,length_cons->BS,getElem?_eq_getElem->BT,range_succ_eq_map->BV,mem_append->BW,take_append_drop->BX,flatMap_cons->BZ,flatMap_map->B4,range->B6
open List.cons renaming injEq->B5
open Nat renaming succ_mul->BU,lt_of_lt_of_le->BY
open Option.some renaming injEq->B3
namespace Go.Proofs.YtaegajachoklkaaGreatEv
open Go Go.RowKit
def Els (w:World)(G:Nat->Prop)(e:Ty):List e.den->List Value->List Nat->Prop
 |[],r,B=>r=[]/\B=[]
 |x::z,r,B=>∃ c b u y,r=c++u/\B=b++y/\Mx w G e none 0 x c b/\Els w G e z u y
theorem Els.len {w:World}{G:Nat->Prop}{e:Ty}:∀ {xs:List e.den} {flat:List Value} {B:List Nat},Els w G e xs flat B->flat.length=xs.length*e.cells
 |[],_,_,⟨h,_⟩=>by rw[h];simp
 |x::xs,_,_,⟨c,b,f,z,y,_,u,r⟩=>by
  rw[y,List.length_append,u.len,Els.len r,BS,BU];omega
theorem Els.one {w:World}{G:Nat->Prop}{e:Ty}:∀ {xs:List e.den} {flat:List Value} {B:List Nat},Els w G e xs flat B->∀ u∈flat,u.oneCell'=true
 |[],_,_,⟨h,_⟩=>by rw[h];simp
 |x::xs,_,_,⟨c,b,f,I,H,_,z,y⟩=>by
  rw[H];intro u r;rcases BW.1 r with r|r
  ·exact z.one u r
  ·exact Els.one y u r
theorem Els.append {w:World}{G:Nat->Prop}{e:Ty}:∀ {xs y:List e.den} {f r:List Value} {B u:List Nat},Els w G e xs f B->Els w G e y r u->Els w G e (xs++y) (f++r) (B++u)
 |[],_,_,_,_,_,⟨z,H⟩,h=>by rw[z,H];exact h
 |x::xs,y,_,r,_,u,⟨c,b,I,B0,z,H,J,M⟩,h=>⟨c,b,I++r,B0++u,by rw[z,BN],by rw[H,BN],J,Els.append M h⟩
theorem Els.split {w:World}{G:Nat->Prop}{e:Ty}:∀ {xs H:List e.den} {f:List Value} {B:List Nat},Els w G e (xs++H) f B->∃ r y u z,f=r++y/\B=u++z/\Els w G e xs r u/\Els w G e H y z
 |[],_,f,B,h=>⟨[],f,[],B,rfl,rfl,⟨rfl,rfl⟩,h⟩
 |x::xs,H,_,_,⟨c,b,f0,B0,J,O,X,Y⟩=>by
  obtain⟨r,y,u,z,Z,M,I,R⟩:=Els.split Y;exact⟨c++r,y,b++u,z,by rw[J,Z,BN],by rw[O,M,BN],⟨c,b,r,u,rfl,rfl,X,I⟩,R⟩
theorem Els.carry {w w':World}{G G':Nat->Prop}(H:∀ k,G k->G' k)(z:∀ k,G k->w'.heap[k]?=w.heap[k]?){e:Ty}:∀ {xs:List e.den} {f:List Value} {B:List Nat},(∀ k∈B,w'.heap[k]?=w.heap[k]?)->Els w G e xs f B->Els w' G' e xs f B
 |[],_,_,_,h=>h
 |x::xs,_,_,y,⟨c,b,I,B0,J,u,M,O⟩=>⟨c,b,I,B0,J,u,M.carry H z (λk r=>y k (by rw[u];exact BK _ r)),Els.carry H z (λk r=>y k (by rw[u];exact BL _ r)) O⟩
theorem yw {w:World}{G:Nat->Prop}{e:Ty}:∀ (xs:List e.den) (flat:List Value) (r:Nat->List Nat),flat.length=xs.length*e.cells ->
  (∀ j (x:e.den),xs[j]?=some x->∃ c,Mx w G e none 0 x c (r j)/\∀ i u,c[i]?=some u->flat[j*e.cells+i]?=some u)->Els w G e xs flat ((B6 xs.length).flatMap r)
 |[],flat,r,I,_=>⟨List.eq_nil_of_length_eq_zero (by simpa using I),by simp⟩
 |x::xs,flat,r,I,h=>by
  obtain⟨c,M,O⟩:=h 0 x rfl;have hc:=M.len;rw[BS,BU]at I;have H:flat.take e.cells=c:=by
   refine List.ext_getElem? λj=>?_
   rw[List.getElem?_take];split
   ·rename_i J;have z:j<c.length:=by omega
    have:=O j c[j] (BT z);rw[Nat.zero_mul,Nat.zero_add]at this;rw[this,BT z]
   ·rename_i J;exact (List.getElem?_eq_none (by omega)).symm
  refine⟨c,r 0,flat.drop e.cells,(B6 xs.length).flatMap λj=>r (j+1),by rw[<- H,BX],?_,M,?_⟩
  ·rw[BS,BV,BZ,B4]
  ·refine yw xs (flat.drop e.cells) (λj=>r (j+1)) (by rw[List.length_drop];omega) λj y J=>?_
   obtain⟨Z,X,Y⟩:=h (j+1) y (by simpa using J);refine⟨Z,X,λi u R=>?_⟩;rw[List.getElem?_drop,<- Y i u R,BU];congr 1;omega
theorem Els.to {w:World}{G:Nat->Prop}{e:Ty}:∀ {xs:List e.den} {flat:List Value} {B:List Nat},Els w G e xs flat B ->
  ∃ r:Nat->List Nat,B=(B6 xs.length).flatMap r/\∀ j (x:e.den),xs[j]?=some x->∃ c,Mx w G e none 0 x c (r j)/\∀ i u,c[i]?=some u->flat[j*e.cells+i]?=some u
 |[],_,_,⟨_,h⟩=>⟨λ_=>[],by rw[h];simp,by simp⟩
 |x::xs,_,_,⟨c,b,f,B',J,X,M,h4⟩=>by
  obtain⟨r,R,Z⟩:=Els.to h4;refine⟨λj=>match j with|0=>b|j+1=>r j,?_,λj y H=>?_⟩
  ·rw[X,R,BS,BV,BZ,B4]
  ·have hc:=M.len;cases j with
   |zero =>
    simp only[List.getElem?_cons_zero,B3]at H;subst H;refine⟨c,M,λi u z=>?_⟩;have I:=(List.getElem?_eq_some_iff.1 z).1;rw[J,Nat.zero_mul,Nat.zero_add,List.getElem?_append_left I];exact z
   |succ j =>
    obtain⟨c',O,Y⟩:=Z j y (by simpa using H);refine⟨c',O,λi u z=>?_⟩;rw[J,BU,List.getElem?_append_right (by omega),<- Y i u z];congr 1;omega
theorem qW {w:World}{G:Nat->Prop}{E:TypeId}{e:Ty}{xs:List e.den}{v:Value}{bs:List Nat}(h:OwB w G none E e xs v bs):∃ r B,Row w E e.cells v xs.length r/\bs=v.ownBlock.toList++B/\Els w G e xs r B:=by
 obtain⟨r,u,y,H,I⟩:=h;exact⟨r,_,y,H,yw xs r u y.1 (λj x J=>by obtain⟨c,M,z⟩:=I j x J;exact⟨c,M,z⟩)⟩
theorem vB {w:World}{G:Nat->Prop}{E:TypeId}{e:Ty}{xs:List e.den}{v:Value}{flat:List Value}{B:List Nat}(y:Row w E e.cells v xs.length flat)(z:Els w G e xs flat B):OwB w G none E e xs v (v.ownBlock.toList++B):=by
 obtain⟨r,I,M⟩:=z.to;exact⟨flat,r,y,by rw[I],λj x J=>by obtain⟨c,u,H⟩:=M j x J;exact⟨c,u,H⟩⟩
theorem Els.deep {w:World}{G G':Nat->Prop}{e:Ty}(r:e.shy=false):∀ {xs:List e.den} {f:List Value} {B:List Nat},Els w G e xs f B->Els w G' e xs f B
 |[],_,_,h=>h
 |x::xs,_,_,⟨c,b,u,B0,y,z,H,I⟩=>⟨c,b,u,B0,y,z,H.deep r,Els.deep r I⟩
def lS (P:Program)(f:FuncId)(E:TypeId)(s z:Nat):Prop :=
 ∀ (w:World) (H J:Value) (n m i:Nat) (r y:List Value),Row w E s H n r->Row w E s J m y->(∀ u∈r,u.oneCell'=true)->(∀ u∈y,u.oneCell'=true)->0<m->i<=n ->
  (∀ k∈H.ownBlock.toList,k∉J.ownBlock.toList)->(n+m)*z<=140737488355328 ->
  Calls P f #[H,.int .i64 i,J] w λe M=>∃ I,e=.returned I/\Row M E s I (n+m) (r.take (i*s)++y++r.drop (i*s))/\w.grownBy M H.ownBlock/\(I.ownBlock=H.ownBlock\/I.ownBlock=some w.heap.size)
theorem kK {P:Program}{f:FuncId}{E:TypeId}{e:Ty}{M:Nat}{J:Bool}(hE:fT P f)(hd:e.shy=false\/J=false)(bb:lS P f E e.cells M) :
  bO P ⟨f,[.own (.list true E e),.rd (.int .i64),.own (.list true E e)],[.v (.list true E e)],J,λx=>iB e M x.1 x.2.1 x.2.2.1⟩:=by
 refine⟨hE,?_⟩;intro w ro x vs d4 y b3 ad X z;obtain⟨xs,i,zs,_⟩:=x;obtain⟨v0,e3,b0,dc,rfl,rfl,⟨d1,b4,bn⟩,v1,e1,b1,dd,rfl,rfl,⟨cp,cw,b9,a6⟩,v2,e5,b2,e4,rfl,rfl,⟨cc,ba,bx⟩,rfl,rfl⟩:=b3;have b4:d1=[v0]:=b4;have b9:cw=[v1]:=b9;have ba:cc=[v2]:=ba;subst b4 b9 ba cp;have a6:[v1]=[Value.int .i64 i]:=a6;simp only[B5,and_true]at a6;subst a6;rw[bJ (by simp)]at bn bx;obtain⟨u0,e0,H0⟩:=bn;obtain⟨u2,e2,H2⟩:=bx;simp only[B5,and_true]at e0 e2;subst e0 e2;obtain⟨a1,B0,r0,u,l0⟩:=qW H0;obtain⟨c0,B2,r2,Z,l2⟩:=qW H2;have z:iB e M xs i zs=some y:=z;unfold iB at z;split at z
 ·rename_i hc;obtain⟨cu,d3,hm,cy⟩:=hc;simp only[B3]at z;subst z;obtain⟨j,rfl⟩:∃ j:Nat,i=(j:Int):=Int.eq_ofNat_of_zero_le cu;have hj:j<=xs.length:=by omega
  simp only[BO,BP,BQ,BR]at X ad ⊢;have a3:∀ k∈b0,k∉b2:=λk I Y=>(BM.1 X).2.2 k I k Y rfl
  refine (bb w v0 v2 xs.length zs.length j a1 c0 r0 r2 l0.one l2.one hm hj (λk I Y=>a3 k (by rw[u];exact BK _ I) (by rw[Z];exact BK _ Y)) (by simpa only[ak]using cy)).mono λen w'=>?_
  rintro⟨v',rfl,r',hgr,hown⟩;have hx:xs=xs.take j++xs.drop j:=(BX j xs).symm;have c2:=l0;rw[hx]at c2;obtain⟨f1,f2,C1,C2,ef,ec,l1,l3⟩:=Els.split c2;have c4:f1.length=j*e.cells:=by rw[l1.len,List.length_take,Nat.min_eq_left hj]
  have et:a1.take (j*e.cells)=f1:=by rw[ef];exact List.take_left' c4
  have ed:a1.drop (j*e.cells)=f2:=by rw[ef];exact List.drop_left' c4
  rw[et,ed]at r';have O:b0.Nodup:=(BM.1 X).1;have d2:b2.Nodup:=(BM.1 X).2.1;have a4:∀ k∈b0,k<w.heap.size:=H0.lt;have a9:∀ k∈b2,k<w.heap.size:=H2.lt;have H:∀ k,k<w.heap.size->k∉v0.ownBlock.toList->w'.heap[k]?=w.heap[k]?:=λk r hn=>hgr.block k r (λh=>hn (by rw[<- h];simp))
  have c3:∀ k∈B0,w'.heap[k]?=w.heap[k]?:=λk r=>H k (a4 k (by rw[u];exact BL _ r)) (λh=>by
   rw[u]at O;exact (BM.1 O).2.2 k h k r rfl)
  have cx:∀ k∈B2,w'.heap[k]?=w.heap[k]?:=λk r=>H k (a9 k (by rw[Z];exact BL _ r)) (λh=>a3 k (by rw[u];exact BK _ h) (by rw[Z];exact BL _ r))
  have b5:∀ k,(λ_:Nat=>False) k->w'.heap[k]?=w.heap[k]?:=λ_ h=>h.elim
  have bl:∀ k,ro k->w'.heap[k]?=w.heap[k]?:=λk r=>H k (ad k r).1 (λh=>(ad k r).2 (BK _ (by rw[u];exact BK _ h)))
  have hL:∀ {ys:List e.den} {f:List Value} {B:List Nat},Els w ro e ys f B->(∀ k∈B,w'.heap[k]?=w.heap[k]?)->Els w' (λk=>False\/(J=false/\ro k)) e ys f B:=λh hB=>by
   rcases hd with hd|hf
   ·exact (h.deep (G':=λ_=>False) hd).carry (λ_ h=>h.elim) b5 hB
   ·exact h.carry (λk r=>.inr ⟨hf,r⟩) bl hB
  have L1:=hL l1 λk r=>c3 k (by rw[ec];exact BK _ r)
  have L3:=hL l3 λk r=>c3 k (by rw[ec];exact BL _ r)
  have L2:=hL l2 cx;have L:=(L1.append L2).append L3;have c1:(xs.take j++zs++xs.drop j).length=xs.length+zs.length:=by simp;omega
  rw[<- c1]at r';have R:=vB r' L;have a0:(C1++B2++C2).Perm (B0++B2):=by
   rw[ec,BN,BN];exact List.Perm.append_left C1 List.perm_append_comm
  have cb:(B0++B2).Nodup:=by
   rw[u,Z]at X;have I:=BM.1 X;refine BM.2 ⟨(BM.1 I.1).2.1,(BM.1 I.2.1).2.1,λa ha b hb=>I.2.2 a (BL _ ha) b (BL _ hb)⟩
  have a2:∀ k,k∈C1++B2++C2->k∈b0++b2/\k<w.heap.size/\k∉v0.ownBlock.toList:=by
   intro k r;rcases BW.1 (a0.mem_iff.1 r) with h|h
   ·have I:k∈b0:=by rw[u];exact BL _ h
    refine⟨BK _ I,a4 k I,λY=>?_⟩;rw[u]at O;exact (BM.1 O).2.2 k Y k h rfl
   ·have I:k∈b2:=by rw[Z];exact BL _ h
    exact⟨BL _ I,a9 k I,λY=>a3 k (by rw[u];exact BK _ Y) I⟩
  have a5:∀ k∈v'.ownBlock.toList,(k∈v0.ownBlock.toList\/k=w.heap.size):=by
   intro k r;rcases hown with h|h
   ·rw[h]at r;exact .inl r
   ·rw[h]at r;simp at r;exact .inr r
  refine⟨v',[v'],λ_=>False,[[],[],[]],[v'.ownBlock.toList++(C1++B2++C2)],rfl,rfl,hgr.size,hgr.os,hgr.tape,hgr.output,?_,?_,?_,?_,?_,?_⟩
  ·intro k r hn;refine H k r (λh=>hn ?_);simp only[BO,BP,BQ,BR];exact BK _ (by rw[u];exact BK _ h)
  ·intro k h;exact h.elim
  ·exact⟨rfl,rfl,rfl,trivial⟩
  ·refine⟨v',[],_,[],rfl,rfl,⟨[v'],rfl,?_⟩,rfl,rfl⟩;rw[bJ (by simp)];exact⟨v',rfl,R⟩
  ·simp only[BO,BP,BQ,BR];refine BM.2 ⟨?_,a0.nodup_iff.2 cb,λa ha b hb=>?_⟩
   ·cases v'.ownBlock <;> simp
   ·rintro rfl;obtain⟨_,Y,h3⟩:=a2 a hb;rcases a5 a ha with h|h
    ·exact h3 h
    ·omega
  ·intro k r;simp only[BO,BP,BQ,BR]at r;refine⟨?_,λh=>h⟩;rcases BW.1 r with h|h
   ·rcases a5 k h with Y|Y
    ·have h3:k∈b0:=by rw[u];exact BK _ Y
     refine⟨BY (a4 k h3) hgr.size,.inr ?_⟩;simp only[BO,BP,BQ,BR];exact BK _ h3
    ·exact⟨r'.lt k h,.inl (by omega)⟩
   ·obtain⟨I,Y,_⟩:=a2 k h;refine⟨BY Y hgr.size,.inr ?_⟩;simp only[BO,BP,BQ,BR];exact I
 ·cases z
end Go.Proofs.YtaegajachoklkaaGreatEv
