/- Elements side by side; slices.Insert: from what its walk says to its contract. -/
import Derived.Test.YtaegajachoklkaaGreatE3
import Derived.Test.YtaegajachoklkaaGreatE0
set_option linter.unusedVariables false
set_option linter.unusedSimpArgs false
open List renaming mem_append_left->AT,mem_append_right->AU,nodup_append->AV,append_assoc->AW,flatten_cons->AX,flatten_nil->AY,append_nil->AZ,nil_append->BA,length_cons->BB,getElem?_eq_getElem->BC,range_succ_eq_map->BE,mem_append->BF,take_append_drop->BG,flatMap_cons->BI,flatMap_map->BK,range->BM
open List.cons renaming injEq->BL
open Nat renaming succ_mul->BD,lt_of_lt_of_le->BH
open Option.some renaming injEq->BJ
namespace Go.Proofs.YtaegajachoklkaaGreatEv
open Go Go.RowKit
def Els (w:World)(G:Nat->Prop)(e:Ty):List e.den->List Value->List Nat->Prop
 |[],r,B=>r=[]/\B=[]
 |x::z,r,B=>∃ c b u y,r=c++u/\B=b++y/\Mx w G e none 0 x c b/\Els w G e z u y
theorem Els.len {w:World}{G:Nat->Prop}{e:Ty}:∀ {xs:List e.den} {flat:List Value} {B:List Nat},Els w G e xs flat B->flat.length=xs.length*e.cells
 |[],_,_,⟨h,_⟩=>by rw[h];simp
 |x::xs,_,_,⟨c,b,f,z,y,_,u,r⟩=>by
  rw[y,List.length_append,u.len,Els.len r,BB,BD];omega
theorem Els.one {w:World}{G:Nat->Prop}{e:Ty}:∀ {xs:List e.den} {flat:List Value} {B:List Nat},Els w G e xs flat B->∀ u∈flat,u.oneCell'=true
 |[],_,_,⟨h,_⟩=>by rw[h];simp
 |x::xs,_,_,⟨c,b,f,I,H,_,z,y⟩=>by
  rw[H];intro u r;rcases BF.1 r with r|r
  ·exact z.one u r
  ·exact Els.one y u r
theorem Els.append {w:World}{G:Nat->Prop}{e:Ty}:∀ {xs H:List e.den} {f r:List Value} {B u:List Nat},Els w G e xs f B->Els w G e H r u->Els w G e (xs++H) (f++r) (B++u)
 |[],_,_,_,_,_,⟨z,y⟩,h=>by rw[z,y];exact h
 |x::xs,H,_,r,_,u,⟨c,b,I,B0,z,y,J,M⟩,h=>⟨c,b,I++r,B0++u,by rw[z,AW],by rw[y,AW],J,Els.append M h⟩
theorem Els.split {w:World}{G:Nat->Prop}{e:Ty}:∀ {xs H:List e.den} {f:List Value} {B:List Nat},Els w G e (xs++H) f B->∃ u y r z,f=u++y/\B=r++z/\Els w G e xs u r/\Els w G e H y z
 |[],_,f,B,h=>⟨[],f,[],B,rfl,rfl,⟨rfl,rfl⟩,h⟩
 |x::xs,H,_,_,⟨c,b,f0,B0,R,I,O,X⟩=>by
  obtain⟨u,y,r,z,Z,Y,M,J⟩:=Els.split X;exact⟨c++u,y,b++r,z,by rw[R,Z,AW],by rw[I,Y,AW],⟨c,b,u,r,rfl,rfl,O,M⟩,J⟩
theorem Els.carry {w w':World}{G G':Nat->Prop}(y:∀ k,G k->G' k)(z:∀ k,G k->w'.heap[k]?=w.heap[k]?){e:Ty}:∀ {xs:List e.den} {f:List Value} {B:List Nat},(∀ k∈B,w'.heap[k]?=w.heap[k]?)->Els w G e xs f B->Els w' G' e xs f B
 |[],_,_,_,h=>h
 |x::xs,_,_,H,⟨c,b,I,B0,M,r,J,O⟩=>⟨c,b,I,B0,M,r,J.carry y z (λk u=>H k (by rw[r];exact AT _ u)),Els.carry y z (λk u=>H k (by rw[r];exact AU _ u)) O⟩
theorem xB {w:World}{G:Nat->Prop}{e:Ty}:∀ (xs:List e.den) (flat:List Value) (r:Nat->List Nat),flat.length=xs.length*e.cells ->
  (∀ j (x:e.den),xs[j]?=some x->∃ c,Mx w G e none 0 x c (r j)/\∀ i u,c[i]?=some u->flat[j*e.cells+i]?=some u)->Els w G e xs flat ((BM xs.length).flatMap r)
 |[],flat,r,J,_=>⟨List.eq_nil_of_length_eq_zero (by simpa using J),by simp⟩
 |x::xs,flat,r,J,h=>by
  obtain⟨c,M,O⟩:=h 0 x rfl;have hc:=M.len;rw[BB,BD]at J;have I:flat.take e.cells=c:=by
   refine List.ext_getElem? λj=>?_
   rw[List.getElem?_take];split
   ·rename_i H;have z:j<c.length:=by omega
    have:=O j c[j] (BC z);rw[Nat.zero_mul,Nat.zero_add]at this;rw[this,BC z]
   ·rename_i H;exact (List.getElem?_eq_none (by omega)).symm
  refine⟨c,r 0,flat.drop e.cells,(BM xs.length).flatMap λj=>r (j+1),by rw[<- I,BG],?_,M,?_⟩
  ·rw[BB,BE,BI,BK]
  ·refine xB xs (flat.drop e.cells) (λj=>r (j+1)) (by rw[List.length_drop];omega) λj y H=>?_
   obtain⟨Y,R,X⟩:=h (j+1) y (by simpa using H);refine⟨Y,R,λi u Z=>?_⟩;rw[List.getElem?_drop,<- X i u Z,BD];congr 1;omega
theorem Els.to {w:World}{G:Nat->Prop}{e:Ty}:∀ {xs:List e.den} {flat:List Value} {B:List Nat},Els w G e xs flat B ->
  ∃ r:Nat->List Nat,B=(BM xs.length).flatMap r/\∀ j (x:e.den),xs[j]?=some x->∃ c,Mx w G e none 0 x c (r j)/\∀ i u,c[i]?=some u->flat[j*e.cells+i]?=some u
 |[],_,_,⟨_,h⟩=>⟨λ_=>[],by rw[h];simp,by simp⟩
 |x::xs,_,_,⟨c,b,f,B',M,O,J,h4⟩=>by
  obtain⟨r,X,R⟩:=Els.to h4;refine⟨λj=>match j with|0=>b|j+1=>r j,?_,λj y H=>?_⟩
  ·rw[O,X,BB,BE,BI,BK]
  ·have hc:=J.len;cases j with
   |zero =>
    simp only[List.getElem?_cons_zero,BJ]at H;subst H;refine⟨c,J,λi u z=>?_⟩;have I:=(List.getElem?_eq_some_iff.1 z).1;rw[M,Nat.zero_mul,Nat.zero_add,List.getElem?_append_left I];exact z
   |succ j =>
    obtain⟨c',Z,Y⟩:=R j y (by simpa using H);refine⟨c',Z,λi u z=>?_⟩;rw[M,BD,List.getElem?_append_right (by omega),<- Y i u z];congr 1;omega
theorem qy {w:World}{G:Nat->Prop}{E:TypeId}{e:Ty}{xs:List e.den}{v:Value}{bs:List Nat}(h:OwB w G none E e xs v bs):∃ r B,Row w E e.cells v xs.length r/\bs=v.ownBlock.toList++B/\Els w G e xs r B:=by
 obtain⟨r,u,y,z,I⟩:=h;exact⟨r,_,y,z,xB xs r u y.1 (λj x M=>by obtain⟨c,J,H⟩:=I j x M;exact⟨c,J,H⟩)⟩
theorem uP {w:World}{G:Nat->Prop}{E:TypeId}{e:Ty}{xs:List e.den}{v:Value}{flat:List Value}{B:List Nat}(I:Row w E e.cells v xs.length flat)(u:Els w G e xs flat B):OwB w G none E e xs v (v.ownBlock.toList++B):=by
 obtain⟨r,H,J⟩:=u.to;exact⟨flat,r,I,by rw[H],λj x M=>by obtain⟨c,z,y⟩:=J j x M;exact⟨c,z,y⟩⟩
theorem Els.deep {w:World}{G G':Nat->Prop}{e:Ty}(r:e.shy=false):∀ {xs:List e.den} {f:List Value} {B:List Nat},Els w G e xs f B->Els w G' e xs f B
 |[],_,_,h=>h
 |x::xs,_,_,⟨c,b,y,B0,H,u,z,I⟩=>⟨c,b,y,B0,H,u,z.deep r,Els.deep r I⟩
def lx (P:Program)(f:FuncId)(E:TypeId)(s z:Nat):Prop :=
 ∀ (w:World) (H J:Value) (n m i:Nat) (r y:List Value),Row w E s H n r->Row w E s J m y->(∀ u∈r,u.oneCell'=true)->(∀ u∈y,u.oneCell'=true)->0<m->i<=n ->
  (∀ k∈H.ownBlock.toList,k∉J.ownBlock.toList)->(n+m)*z<=140737488355328 ->
  Calls P f #[H,.int .i64 i,J] w λe M=>∃ I,e=.returned I/\Row M E s I (n+m) (r.take (i*s)++y++r.drop (i*s))/\w.grownBy M H.ownBlock/\(I.ownBlock=H.ownBlock\/I.ownBlock=some w.heap.size)
theorem kf {P:Program}{f:FuncId}{E:TypeId}{e:Ty}{M:Nat}{J:Bool}(hE:gv P f)(hd:e.shy=false\/J=false)(bb:lx P f E e.cells M) :
  bT P ⟨f,[.own (.list true E e),.rd (.int .i64),.own (.list true E e)],[.v (.list true E e)],J,λx=>jJ e M x.1 x.2.1 x.2.2.1⟩:=by
 refine⟨hE,?_⟩;intro w ro x vs d4 y b9 b3 X u;obtain⟨xs,i,zs,_⟩:=x;obtain⟨v0,dc,b0,d1,rfl,rfl,⟨cc,b5,c3⟩,v1,dd,b1,d2,rfl,rfl,⟨cu,cw,ad,a6⟩,v2,d5,b2,d6,rfl,rfl,⟨c5,b4,c1⟩,rfl,rfl⟩:=b9;have b5:cc=[v0]:=b5;have ad:cw=[v1]:=ad;have b4:c5=[v2]:=b4;subst b5 ad b4 cu;have a6:[v1]=[Value.int .i64 i]:=a6;simp only[BL,and_true]at a6;subst a6;rw[bB (by simp)]at c3 c1;obtain⟨u0,e0,H0⟩:=c3;obtain⟨u2,e2,H2⟩:=c1;simp only[BL,and_true]at e0 e2;subst e0 e2;obtain⟨a0,B0,r0,z,l0⟩:=qy H0;obtain⟨c4,B2,r2,a3,l2⟩:=qy H2;have u:jJ e M xs i zs=some y:=u;unfold jJ at u;split at u
 ·rename_i hc;obtain⟨cx,d3,hm,cb⟩:=hc;simp only[BJ]at u;subst u;obtain⟨j,rfl⟩:∃ j:Nat,i=(j:Int):=Int.eq_ofNat_of_zero_le cx;have hj:j<=xs.length:=by omega
  simp only[AX,AY,AZ,BA]at X b3 ⊢;have Z:∀ k∈b0,k∉b2:=λk I Y=>(AV.1 X).2.2 k I k Y rfl
  refine (bb w v0 v2 xs.length zs.length j a0 c4 r0 r2 l0.one l2.one hm hj (λk I Y=>Z k (by rw[z];exact AT _ I) (by rw[a3];exact AT _ Y)) (by simpa only[ak]using cb)).mono λen w'=>?_
  rintro⟨v',rfl,r',hgr,hown⟩;have hx:xs=xs.take j++xs.drop j:=(BG j xs).symm;have c2:=l0;rw[hx]at c2;obtain⟨f1,f2,C1,C2,ef,ec,l1,l3⟩:=Els.split c2;have bx:f1.length=j*e.cells:=by rw[l1.len,List.length_take,Nat.min_eq_left hj]
  have et:a0.take (j*e.cells)=f1:=by rw[ef];exact List.take_left' bx
  have ed:a0.drop (j*e.cells)=f2:=by rw[ef];exact List.drop_left' bx
  rw[et,ed]at r';have O:b0.Nodup:=(AV.1 X).1;have cy:b2.Nodup:=(AV.1 X).2.1;have a4:∀ k∈b0,k<w.heap.size:=H0.lt;have a9:∀ k∈b2,k<w.heap.size:=H2.lt;have H:∀ k,k<w.heap.size->k∉v0.ownBlock.toList->w'.heap[k]?=w.heap[k]?:=λk r hn=>hgr.block k r (λh=>hn (by rw[<- h];simp))
  have bl:∀ k∈B0,w'.heap[k]?=w.heap[k]?:=λk r=>H k (a4 k (by rw[z];exact AU _ r)) (λh=>by
   rw[z]at O;exact (AV.1 O).2.2 k h k r rfl)
  have c6:∀ k∈B2,w'.heap[k]?=w.heap[k]?:=λk r=>H k (a9 k (by rw[a3];exact AU _ r)) (λh=>Z k (by rw[z];exact AT _ h) (by rw[a3];exact AU _ r))
  have ba:∀ k,(λ_:Nat=>False) k->w'.heap[k]?=w.heap[k]?:=λ_ h=>h.elim
  have bn:∀ k,ro k->w'.heap[k]?=w.heap[k]?:=λk r=>H k (b3 k r).1 (λh=>(b3 k r).2 (AT _ (by rw[z];exact AT _ h)))
  have hL:∀ {ys:List e.den} {f:List Value} {B:List Nat},Els w ro e ys f B->(∀ k∈B,w'.heap[k]?=w.heap[k]?)->Els w' (λk=>False\/(J=false/\ro k)) e ys f B:=λh hB=>by
   rcases hd with hd|hf
   ·exact (h.deep (G':=λ_=>False) hd).carry (λ_ h=>h.elim) ba hB
   ·exact h.carry (λk r=>.inr ⟨hf,r⟩) bn hB
  have L1:=hL l1 λk r=>bl k (by rw[ec];exact AT _ r)
  have L3:=hL l3 λk r=>bl k (by rw[ec];exact AU _ r)
  have L2:=hL l2 c6;have L:=(L1.append L2).append L3;have c0:(xs.take j++zs++xs.drop j).length=xs.length+zs.length:=by simp;omega
  rw[<- c0]at r';have R:=uP r' L;have a5:(C1++B2++C2).Perm (B0++B2):=by
   rw[ec,AW,AW];exact List.Perm.append_left C1 List.perm_append_comm
  have cp:(B0++B2).Nodup:=by
   rw[z,a3]at X;have I:=AV.1 X;refine AV.2 ⟨(AV.1 I.1).2.1,(AV.1 I.2.1).2.1,λa ha b hb=>I.2.2 a (AU _ ha) b (AU _ hb)⟩
  have a2:∀ k,k∈C1++B2++C2->k∈b0++b2/\k<w.heap.size/\k∉v0.ownBlock.toList:=by
   intro k r;rcases BF.1 (a5.mem_iff.1 r) with h|h
   ·have I:k∈b0:=by rw[z];exact AU _ h
    refine⟨AT _ I,a4 k I,λY=>?_⟩;rw[z]at O;exact (AV.1 O).2.2 k Y k h rfl
   ·have I:k∈b2:=by rw[a3];exact AU _ h
    exact⟨AU _ I,a9 k I,λY=>Z k (by rw[z];exact AT _ Y) I⟩
  have a1:∀ k∈v'.ownBlock.toList,(k∈v0.ownBlock.toList\/k=w.heap.size):=by
   intro k r;rcases hown with h|h
   ·rw[h]at r;exact .inl r
   ·rw[h]at r;simp at r;exact .inr r
  refine⟨v',[v'],λ_=>False,[[],[],[]],[v'.ownBlock.toList++(C1++B2++C2)],rfl,rfl,hgr.size,hgr.os,hgr.tape,hgr.output,?_,?_,?_,?_,?_,?_⟩
  ·intro k r hn;refine H k r (λh=>hn ?_);simp only[AX,AY,AZ,BA];exact AT _ (by rw[z];exact AT _ h)
  ·intro k h;exact h.elim
  ·exact⟨rfl,rfl,rfl,trivial⟩
  ·refine⟨v',[],_,[],rfl,rfl,⟨[v'],rfl,?_⟩,rfl,rfl⟩;rw[bB (by simp)];exact⟨v',rfl,R⟩
  ·simp only[AX,AY,AZ,BA];refine AV.2 ⟨?_,a5.nodup_iff.2 cp,λa ha b hb=>?_⟩
   ·cases v'.ownBlock <;> simp
   ·rintro rfl;obtain⟨_,Y,h3⟩:=a2 a hb;rcases a1 a ha with h|h
    ·exact h3 h
    ·omega
  ·intro k r;simp only[AX,AY,AZ,BA]at r;refine⟨?_,λh=>h⟩;rcases BF.1 r with h|h
   ·rcases a1 k h with Y|Y
    ·have h3:k∈b0:=by rw[z];exact AT _ Y
     refine⟨BH (a4 k h3) hgr.size,.inr ?_⟩;simp only[AX,AY,AZ,BA];exact AT _ h3
    ·exact⟨r'.lt k h,.inl (by omega)⟩
   ·obtain⟨I,Y,_⟩:=a2 k h;refine⟨BH Y hgr.size,.inr ?_⟩;simp only[AX,AY,AZ,BA];exact I
 ·cases u
end Go.Proofs.YtaegajachoklkaaGreatEv
