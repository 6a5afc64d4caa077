/- Elements side by side; slices.Insert: from what its walk says to its contract. -/
import Derived.Test.YtaegajachoklkaaGreatE3
import Derived.Test.YtaegajachoklkaaGreatE0
set_option linter.unusedVariables false
set_option linter.unusedSimpArgs false
open List renaming mem_append_left->BD,mem_append_right->BE,nodup_append->BF,append_assoc->BG,flatten_cons->BH,flatten_nil->BI,append_nil->BJ,nil_append->BK,length_cons->BL,getElem?_eq_getElem->BM,range_succ_eq_map->BO,mem_append->BP,take_append_drop->BQ,flatMap_cons->BS,flatMap_map->BU,range->BW
open List.cons renaming injEq->BV
open Nat renaming succ_mul->BN,lt_of_lt_of_le->BR
open Option.some renaming injEq->BT
namespace Go.Proofs.YtaegajachoklkaaGreatEv
open Go Go.RowKit
def Els (w:World)(G:Nat->Prop)(e:Ty):List e.den->List Value->List Nat->Prop
 |[],u,B=>u=[]/\B=[]
 |x::z,u,B=>∃ c b r y,u=c++r/\B=b++y/\Mx w G e none 0 x c b/\Els w G e z r y
theorem Els.len {w:World}{G:Nat->Prop}{e:Ty}:∀ {xs:List e.den} {flat:List Value} {B:List Nat},Els w G e xs flat B->flat.length=xs.length*e.cells
 |[],_,_,⟨h,_⟩=>by rw[h];simp
 |x::xs,_,_,⟨c,b,f,z,u,_,r,y⟩=>by
  rw[u,List.length_append,r.len,Els.len y,BL,BN];omega
theorem Els.one {w:World}{G:Nat->Prop}{e:Ty}:∀ {xs:List e.den} {flat:List Value} {B:List Nat},Els w G e xs flat B->∀ u∈flat,u.oneCell'=true
 |[],_,_,⟨h,_⟩=>by rw[h];simp
 |x::xs,_,_,⟨c,b,f,I,H,_,z,y⟩=>by
  rw[H];intro u r;rcases BP.1 r with r|r
  ·exact z.one u r
  ·exact Els.one y u r
theorem Els.append {w:World}{G:Nat->Prop}{e:Ty}:∀ {xs H:List e.den} {f u:List Value} {B r:List Nat},Els w G e xs f B->Els w G e H u r->Els w G e (xs++H) (f++u) (B++r)
 |[],_,_,_,_,_,⟨z,y⟩,h=>by rw[z,y];exact h
 |x::xs,H,_,u,_,r,⟨c,b,J,B0,z,y,I,M⟩,h=>⟨c,b,J++u,B0++r,by rw[z,BG],by rw[y,BG],I,Els.append M h⟩
theorem Els.split {w:World}{G:Nat->Prop}{e:Ty}:∀ {xs H:List e.den} {f:List Value} {B:List Nat},Els w G e (xs++H) f B->∃ r z u y,f=r++z/\B=u++y/\Els w G e xs r u/\Els w G e H z y
 |[],_,f,B,h=>⟨[],f,[],B,rfl,rfl,⟨rfl,rfl⟩,h⟩
 |x::xs,H,_,_,⟨c,b,f0,B0,Y,M,O,Z⟩=>by
  obtain⟨r,z,u,y,X,I,R,J⟩:=Els.split Z;exact⟨c++r,z,b++u,y,by rw[Y,X,BG],by rw[M,I,BG],⟨c,b,r,u,rfl,rfl,O,R⟩,J⟩
theorem Els.carry {w w':World}{G G':Nat->Prop}(z:∀ k,G k->G' k)(y:∀ k,G k->w'.heap[k]?=w.heap[k]?){e:Ty}:∀ {xs:List e.den} {f:List Value} {B:List Nat},(∀ k∈B,w'.heap[k]?=w.heap[k]?)->Els w G e xs f B->Els w' G' e xs f B
 |[],_,_,_,h=>h
 |x::xs,_,_,H,⟨c,b,J,B0,M,r,I,O⟩=>⟨c,b,J,B0,M,r,I.carry z y (λk u=>H k (by rw[r];exact BD _ u)),Els.carry z y (λk u=>H k (by rw[r];exact BE _ u)) O⟩
theorem yn {w:World}{G:Nat->Prop}{e:Ty}:∀ (xs:List e.den) (flat:List Value) (r:Nat->List Nat),flat.length=xs.length*e.cells ->
  (∀ j (x:e.den),xs[j]?=some x->∃ c,Mx w G e none 0 x c (r j)/\∀ i u,c[i]?=some u->flat[j*e.cells+i]?=some u)->Els w G e xs flat ((BW xs.length).flatMap r)
 |[],flat,r,H,_=>⟨List.eq_nil_of_length_eq_zero (by simpa using H),by simp⟩
 |x::xs,flat,r,H,h=>by
  obtain⟨c,M,R⟩:=h 0 x rfl;have hc:=M.len;rw[BL,BN]at H;have I:flat.take e.cells=c:=by
   refine List.ext_getElem? λj=>?_
   rw[List.getElem?_take];split
   ·rename_i J;have z:j<c.length:=by omega
    have:=R j c[j] (BM z);rw[Nat.zero_mul,Nat.zero_add]at this;rw[this,BM z]
   ·rename_i J;exact (List.getElem?_eq_none (by omega)).symm
  refine⟨c,r 0,flat.drop e.cells,(BW xs.length).flatMap λj=>r (j+1),by rw[<- I,BQ],?_,M,?_⟩
  ·rw[BL,BO,BS,BU]
  ·refine yn xs (flat.drop e.cells) (λj=>r (j+1)) (by rw[List.length_drop];omega) λj y J=>?_
   obtain⟨X,Y,Z⟩:=h (j+1) y (by simpa using J);refine⟨X,Y,λi u O=>?_⟩;rw[List.getElem?_drop,<- Z i u O,BN];congr 1;omega
theorem Els.to {w:World}{G:Nat->Prop}{e:Ty}:∀ {xs:List e.den} {flat:List Value} {B:List Nat},Els w G e xs flat B ->
  ∃ r:Nat->List Nat,B=(BW xs.length).flatMap r/\∀ j (x:e.den),xs[j]?=some x->∃ c,Mx w G e none 0 x c (r j)/\∀ i u,c[i]?=some u->flat[j*e.cells+i]?=some u
 |[],_,_,⟨_,h⟩=>⟨λ_=>[],by rw[h];simp,by simp⟩
 |x::xs,_,_,⟨c,b,f,B',M,X,J,h4⟩=>by
  obtain⟨r,Z,R⟩:=Els.to h4;refine⟨λj=>match j with|0=>b|j+1=>r j,?_,λj y I=>?_⟩
  ·rw[X,Z,BL,BO,BS,BU]
  ·have hc:=J.len;cases j with
   |zero =>
    simp only[List.getElem?_cons_zero,BT]at I;subst I;refine⟨c,J,λi u z=>?_⟩;have H:=(List.getElem?_eq_some_iff.1 z).1;rw[M,Nat.zero_mul,Nat.zero_add,List.getElem?_append_left H];exact z
   |succ j =>
    obtain⟨Y,O,h8⟩:=R j y (by simpa using I);refine⟨Y,O,λi u z=>?_⟩;rw[M,BN,List.getElem?_append_right (by omega),<- h8 i u z];congr 1;omega
theorem qT {w:World}{G:Nat->Prop}{E:TypeId}{e:Ty}{xs:List e.den}{v:Value}{bs:List Nat}(h:OwB w G none E e xs v bs):∃ r B,Row w E e.cells v xs.length r/\bs=v.ownBlock.toList++B/\Els w G e xs r B:=by
 obtain⟨r,u,y,z,H⟩:=h;exact⟨r,_,y,z,yn xs r u y.1 (λj x J=>by obtain⟨c,M,I⟩:=H j x J;exact⟨c,M,I⟩)⟩
theorem vA {w:World}{G:Nat->Prop}{E:TypeId}{e:Ty}{xs:List e.den}{v:Value}{flat:List Value}{B:List Nat}(J:Row w E e.cells v xs.length flat)(y:Els w G e xs flat B):OwB w G none E e xs v (v.ownBlock.toList++B):=by
 obtain⟨r,z,M⟩:=y.to;exact⟨flat,r,J,by rw[z],λj x I=>by obtain⟨c,H,u⟩:=M j x I;exact⟨c,H,u⟩⟩
theorem Els.deep {w:World}{G G':Nat->Prop}{e:Ty}(r:e.shy=false):∀ {xs:List e.den} {f:List Value} {B:List Nat},Els w G e xs f B->Els w G' e xs f B
 |[],_,_,h=>h
 |x::xs,_,_,⟨c,b,z,B0,H,u,y,I⟩=>⟨c,b,z,B0,H,u,y.deep r,Els.deep r I⟩
def lR (P:Program)(f:FuncId)(E:TypeId)(s z:Nat):Prop :=
 ∀ (w:World) (H J:Value) (n m i:Nat) (r y:List Value),Row w E s H n r->Row w E s J m y->(∀ u∈r,u.oneCell'=true)->(∀ u∈y,u.oneCell'=true)->0<m->i<=n ->
  (∀ k∈H.ownBlock.toList,k∉J.ownBlock.toList)->(n+m)*z<=140737488355328 ->
  Calls P f #[H,.int .i64 i,J] w λe M=>∃ I,e=.returned I/\Row M E s I (n+m) (r.take (i*s)++y++r.drop (i*s))/\w.grownBy M H.ownBlock/\(I.ownBlock=H.ownBlock\/I.ownBlock=some w.heap.size)
theorem kI {P:Program}{f:FuncId}{E:TypeId}{e:Ty}{J:Nat}{M:Bool}(hE:fQ P f)(hd:e.shy=false\/M=false)(bb:lR P f E e.cells J) :
  bO P ⟨f,[.own (.list true E e),.rd (.int .i64),.own (.list true E e)],[.v (.list true E e)],M,λx=>iz e J x.1 x.2.1 x.2.2.1⟩:=by
 refine⟨hE,?_⟩;intro w ro x vs e1 y b5 b3 Y z;obtain⟨xs,i,zs,_⟩:=x;obtain⟨v0,dc,b0,e5,rfl,rfl,⟨d1,ad,bl⟩,v1,e6,b1,d3,rfl,rfl,⟨cx,cb,ba,a6⟩,v2,e4,b2,dd,rfl,rfl,⟨cw,b9,c1⟩,rfl,rfl⟩:=b5;have ad:d1=[v0]:=ad;have ba:cb=[v1]:=ba;have b9:cw=[v2]:=b9;subst ad ba b9 cx;have a6:[v1]=[Value.int .i64 i]:=a6;simp only[BV,and_true]at a6;subst a6;rw[bI (by simp)]at bl c1;obtain⟨u0,e0,H0⟩:=bl;obtain⟨u2,e2,H2⟩:=c1;simp only[BV,and_true]at e0 e2;subst e0 e2;obtain⟨Z,B0,r0,u,l0⟩:=qT H0;obtain⟨bn,B2,r2,a1,l2⟩:=qT H2;have z:iz e J xs i zs=some y:=z;unfold iz at z;split at z
 ·rename_i hc;obtain⟨cy,e3,hm,cu⟩:=hc;simp only[BT]at z;subst z;obtain⟨j,rfl⟩:∃ j:Nat,i=(j:Int):=Int.eq_ofNat_of_zero_le cy;have hj:j<=xs.length:=by omega
  simp only[BH,BI,BJ,BK]at Y b3 ⊢;have a3:∀ k∈b0,k∉b2:=λk I X=>(BF.1 Y).2.2 k I k X rfl
  refine (bb w v0 v2 xs.length zs.length j Z bn r0 r2 l0.one l2.one hm hj (λk I X=>a3 k (by rw[u];exact BD _ I) (by rw[a1];exact BD _ X)) (by simpa only[ak]using cu)).mono λen w'=>?_
  rintro⟨v',rfl,r',hgr,hown⟩;have hx:xs=xs.take j++xs.drop j:=(BQ j xs).symm;have c0:=l0;rw[hx]at c0;obtain⟨f1,f2,C1,C2,ef,ec,l1,l3⟩:=Els.split c0;have c3:f1.length=j*e.cells:=by rw[l1.len,List.length_take,Nat.min_eq_left hj]
  have et:Z.take (j*e.cells)=f1:=by rw[ef];exact List.take_left' c3
  have ed:Z.drop (j*e.cells)=f2:=by rw[ef];exact List.drop_left' c3
  rw[et,ed]at r';have O:b0.Nodup:=(BF.1 Y).1;have d2:b2.Nodup:=(BF.1 Y).2.1;have a5:∀ k∈b0,k<w.heap.size:=H0.lt;have a9:∀ k∈b2,k<w.heap.size:=H2.lt;have H:∀ k,k<w.heap.size->k∉v0.ownBlock.toList->w'.heap[k]?=w.heap[k]?:=λk r hn=>hgr.block k r (λh=>hn (by rw[<- h];simp))
  have c4:∀ k∈B0,w'.heap[k]?=w.heap[k]?:=λk r=>H k (a5 k (by rw[u];exact BE _ r)) (λh=>by
   rw[u]at O;exact (BF.1 O).2.2 k h k r rfl)
  have cc:∀ k∈B2,w'.heap[k]?=w.heap[k]?:=λk r=>H k (a9 k (by rw[a1];exact BE _ r)) (λh=>a3 k (by rw[u];exact BD _ h) (by rw[a1];exact BE _ r))
  have b4:∀ k,(λ_:Nat=>False) k->w'.heap[k]?=w.heap[k]?:=λ_ h=>h.elim
  have c2:∀ k,ro k->w'.heap[k]?=w.heap[k]?:=λk r=>H k (b3 k r).1 (λh=>(b3 k r).2 (BD _ (by rw[u];exact BD _ h)))
  have hL:∀ {ys:List e.den} {f:List Value} {B:List Nat},Els w ro e ys f B->(∀ k∈B,w'.heap[k]?=w.heap[k]?)->Els w' (λk=>False\/(M=false/\ro k)) e ys f B:=λh hB=>by
   rcases hd with hd|hf
   ·exact (h.deep (G':=λ_=>False) hd).carry (λ_ h=>h.elim) b4 hB
   ·exact h.carry (λk r=>.inr ⟨hf,r⟩) c2 hB
  have L1:=hL l1 λk r=>c4 k (by rw[ec];exact BD _ r)
  have L3:=hL l3 λk r=>c4 k (by rw[ec];exact BE _ r)
  have L2:=hL l2 cc;have L:=(L1.append L2).append L3;have bx:(xs.take j++zs++xs.drop j).length=xs.length+zs.length:=by simp;omega
  rw[<- bx]at r';have R:=vA r' L;have a2:(C1++B2++C2).Perm (B0++B2):=by
   rw[ec,BG,BG];exact List.Perm.append_left C1 List.perm_append_comm
  have cp:(B0++B2).Nodup:=by
   rw[u,a1]at Y;have I:=BF.1 Y;refine BF.2 ⟨(BF.1 I.1).2.1,(BF.1 I.2.1).2.1,λa ha b hb=>I.2.2 a (BE _ ha) b (BE _ hb)⟩
  have a4:∀ k,k∈C1++B2++C2->k∈b0++b2/\k<w.heap.size/\k∉v0.ownBlock.toList:=by
   intro k r;rcases BP.1 (a2.mem_iff.1 r) with h|h
   ·have I:k∈b0:=by rw[u];exact BE _ h
    refine⟨BD _ I,a5 k I,λX=>?_⟩;rw[u]at O;exact (BF.1 O).2.2 k X k h rfl
   ·have I:k∈b2:=by rw[a1];exact BE _ h
    exact⟨BE _ I,a9 k I,λX=>a3 k (by rw[u];exact BD _ X) I⟩
  have a0:∀ k∈v'.ownBlock.toList,(k∈v0.ownBlock.toList\/k=w.heap.size):=by
   intro k r;rcases hown with h|h
   ·rw[h]at r;exact .inl r
   ·rw[h]at r;simp at r;exact .inr r
  refine⟨v',[v'],λ_=>False,[[],[],[]],[v'.ownBlock.toList++(C1++B2++C2)],rfl,rfl,hgr.size,hgr.os,hgr.tape,hgr.output,?_,?_,?_,?_,?_,?_⟩
  ·intro k r hn;refine H k r (λh=>hn ?_);simp only[BH,BI,BJ,BK];exact BD _ (by rw[u];exact BD _ h)
  ·intro k h;exact h.elim
  ·exact⟨rfl,rfl,rfl,trivial⟩
  ·refine⟨v',[],_,[],rfl,rfl,⟨[v'],rfl,?_⟩,rfl,rfl⟩;rw[bI (by simp)];exact⟨v',rfl,R⟩
  ·simp only[BH,BI,BJ,BK];refine BF.2 ⟨?_,a2.nodup_iff.2 cp,λa ha b hb=>?_⟩
   ·cases v'.ownBlock <;> simp
   ·rintro rfl;obtain⟨_,X,h3⟩:=a4 a hb;rcases a0 a ha with h|h
    ·exact h3 h
    ·omega
  ·intro k r;simp only[BH,BI,BJ,BK]at r;refine⟨?_,λh=>h⟩;rcases BP.1 r with h|h
   ·rcases a0 k h with X|X
    ·have h3:k∈b0:=by rw[u];exact BD _ X
     refine⟨BR (a5 k h3) hgr.size,.inr ?_⟩;simp only[BH,BI,BJ,BK];exact BD _ h3
    ·exact⟨r'.lt k h,.inl (by omega)⟩
   ·obtain⟨I,X,_⟩:=a4 k h;refine⟨BR X hgr.size,.inr ?_⟩;simp only[BH,BI,BJ,BK];exact I
 ·cases z
end Go.Proofs.YtaegajachoklkaaGreatEv
