/- Elements side by side; slices.Insert: from what its walk says to its contract. -/
import Derived.Test.YtadlacffdemoiaaGreatE3
import Derived.Test.YtadlacffdemoiaaGreatE0
set_option linter.unusedVariables false
set_option linter.unusedSimpArgs false
open List renaming mem_append_left->B3,mem_append_right->B4,nodup_append->B5,append_assoc->B6,flatten_cons->B7,flatten_nil->B8,append_nil->B9,nil_append->CA,length_cons->CB,getElem?_eq_getElem->CC,range_succ_eq_map->CE,mem_append->CF,take_append_drop->CG,flatMap_cons->CI,flatMap_map->CK,range->CM
open List.cons renaming injEq->CL
open Nat renaming succ_mul->CD,lt_of_lt_of_le->CH
open Option.some renaming injEq->CJ
namespace Go.Proofs.YtadlacffdemoiaaGreatEv
open Go Go.RowKit
def Els (w:World)(G:Nat->Prop)(e:Ty):List e.den->List Value->List Nat->Prop
 |[],r,B=>r=[]/\B=[]
 |x::z,r,B=>∃ c b u y,r=c++u/\B=b++y/\Mx w G e none 0 x c b/\Els w G e z u y
theorem Els.len {w:World}{G:Nat->Prop}{e:Ty}:∀ {xs:List e.den} {flat:List Value} {B:List Nat},Els w G e xs flat B->flat.length=xs.length*e.cells
 |[],_,_,⟨h,_⟩=>by rw[h];simp
 |x::xs,_,_,⟨c,b,f,z,r,_,u,y⟩=>by
  rw[r,List.length_append,u.len,Els.len y,CB,CD];omega
theorem Els.one {w:World}{G:Nat->Prop}{e:Ty}:∀ {xs:List e.den} {flat:List Value} {B:List Nat},Els w G e xs flat B->∀ u∈flat,u.oneCell'=true
 |[],_,_,⟨h,_⟩=>by rw[h];simp
 |x::xs,_,_,⟨c,b,f,I,y,_,z,H⟩=>by
  rw[y];intro u r;rcases CF.1 r with r|r
  ·exact z.one u r
  ·exact Els.one H u r
theorem Els.append {w:World}{G:Nat->Prop}{e:Ty}:∀ {xs H:List e.den} {f u:List Value} {B r:List Nat},Els w G e xs f B->Els w G e H u r->Els w G e (xs++H) (f++u) (B++r)
 |[],_,_,_,_,_,⟨y,z⟩,h=>by rw[y,z];exact h
 |x::xs,H,_,u,_,r,⟨c,b,M,B0,y,z,I,J⟩,h=>⟨c,b,M++u,B0++r,by rw[y,B6],by rw[z,B6],I,Els.append J h⟩
theorem Els.split {w:World}{G:Nat->Prop}{e:Ty}:∀ {xs H:List e.den} {f:List Value} {B:List Nat},Els w G e (xs++H) f B->∃ u y r z,f=u++y/\B=r++z/\Els w G e xs u r/\Els w G e H y z
 |[],_,f,B,h=>⟨[],f,[],B,rfl,rfl,⟨rfl,rfl⟩,h⟩
 |x::xs,H,_,_,⟨c,b,f0,B0,J,M,O,X⟩=>by
  obtain⟨u,y,r,z,I,Z,R,Y⟩:=Els.split X;exact⟨c++u,y,b++r,z,by rw[J,I,B6],by rw[M,Z,B6],⟨c,b,u,r,rfl,rfl,O,R⟩,Y⟩
theorem Els.carry {w w':World}{G G':Nat->Prop}(H:∀ k,G k->G' k)(z:∀ k,G k->w'.heap[k]?=w.heap[k]?){e:Ty}:∀ {xs:List e.den} {f:List Value} {B:List Nat},(∀ k∈B,w'.heap[k]?=w.heap[k]?)->Els w G e xs f B->Els w' G' e xs f B
 |[],_,_,_,h=>h
 |x::xs,_,_,y,⟨c,b,O,B0,I,r,J,M⟩=>⟨c,b,O,B0,I,r,J.carry H z (λk u=>y k (by rw[r];exact B3 _ u)),Els.carry H z (λk u=>y k (by rw[r];exact B4 _ u)) M⟩
theorem yN {w:World}{G:Nat->Prop}{e:Ty}:∀ (xs:List e.den) (flat:List Value) (r:Nat->List Nat),flat.length=xs.length*e.cells ->
  (∀ j (x:e.den),xs[j]?=some x->∃ c,Mx w G e none 0 x c (r j)/\∀ i u,c[i]?=some u->flat[j*e.cells+i]?=some u)->Els w G e xs flat ((CM xs.length).flatMap r)
 |[],flat,r,H,_=>⟨List.eq_nil_of_length_eq_zero (by simpa using H),by simp⟩
 |x::xs,flat,r,H,h=>by
  obtain⟨c,M,O⟩:=h 0 x rfl;have hc:=M.len;rw[CB,CD]at H;have J:flat.take e.cells=c:=by
   refine List.ext_getElem? λj=>?_
   rw[List.getElem?_take];split
   ·rename_i I;have z:j<c.length:=by omega
    have:=O j c[j] (CC z);rw[Nat.zero_mul,Nat.zero_add]at this;rw[this,CC z]
   ·rename_i I;exact (List.getElem?_eq_none (by omega)).symm
  refine⟨c,r 0,flat.drop e.cells,(CM xs.length).flatMap λj=>r (j+1),by rw[<- J,CG],?_,M,?_⟩
  ·rw[CB,CE,CI,CK]
  ·refine yN xs (flat.drop e.cells) (λj=>r (j+1)) (by rw[List.length_drop];omega) λj y I=>?_
   obtain⟨Y,R,X⟩:=h (j+1) y (by simpa using I);refine⟨Y,R,λi u Z=>?_⟩;rw[List.getElem?_drop,<- X i u Z,CD];congr 1;omega
theorem Els.to {w:World}{G:Nat->Prop}{e:Ty}:∀ {xs:List e.den} {flat:List Value} {B:List Nat},Els w G e xs flat B ->
  ∃ r:Nat->List Nat,B=(CM xs.length).flatMap r/\∀ j (x:e.den),xs[j]?=some x->∃ c,Mx w G e none 0 x c (r j)/\∀ i u,c[i]?=some u->flat[j*e.cells+i]?=some u
 |[],_,_,⟨_,h⟩=>⟨λ_=>[],by rw[h];simp,by simp⟩
 |x::xs,_,_,⟨c,b,f,B',J,R,M,Z⟩=>by
  obtain⟨r,Y,h6⟩:=Els.to Z;refine⟨λj=>match j with|0=>b|j+1=>r j,?_,λj y H=>?_⟩
  ·rw[R,Y,CB,CE,CI,CK]
  ·have hc:=M.len;cases j with
   |zero =>
    simp only[List.getElem?_cons_zero,CJ]at H;subst H;refine⟨c,M,λi u z=>?_⟩;have I:=(List.getElem?_eq_some_iff.1 z).1;rw[J,Nat.zero_mul,Nat.zero_add,List.getElem?_append_left I];exact z
   |succ j =>
    obtain⟨c',X,O⟩:=h6 j y (by simpa using H);refine⟨c',X,λi u z=>?_⟩;rw[J,CD,List.getElem?_append_right (by omega),<- O i u z];congr 1;omega
theorem rz {w:World}{G:Nat->Prop}{E:TypeId}{e:Ty}{xs:List e.den}{v:Value}{bs:List Nat}(h:OwB w G none E e xs v bs):∃ r B,Row w E e.cells v xs.length r/\bs=v.ownBlock.toList++B/\Els w G e xs r B:=by
 obtain⟨r,u,y,z,H⟩:=h;exact⟨r,_,y,z,yN xs r u y.1 (λj x J=>by obtain⟨c,M,I⟩:=H j x J;exact⟨c,M,I⟩)⟩
theorem vP {w:World}{G:Nat->Prop}{E:TypeId}{e:Ty}{xs:List e.den}{v:Value}{flat:List Value}{B:List Nat}(u:Row w E e.cells v xs.length flat)(y:Els w G e xs flat B):OwB w G none E e xs v (v.ownBlock.toList++B):=by
 obtain⟨r,z,J⟩:=y.to;exact⟨flat,r,u,by rw[z],λj x I=>by obtain⟨c,H,M⟩:=J j x I;exact⟨c,H,M⟩⟩
theorem Els.deep {w:World}{G G':Nat->Prop}{e:Ty}(r:e.shy=false):∀ {xs:List e.den} {f:List Value} {B:List Nat},Els w G e xs f B->Els w G' e xs f B
 |[],_,_,h=>h
 |x::xs,_,_,⟨c,b,I,B0,u,y,z,H⟩=>⟨c,b,I,B0,u,y,z.deep r,Els.deep r H⟩
def jF (P:Program)(f:FuncId)(E:TypeId)(s z:Nat):Prop :=
 ∀ (w:World) (H J:Value) (n m i:Nat) (r y:List Value),Row w E s H n r->Row w E s J m y->(∀ u∈r,u.oneCell'=true)->(∀ u∈y,u.oneCell'=true)->0<m->i<=n ->
  (∀ k∈H.ownBlock.toList,k∉J.ownBlock.toList)->(n+m)*z<=140737488355328 ->
  Calls P f #[H,.int .i64 i,J] w λe M=>∃ I,e=.returned I/\Row M E s I (n+m) (r.take (i*s)++y++r.drop (i*s))/\w.grownBy M H.ownBlock/\(I.ownBlock=H.ownBlock\/I.ownBlock=some w.heap.size)
theorem gU {P:Program}{f:FuncId}{E:TypeId}{e:Ty}{J:Nat}{M:Bool}(hE:gf P f)(hd:e.shy=false\/M=false)(b6:jF P f E e.cells J) :
  bN P ⟨f,[.own (.list true E e),.rd (.int .i64),.own (.list true E e)],[.v (.list true E e)],M,λx=>ge e J x.1 x.2.1 x.2.2.1⟩:=by
 refine⟨hE,?_⟩;intro w ro x vs d3 y b5 b3 Y u;obtain⟨xs,i,zs,_⟩:=x;obtain⟨v0,e3,b0,dc,rfl,rfl,⟨c4,b4,bx⟩,v1,dd,b1,cy,rfl,rfl,⟨cb,c2,a9,a6⟩,v2,d2,b2,e1,rfl,rfl,⟨c3,a8,bb⟩,rfl,rfl⟩:=b5;have b4:c4=[v0]:=b4;have a9:c2=[v1]:=a9;have a8:c3=[v2]:=a8;subst b4 a9 a8 cb;have a6:[v1]=[Value.int .i64 i]:=a6;simp only[CL,and_true]at a6;subst a6;rw[bP (by simp)]at bx bb;obtain⟨u0,e0,H0⟩:=bx;obtain⟨u2,e2,H2⟩:=bb;simp only[CL,and_true]at e0 e2;subst e0 e2;obtain⟨a4,B0,r0,z,l0⟩:=rz H0;obtain⟨bl,B2,r2,a3,l2⟩:=rz H2;have u:ge e J xs i zs=some y:=u;unfold ge at u;split at u
 ·rename_i hc;obtain⟨cw,d1,hm,cu⟩:=hc;simp only[CJ]at u;subst u;obtain⟨j,rfl⟩:∃ j:Nat,i=(j:Int):=Int.eq_ofNat_of_zero_le cw;have hj:j<=xs.length:=by omega
  simp only[B7,B8,B9,CA]at Y b3 ⊢;have a0:∀ k∈b0,k∉b2:=λk I X=>(B5.1 Y).2.2 k I k X rfl
  refine (b6 w v0 v2 xs.length zs.length j a4 bl r0 r2 l0.one l2.one hm hj (λk I X=>a0 k (by rw[z];exact B3 _ I) (by rw[a3];exact B3 _ X)) (by simpa only[am]using cu)).mono λen w'=>?_
  rintro⟨v',rfl,r',hgr,hown⟩;have hx:xs=xs.take j++xs.drop j:=(CG j xs).symm;have bn:=l0;rw[hx]at bn;obtain⟨f1,f2,C1,C2,ef,ec,l1,l3⟩:=Els.split bn;have ba:f1.length=j*e.cells:=by rw[l1.len,List.length_take,Nat.min_eq_left hj]
  have et:a4.take (j*e.cells)=f1:=by rw[ef];exact List.take_left' ba
  have ed:a4.drop (j*e.cells)=f2:=by rw[ef];exact List.drop_left' ba
  rw[et,ed]at r';have O:b0.Nodup:=(B5.1 Y).1;have cx:b2.Nodup:=(B5.1 Y).2.1;have a5:∀ k∈b0,k<w.heap.size:=H0.lt;have a7:∀ k∈b2,k<w.heap.size:=H2.lt;have H:∀ k,k<w.heap.size->k∉v0.ownBlock.toList->w'.heap[k]?=w.heap[k]?:=λk r hn=>hgr.block k r (λh=>hn (by rw[<- h];simp))
  have c1:∀ k∈B0,w'.heap[k]?=w.heap[k]?:=λk r=>H k (a5 k (by rw[z];exact B4 _ r)) (λh=>by
   rw[z]at O;exact (B5.1 O).2.2 k h k r rfl)
  have cp:∀ k∈B2,w'.heap[k]?=w.heap[k]?:=λk r=>H k (a7 k (by rw[a3];exact B4 _ r)) (λh=>a0 k (by rw[z];exact B3 _ h) (by rw[a3];exact B4 _ r))
  have ad:∀ k,(λ_:Nat=>False) k->w'.heap[k]?=w.heap[k]?:=λ_ h=>h.elim
  have c0:∀ k,ro k->w'.heap[k]?=w.heap[k]?:=λk r=>H k (b3 k r).1 (λh=>(b3 k r).2 (B3 _ (by rw[z];exact B3 _ h)))
  have hL:∀ {ys:List e.den} {f:List Value} {B:List Nat},Els w ro e ys f B->(∀ k∈B,w'.heap[k]?=w.heap[k]?)->Els w' (λk=>False\/(M=false/\ro k)) e ys f B:=λh hB=>by
   rcases hd with hd|hf
   ·exact (h.deep (G':=λ_=>False) hd).carry (λ_ h=>h.elim) ad hB
   ·exact h.carry (λk r=>.inr ⟨hf,r⟩) c0 hB
  have L1:=hL l1 λk r=>c1 k (by rw[ec];exact B3 _ r)
  have L3:=hL l3 λk r=>c1 k (by rw[ec];exact B4 _ r)
  have L2:=hL l2 cp;have L:=(L1.append L2).append L3;have b9:(xs.take j++zs++xs.drop j).length=xs.length+zs.length:=by simp;omega
  rw[<- b9]at r';have R:=vP r' L;have Z:(C1++B2++C2).Perm (B0++B2):=by
   rw[ec,B6,B6];exact List.Perm.append_left C1 List.perm_append_comm
  have cc:(B0++B2).Nodup:=by
   rw[z,a3]at Y;have I:=B5.1 Y;refine B5.2 ⟨(B5.1 I.1).2.1,(B5.1 I.2.1).2.1,λa ha b hb=>I.2.2 a (B4 _ ha) b (B4 _ hb)⟩
  have a2:∀ k,k∈C1++B2++C2->k∈b0++b2/\k<w.heap.size/\k∉v0.ownBlock.toList:=by
   intro k r;rcases CF.1 (Z.mem_iff.1 r) with h|h
   ·have I:k∈b0:=by rw[z];exact B4 _ h
    refine⟨B3 _ I,a5 k I,λX=>?_⟩;rw[z]at O;exact (B5.1 O).2.2 k X k h rfl
   ·have I:k∈b2:=by rw[a3];exact B4 _ h
    exact⟨B4 _ I,a7 k I,λX=>a0 k (by rw[z];exact B3 _ X) I⟩
  have a1:∀ k∈v'.ownBlock.toList,(k∈v0.ownBlock.toList\/k=w.heap.size):=by
   intro k r;rcases hown with h|h
   ·rw[h]at r;exact .inl r
   ·rw[h]at r;simp at r;exact .inr r
  refine⟨v',[v'],λ_=>False,[[],[],[]],[v'.ownBlock.toList++(C1++B2++C2)],rfl,rfl,hgr.size,hgr.os,hgr.tape,hgr.output,?_,?_,?_,?_,?_,?_⟩
  ·intro k r hn;refine H k r (λh=>hn ?_);simp only[B7,B8,B9,CA];exact B3 _ (by rw[z];exact B3 _ h)
  ·intro k h;exact h.elim
  ·exact⟨rfl,rfl,rfl,trivial⟩
  ·refine⟨v',[],_,[],rfl,rfl,⟨[v'],rfl,?_⟩,rfl,rfl⟩;rw[bP (by simp)];exact⟨v',rfl,R⟩
  ·simp only[B7,B8,B9,CA];refine B5.2 ⟨?_,Z.nodup_iff.2 cc,λa ha b hb=>?_⟩
   ·cases v'.ownBlock <;> simp
   ·rintro rfl;obtain⟨_,X,h3⟩:=a2 a hb;rcases a1 a ha with h|h
    ·exact h3 h
    ·omega
  ·intro k r;simp only[B7,B8,B9,CA]at r;refine⟨?_,λh=>h⟩;rcases CF.1 r with h|h
   ·rcases a1 k h with X|X
    ·have h3:k∈b0:=by rw[z];exact B3 _ X
     refine⟨CH (a5 k h3) hgr.size,.inr ?_⟩;simp only[B7,B8,B9,CA];exact B3 _ h3
    ·exact⟨r'.lt k h,.inl (by omega)⟩
   ·obtain⟨I,X,_⟩:=a2 k h;refine⟨CH X hgr.size,.inr ?_⟩;simp only[B7,B8,B9,CA];exact I
 ·cases u
end Go.Proofs.YtadlacffdemoiaaGreatEv
