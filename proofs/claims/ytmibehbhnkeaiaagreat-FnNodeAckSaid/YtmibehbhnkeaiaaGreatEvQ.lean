/- Elements side by side; slices.Insert: from what its walk says to its contract. -/
import Derived.Test.YtmibehbhnkeaiaaGreatE3
import Derived.Test.YtmibehbhnkeaiaaGreatE0
set_option linter.unusedVariables false
set_option linter.unusedSimpArgs false
open List renaming mem_append_left->FJ,mem_append_right->FK,nodup_append->FL,append_assoc->FM,flatten_cons->FN,flatten_nil->FO,append_nil->FP,nil_append->FQ,length_cons->FR,getElem?_eq_getElem->FS,range_succ_eq_map->FU,mem_append->FV,take_append_drop->FW,flatMap_cons->FY,flatMap_map->F0,range->F2
open List.cons renaming injEq->F1
open Nat renaming succ_mul->FT,lt_of_lt_of_le->FX
open Option.some renaming injEq->FZ
namespace Go.Proofs.YtmibehbhnkeaiaaGreatEv
open Go Go.RowKit
def Els (w:World)(G:Nat->Prop)(e:Ty):List e.den->List Value->List Nat->Prop
 |[],r,B=>r=[]/\B=[]
 |x::z,r,B=>∃ c b u y,r=c++u/\B=b++y/\Mx w G e none 0 x c b/\Els w G e z u y
theorem Els.len {w:World}{G:Nat->Prop}{e:Ty}:∀ {xs:List e.den} {flat:List Value} {B:List Nat},Els w G e xs flat B->flat.length=xs.length*e.cells
 |[],_,_,⟨h,_⟩=>by rw[h];simp
 |x::xs,_,_,⟨c,b,f,z,r,_,u,y⟩=>by
  rw[r,List.length_append,u.len,Els.len y,FR,FT];omega
theorem Els.one {w:World}{G:Nat->Prop}{e:Ty}:∀ {xs:List e.den} {flat:List Value} {B:List Nat},Els w G e xs flat B->∀ u∈flat,u.oneCell'=true
 |[],_,_,⟨h,_⟩=>by rw[h];simp
 |x::xs,_,_,⟨c,b,f,I,y,_,z,H⟩=>by
  rw[y];intro u r;rcases FV.1 r with r|r
  ·exact z.one u r
  ·exact Els.one H u r
theorem Els.append {w:World}{G:Nat->Prop}{e:Ty}:∀ {xs H:List e.den} {f u:List Value} {B r:List Nat},Els w G e xs f B->Els w G e H u r->Els w G e (xs++H) (f++u) (B++r)
 |[],_,_,_,_,_,⟨y,z⟩,h=>by rw[y,z];exact h
 |x::xs,H,_,u,_,r,⟨c,b,I,B0,y,z,J,M⟩,h=>⟨c,b,I++u,B0++r,by rw[y,FM],by rw[z,FM],J,Els.append M h⟩
theorem Els.split {w:World}{G:Nat->Prop}{e:Ty}:∀ {xs H:List e.den} {f:List Value} {B:List Nat},Els w G e (xs++H) f B->∃ u z r y,f=u++z/\B=r++y/\Els w G e xs u r/\Els w G e H z y
 |[],_,f,B,h=>⟨[],f,[],B,rfl,rfl,⟨rfl,rfl⟩,h⟩
 |x::xs,H,_,_,⟨c,b,f0,B0,M,O,R,X⟩=>by
  obtain⟨u,z,r,y,I,J,Y,Z⟩:=Els.split X;exact⟨c++u,z,b++r,y,by rw[M,I,FM],by rw[O,J,FM],⟨c,b,u,r,rfl,rfl,R,Y⟩,Z⟩
theorem Els.carry {w w':World}{G G':Nat->Prop}(y:∀ k,G k->G' k)(H:∀ k,G k->w'.heap[k]?=w.heap[k]?){e:Ty}:∀ {xs:List e.den} {f:List Value} {B:List Nat},(∀ k∈B,w'.heap[k]?=w.heap[k]?)->Els w G e xs f B->Els w' G' e xs f B
 |[],_,_,_,h=>h
 |x::xs,_,_,z,⟨c,b,I,B0,J,r,M,O⟩=>⟨c,b,I,B0,J,r,M.carry y H (λk u=>z k (by rw[r];exact FJ _ u)),Els.carry y H (λk u=>z k (by rw[r];exact FK _ u)) O⟩
theorem zI {w:World}{G:Nat->Prop}{e:Ty}:∀ (xs:List e.den) (flat:List Value) (r:Nat->List Nat),flat.length=xs.length*e.cells ->
  (∀ j (x:e.den),xs[j]?=some x->∃ c,Mx w G e none 0 x c (r j)/\∀ i u,c[i]?=some u->flat[j*e.cells+i]?=some u)->Els w G e xs flat ((F2 xs.length).flatMap r)
 |[],flat,r,J,_=>⟨List.eq_nil_of_length_eq_zero (by simpa using J),by simp⟩
 |x::xs,flat,r,J,h=>by
  obtain⟨c,M,R⟩:=h 0 x rfl;have hc:=M.len;rw[FR,FT]at J;have H:flat.take e.cells=c:=by
   refine List.ext_getElem? λj=>?_
   rw[List.getElem?_take];split
   ·rename_i I;have z:j<c.length:=by omega
    have:=R j c[j] (FS z);rw[Nat.zero_mul,Nat.zero_add]at this;rw[this,FS z]
   ·rename_i I;exact (List.getElem?_eq_none (by omega)).symm
  refine⟨c,r 0,flat.drop e.cells,(F2 xs.length).flatMap λj=>r (j+1),by rw[<- H,FW],?_,M,?_⟩
  ·rw[FR,FU,FY,F0]
  ·refine zI xs (flat.drop e.cells) (λj=>r (j+1)) (by rw[List.length_drop];omega) λj y I=>?_
   obtain⟨O,X,Y⟩:=h (j+1) y (by simpa using I);refine⟨O,X,λi u Z=>?_⟩;rw[List.getElem?_drop,<- Y i u Z,FT];congr 1;omega
theorem Els.to {w:World}{G:Nat->Prop}{e:Ty}:∀ {xs:List e.den} {flat:List Value} {B:List Nat},Els w G e xs flat B ->
  ∃ r:Nat->List Nat,B=(F2 xs.length).flatMap r/\∀ j (x:e.den),xs[j]?=some x->∃ c,Mx w G e none 0 x c (r j)/\∀ i u,c[i]?=some u->flat[j*e.cells+i]?=some u
 |[],_,_,⟨_,h⟩=>⟨λ_=>[],by rw[h];simp,by simp⟩
 |x::xs,_,_,⟨c,b,f,B',J,R,M,X⟩=>by
  obtain⟨r,Y,Z⟩:=Els.to X;refine⟨λj=>match j with|0=>b|j+1=>r j,?_,λj y I=>?_⟩
  ·rw[R,Y,FR,FU,FY,F0]
  ·have hc:=M.len;cases j with
   |zero =>
    simp only[List.getElem?_cons_zero,FZ]at I;subst I;refine⟨c,M,λi u z=>?_⟩;have H:=(List.getElem?_eq_some_iff.1 z).1;rw[J,Nat.zero_mul,Nat.zero_add,List.getElem?_append_left H];exact z
   |succ j =>
    obtain⟨O,h7,h8⟩:=Z j y (by simpa using I);refine⟨O,h7,λi u z=>?_⟩;rw[J,FT,List.getElem?_append_right (by omega),<- h8 i u z];congr 1;omega
theorem pe {w:World}{G:Nat->Prop}{E:TypeId}{e:Ty}{xs:List e.den}{v:Value}{bs:List Nat}(h:OwB w G none E e xs v bs):∃ r B,Row w E e.cells v xs.length r/\bs=v.ownBlock.toList++B/\Els w G e xs r B:=by
 obtain⟨r,u,y,z,H⟩:=h;exact⟨r,_,y,z,zI xs r u y.1 (λj x M=>by obtain⟨c,I,J⟩:=H j x M;exact⟨c,I,J⟩)⟩
theorem sg {w:World}{G:Nat->Prop}{E:TypeId}{e:Ty}{xs:List e.den}{v:Value}{flat:List Value}{B:List Nat}(u:Row w E e.cells v xs.length flat)(y:Els w G e xs flat B):OwB w G none E e xs v (v.ownBlock.toList++B):=by
 obtain⟨r,z,H⟩:=y.to;exact⟨flat,r,u,by rw[z],λj x M=>by obtain⟨c,I,J⟩:=H j x M;exact⟨c,I,J⟩⟩
theorem Els.deep {w:World}{G G':Nat->Prop}{e:Ty}(r:e.shy=false):∀ {xs:List e.den} {f:List Value} {B:List Nat},Els w G e xs f B->Els w G' e xs f B
 |[],_,_,h=>h
 |x::xs,_,_,⟨c,b,u,B0,y,z,H,I⟩=>⟨c,b,u,B0,y,z,H.deep r,Els.deep r I⟩
def jr (P:Program)(f:FuncId)(E:TypeId)(s z:Nat):Prop :=
 ∀ (w:World) (H J:Value) (n m i:Nat) (r y:List Value),Row w E s H n r->Row w E s J m y->(∀ u∈r,u.oneCell'=true)->(∀ u∈y,u.oneCell'=true)->0<m->i<=n ->
  (∀ k∈H.ownBlock.toList,k∉J.ownBlock.toList)->(n+m)*z<=140737488355328 ->
  Calls P f #[H,.int .i64 i,J] w λe M=>∃ I,e=.returned I/\Row M E s I (n+m) (r.take (i*s)++y++r.drop (i*s))/\w.grownBy M H.ownBlock/\(I.ownBlock=H.ownBlock\/I.ownBlock=some w.heap.size)
theorem gf {P:Program}{f:FuncId}{E:TypeId}{e:Ty}{J:Nat}{M:Bool}(hE:fR P f)(hd:e.shy=false\/M=false)(b3:jr P f E e.cells J) :
  bI P ⟨f,[.own (.list true E e),.rd (.int .i64),.own (.list true E e)],[.v (.list true E e)],M,λx=>fQ e J x.1 x.2.1 x.2.2.1⟩:=by
 refine⟨hE,?_⟩;intro w ro x vs cu y a8 az Y z;obtain⟨xs,i,zs,_⟩:=x;obtain⟨v0,cx,b0,cb,rfl,rfl,⟨bo,ad,b9⟩,v1,cy,b1,cc,rfl,rfl,⟨c2,bx,aw,a6⟩,v2,d1,b2,cp,rfl,rfl,⟨c0,ay,ba⟩,rfl,rfl⟩:=a8;have ad:bo=[v0]:=ad;have aw:bx=[v1]:=aw;have ay:c0=[v2]:=ay;subst ad aw ay c2;have a6:[v1]=[Value.int .i64 i]:=a6;simp only[F1,and_true]at a6;subst a6;rw[bF (by simp)]at b9 ba;obtain⟨u0,e0,H0⟩:=b9;obtain⟨u2,e2,H2⟩:=ba;simp only[F1,and_true]at e0 e2;subst e0 e2;obtain⟨a0,B0,r0,u,l0⟩:=pe H0;obtain⟨bn,B2,r2,Z,l2⟩:=pe H2;have z:fQ e J xs i zs=some y:=z;unfold fQ at z;split at z
 ·rename_i hc;obtain⟨c3,cw,hm,c5⟩:=hc;simp only[FZ]at z;subst z;obtain⟨j,rfl⟩:∃ j:Nat,i=(j:Int):=Int.eq_ofNat_of_zero_le c3;have hj:j<=xs.length:=by omega
  simp only[FN,FO,FP,FQ]at Y az ⊢;have a1:∀ k∈b0,k∉b2:=λk I X=>(FL.1 Y).2.2 k I k X rfl
  refine (b3 w v0 v2 xs.length zs.length j a0 bn r0 r2 l0.one l2.one hm hj (λk I X=>a1 k (by rw[u];exact FJ _ I) (by rw[Z];exact FJ _ X)) (by simpa only[am]using c5)).mono λen w'=>?_
  rintro⟨v',rfl,r',hgr,hown⟩;have hx:xs=xs.take j++xs.drop j:=(FW j xs).symm;have bl:=l0;rw[hx]at bl;obtain⟨f1,f2,C1,C2,ef,ec,l1,l3⟩:=Els.split bl;have b5:f1.length=j*e.cells:=by rw[l1.len,List.length_take,Nat.min_eq_left hj]
  have et:a0.take (j*e.cells)=f1:=by rw[ef];exact List.take_left' b5
  have ed:a0.drop (j*e.cells)=f2:=by rw[ef];exact List.drop_left' b5
  rw[et,ed]at r';have O:b0.Nodup:=(FL.1 Y).1;have c6:b2.Nodup:=(FL.1 Y).2.1;have a2:∀ k∈b0,k<w.heap.size:=H0.lt;have a7:∀ k∈b2,k<w.heap.size:=H2.lt;have H:∀ k,k<w.heap.size->k∉v0.ownBlock.toList->w'.heap[k]?=w.heap[k]?:=λk r hn=>hgr.block k r (λh=>hn (by rw[<- h];simp))
  have b4:∀ k∈B0,w'.heap[k]?=w.heap[k]?:=λk r=>H k (a2 k (by rw[u];exact FK _ r)) (λh=>by
   rw[u]at O;exact (FL.1 O).2.2 k h k r rfl)
  have c1:∀ k∈B2,w'.heap[k]?=w.heap[k]?:=λk r=>H k (a7 k (by rw[Z];exact FK _ r)) (λh=>a1 k (by rw[u];exact FJ _ h) (by rw[Z];exact FK _ r))
  have a9:∀ k,(λ_:Nat=>False) k->w'.heap[k]?=w.heap[k]?:=λ_ h=>h.elim
  have bb:∀ k,ro k->w'.heap[k]?=w.heap[k]?:=λk r=>H k (az k r).1 (λh=>(az k r).2 (FJ _ (by rw[u];exact FJ _ h)))
  have hL:∀ {ys:List e.den} {f:List Value} {B:List Nat},Els w ro e ys f B->(∀ k∈B,w'.heap[k]?=w.heap[k]?)->Els w' (λk=>False\/(M=false/\ro k)) e ys f B:=λh hB=>by
   rcases hd with hd|hf
   ·exact (h.deep (G':=λ_=>False) hd).carry (λ_ h=>h.elim) a9 hB
   ·exact h.carry (λk r=>.inr ⟨hf,r⟩) bb hB
  have L1:=hL l1 λk r=>b4 k (by rw[ec];exact FJ _ r)
  have L3:=hL l3 λk r=>b4 k (by rw[ec];exact FK _ r)
  have L2:=hL l2 c1;have L:=(L1.append L2).append L3;have b6:(xs.take j++zs++xs.drop j).length=xs.length+zs.length:=by simp;omega
  rw[<- b6]at r';have R:=sg r' L;have a5:(C1++B2++C2).Perm (B0++B2):=by
   rw[ec,FM,FM];exact List.Perm.append_left C1 List.perm_append_comm
  have c4:(B0++B2).Nodup:=by
   rw[u,Z]at Y;have I:=FL.1 Y;refine FL.2 ⟨(FL.1 I.1).2.1,(FL.1 I.2.1).2.1,λa ha b hb=>I.2.2 a (FK _ ha) b (FK _ hb)⟩
  have a3:∀ k,k∈C1++B2++C2->k∈b0++b2/\k<w.heap.size/\k∉v0.ownBlock.toList:=by
   intro k r;rcases FV.1 (a5.mem_iff.1 r) with h|h
   ·have I:k∈b0:=by rw[u];exact FK _ h
    refine⟨FJ _ I,a2 k I,λX=>?_⟩;rw[u]at O;exact (FL.1 O).2.2 k X k h rfl
   ·have I:k∈b2:=by rw[Z];exact FK _ h
    exact⟨FK _ I,a7 k I,λX=>a1 k (by rw[u];exact FJ _ X) I⟩
  have a4:∀ k∈v'.ownBlock.toList,(k∈v0.ownBlock.toList\/k=w.heap.size):=by
   intro k r;rcases hown with h|h
   ·rw[h]at r;exact .inl r
   ·rw[h]at r;simp at r;exact .inr r
  refine⟨v',[v'],λ_=>False,[[],[],[]],[v'.ownBlock.toList++(C1++B2++C2)],rfl,rfl,hgr.size,hgr.os,hgr.tape,hgr.output,?_,?_,?_,?_,?_,?_⟩
  ·intro k r hn;refine H k r (λh=>hn ?_);simp only[FN,FO,FP,FQ];exact FJ _ (by rw[u];exact FJ _ h)
  ·intro k h;exact h.elim
  ·exact⟨rfl,rfl,rfl,trivial⟩
  ·refine⟨v',[],_,[],rfl,rfl,⟨[v'],rfl,?_⟩,rfl,rfl⟩;rw[bF (by simp)];exact⟨v',rfl,R⟩
  ·simp only[FN,FO,FP,FQ];refine FL.2 ⟨?_,a5.nodup_iff.2 c4,λa ha b hb=>?_⟩
   ·cases v'.ownBlock <;> simp
   ·rintro rfl;obtain⟨_,X,h3⟩:=a3 a hb;rcases a4 a ha with h|h
    ·exact h3 h
    ·omega
  ·intro k r;simp only[FN,FO,FP,FQ]at r;refine⟨?_,λh=>h⟩;rcases FV.1 r with h|h
   ·rcases a4 k h with X|X
    ·have h3:k∈b0:=by rw[u];exact FJ _ X
     refine⟨FX (a2 k h3) hgr.size,.inr ?_⟩;simp only[FN,FO,FP,FQ];exact FJ _ h3
    ·exact⟨r'.lt k h,.inl (by omega)⟩
   ·obtain⟨I,X,_⟩:=a3 k h;refine⟨FX X hgr.size,.inr ?_⟩;simp only[FN,FO,FP,FQ];exact I
 ·cases z
end Go.Proofs.YtmibehbhnkeaiaaGreatEv
