/- Elements side by side; slices.Insert: from what its walk says to its contract. -/
import Derived.Test.YtaegajachoklkaaGreatE3
import Derived.Test.YtaegajachoklkaaGreatE0
set_option linter.unusedVariables false
set_option linter.unusedSimpArgs false
open List renaming mem_append_left->BG,mem_append_right->BH,nodup_append->BI,append_assoc->BJ,flatten_cons->BK,flatten_nil->BL,append_nil->BM,nil_append->BN,length_cons->BO,getElem?_eq_getElem->BP,range_succ_eq_map->BR,mem_append->BS,take_append_drop->BT,flatMap_cons->BV,flatMap_map->BX,range->BZ
open List.cons renaming injEq->BY
open Nat renaming succ_mul->BQ,lt_of_lt_of_le->BU
open Option.some renaming injEq->BW
namespace Go.Proofs.YtaegajachoklkaaGreatEv
open Go Go.RowKit
def Els (w:World)(G:Nat->Prop)(e:Ty):List e.den->List Value->List Nat->Prop
 |[],u,B=>u=[]/\B=[]
 |x::z,u,B=>∃ c b r y,u=c++r/\B=b++y/\Mx w G e none 0 x c b/\Els w G e z r y
theorem Els.len {w:World}{G:Nat->Prop}{e:Ty}:∀ {xs:List e.den} {flat:List Value} {B:List Nat},Els w G e xs flat B->flat.length=xs.length*e.cells
 |[],_,_,⟨h,_⟩=>by rw[h];simp
 |x::xs,_,_,⟨c,b,f,z,y,_,r,u⟩=>by
  rw[y,List.length_append,r.len,Els.len u,BO,BQ];omega
theorem Els.one {w:World}{G:Nat->Prop}{e:Ty}:∀ {xs:List e.den} {flat:List Value} {B:List Nat},Els w G e xs flat B->∀ u∈flat,u.oneCell'=true
 |[],_,_,⟨h,_⟩=>by rw[h];simp
 |x::xs,_,_,⟨c,b,f,I,H,_,y,z⟩=>by
  rw[H];intro u r;rcases BS.1 r with r|r
  ·exact y.one u r
  ·exact Els.one z u r
theorem Els.append {w:World}{G:Nat->Prop}{e:Ty}:∀ {xs y:List e.den} {f r:List Value} {B u:List Nat},Els w G e xs f B->Els w G e y r u->Els w G e (xs++y) (f++r) (B++u)
 |[],_,_,_,_,_,⟨H,z⟩,h=>by rw[H,z];exact h
 |x::xs,y,_,r,_,u,⟨c,b,J,B0,H,z,I,M⟩,h=>⟨c,b,J++r,B0++u,by rw[H,BJ],by rw[z,BJ],I,Els.append M h⟩
theorem Els.split {w:World}{G:Nat->Prop}{e:Ty}:∀ {xs H:List e.den} {f:List Value} {B:List Nat},Els w G e (xs++H) f B->∃ r z u y,f=r++z/\B=u++y/\Els w G e xs r u/\Els w G e H z y
 |[],_,f,B,h=>⟨[],f,[],B,rfl,rfl,⟨rfl,rfl⟩,h⟩
 |x::xs,H,_,_,⟨c,b,f0,B0,X,M,I,J⟩=>by
  obtain⟨r,z,u,y,Z,O,Y,R⟩:=Els.split J;exact⟨c++r,z,b++u,y,by rw[X,Z,BJ],by rw[M,O,BJ],⟨c,b,r,u,rfl,rfl,I,Y⟩,R⟩
theorem Els.carry {w w':World}{G G':Nat->Prop}(H:∀ k,G k->G' k)(y:∀ k,G k->w'.heap[k]?=w.heap[k]?){e:Ty}:∀ {xs:List e.den} {f:List Value} {B:List Nat},(∀ k∈B,w'.heap[k]?=w.heap[k]?)->Els w G e xs f B->Els w' G' e xs f B
 |[],_,_,_,h=>h
 |x::xs,_,_,z,⟨c,b,J,B0,O,u,I,M⟩=>⟨c,b,J,B0,O,u,I.carry H y (λk r=>z k (by rw[u];exact BG _ r)),Els.carry H y (λk r=>z k (by rw[u];exact BH _ r)) M⟩
theorem yn {w:World}{G:Nat->Prop}{e:Ty}:∀ (xs:List e.den) (flat:List Value) (r:Nat->List Nat),flat.length=xs.length*e.cells ->
  (∀ j (x:e.den),xs[j]?=some x->∃ c,Mx w G e none 0 x c (r j)/\∀ i u,c[i]?=some u->flat[j*e.cells+i]?=some u)->Els w G e xs flat ((BZ xs.length).flatMap r)
 |[],flat,r,H,_=>⟨List.eq_nil_of_length_eq_zero (by simpa using H),by simp⟩
 |x::xs,flat,r,H,h=>by
  obtain⟨c,M,X⟩:=h 0 x rfl;have hc:=M.len;rw[BO,BQ]at H;have J:flat.take e.cells=c:=by
   refine List.ext_getElem? λj=>?_
   rw[List.getElem?_take];split
   ·rename_i I;have z:j<c.length:=by omega
    have:=X j c[j] (BP z);rw[Nat.zero_mul,Nat.zero_add]at this;rw[this,BP z]
   ·rename_i I;exact (List.getElem?_eq_none (by omega)).symm
  refine⟨c,r 0,flat.drop e.cells,(BZ xs.length).flatMap λj=>r (j+1),by rw[<- J,BT],?_,M,?_⟩
  ·rw[BO,BR,BV,BX]
  ·refine yn xs (flat.drop e.cells) (λj=>r (j+1)) (by rw[List.length_drop];omega) λj y I=>?_
   obtain⟨Y,O,R⟩:=h (j+1) y (by simpa using I);refine⟨Y,O,λi u Z=>?_⟩;rw[List.getElem?_drop,<- R i u Z,BQ];congr 1;omega
theorem Els.to {w:World}{G:Nat->Prop}{e:Ty}:∀ {xs:List e.den} {flat:List Value} {B:List Nat},Els w G e xs flat B ->
  ∃ r:Nat->List Nat,B=(BZ xs.length).flatMap r/\∀ j (x:e.den),xs[j]?=some x->∃ c,Mx w G e none 0 x c (r j)/\∀ i u,c[i]?=some u->flat[j*e.cells+i]?=some u
 |[],_,_,⟨_,h⟩=>⟨λ_=>[],by rw[h];simp,by simp⟩
 |x::xs,_,_,⟨c,b,f,B',M,R,J,O⟩=>by
  obtain⟨r,h5,Z⟩:=Els.to O;refine⟨λj=>match j with|0=>b|j+1=>r j,?_,λj y I=>?_⟩
  ·rw[R,h5,BO,BR,BV,BX]
  ·have hc:=J.len;cases j with
   |zero =>
    simp only[List.getElem?_cons_zero,BW]at I;subst I;refine⟨c,J,λi u z=>?_⟩;have H:=(List.getElem?_eq_some_iff.1 z).1;rw[M,Nat.zero_mul,Nat.zero_add,List.getElem?_append_left H];exact z
   |succ j =>
    obtain⟨c',X,Y⟩:=Z j y (by simpa using I);refine⟨c',X,λi u z=>?_⟩;rw[M,BQ,List.getElem?_append_right (by omega),<- Y i u z];congr 1;omega
theorem qX {w:World}{G:Nat->Prop}{E:TypeId}{e:Ty}{xs:List e.den}{v:Value}{bs:List Nat}(h:OwB w G none E e xs v bs):∃ r B,Row w E e.cells v xs.length r/\bs=v.ownBlock.toList++B/\Els w G e xs r B:=by
 obtain⟨r,u,y,I,z⟩:=h;exact⟨r,_,y,I,yn xs r u y.1 (λj x J=>by obtain⟨c,H,M⟩:=z j x J;exact⟨c,H,M⟩)⟩
theorem vz {w:World}{G:Nat->Prop}{E:TypeId}{e:Ty}{xs:List e.den}{v:Value}{flat:List Value}{B:List Nat}(J:Row w E e.cells v xs.length flat)(z:Els w G e xs flat B):OwB w G none E e xs v (v.ownBlock.toList++B):=by
 obtain⟨r,u,y⟩:=z.to;exact⟨flat,r,J,by rw[u],λj x H=>by obtain⟨c,M,I⟩:=y j x H;exact⟨c,M,I⟩⟩
theorem Els.deep {w:World}{G G':Nat->Prop}{e:Ty}(r:e.shy=false):∀ {xs:List e.den} {f:List Value} {B:List Nat},Els w G e xs f B->Els w G' e xs f B
 |[],_,_,h=>h
 |x::xs,_,_,⟨c,b,y,B0,I,H,u,z⟩=>⟨c,b,y,B0,I,H,u.deep r,Els.deep r z⟩
def lS (P:Program)(f:FuncId)(E:TypeId)(s z:Nat):Prop :=
 ∀ (w:World) (H J:Value) (n m i:Nat) (r y:List Value),Row w E s H n r->Row w E s J m y->(∀ u∈r,u.oneCell'=true)->(∀ u∈y,u.oneCell'=true)->0<m->i<=n ->
  (∀ k∈H.ownBlock.toList,k∉J.ownBlock.toList)->(n+m)*z<=140737488355328 ->
  Calls P f #[H,.int .i64 i,J] w λe M=>∃ I,e=.returned I/\Row M E s I (n+m) (r.take (i*s)++y++r.drop (i*s))/\w.grownBy M H.ownBlock/\(I.ownBlock=H.ownBlock\/I.ownBlock=some w.heap.size)
theorem kL {P:Program}{f:FuncId}{E:TypeId}{e:Ty}{J:Nat}{H:Bool}(hE:fU P f)(hd:e.shy=false)(b4:lS P f E e.cells J) :
  bO P ⟨f,[.own (.list true E e),.rd (.int .i64),.own (.list true E e)],[.v (.list true E e)],H,λx=>iz e J x.1 x.2.1 x.2.2.1⟩:=by
 refine⟨hE,?_⟩;intro w ro x vs dc y bb cy Y u;obtain⟨xs,i,zs,_⟩:=x;obtain⟨v0,d3,b0,e4,rfl,rfl,⟨cu,b5,c2⟩,v1,e5,b1,e3,rfl,rfl,⟨c3,cp,b9,a9⟩,v2,d2,b2,dd,rfl,rfl,⟨cw,ba,c1⟩,rfl,rfl⟩:=bb;have b5:cu=[v0]:=b5;have b9:cp=[v1]:=b9;have ba:cw=[v2]:=ba;subst b5 b9 ba c3;have a9:[v1]=[Value.int .i64 i]:=a9;simp only[BY,and_true]at a9;subst a9;rw[bI (by simp)]at c2 c1;obtain⟨u0,e0,H0⟩:=c2;obtain⟨u2,e2,H2⟩:=c1;simp only[BY,and_true]at e0 e2;subst e0 e2;obtain⟨a4,B0,r0,z,l0⟩:=qX H0;obtain⟨b3,B2,r2,a3,l2⟩:=qX H2;have u:iz e J xs i zs=some y:=u;unfold iz at u;split at u
 ·rename_i hc;obtain⟨cc,e1,hm,cx⟩:=hc;simp only[BW]at u;subst u;obtain⟨j,rfl⟩:∃ j:Nat,i=(j:Int):=Int.eq_ofNat_of_zero_le cc;have hj:j<=xs.length:=by omega
  simp only[BK,BL,BM,BN]at Y cy ⊢;have a5:∀ k∈b0,k∉b2:=λk I Z=>(BI.1 Y).2.2 k I k Z rfl
  refine (b4 w v0 v2 xs.length zs.length j a4 b3 r0 r2 l0.one l2.one hm hj (λk I Z=>a5 k (by rw[z];exact BG _ I) (by rw[a3];exact BG _ Z)) (by simpa only[ak]using cx)).mono λen w'=>?_
  rintro⟨v',rfl,r',hgr,hown⟩;have hx:xs=xs.take j++xs.drop j:=(BT j xs).symm;have bx:=l0;rw[hx]at bx;obtain⟨f1,f2,C1,C2,ef,ec,l1,l3⟩:=Els.split bx;have bn:f1.length=j*e.cells:=by rw[l1.len,List.length_take,Nat.min_eq_left hj]
  have et:a4.take (j*e.cells)=f1:=by rw[ef];exact List.take_left' bn
  have ed:a4.drop (j*e.cells)=f2:=by rw[ef];exact List.drop_left' bn
  rw[et,ed]at r';have X:b0.Nodup:=(BI.1 Y).1;have d1:b2.Nodup:=(BI.1 Y).2.1;have a1:∀ k∈b0,k<w.heap.size:=H0.lt;have ad:∀ k∈b2,k<w.heap.size:=H2.lt;have O:∀ k,k<w.heap.size->k∉v0.ownBlock.toList->w'.heap[k]?=w.heap[k]?:=λk r hn=>hgr.block k r (λh=>hn (by rw[<- h];simp))
  have bl:∀ k∈B0,w'.heap[k]?=w.heap[k]?:=λk r=>O k (a1 k (by rw[z];exact BH _ r)) (λh=>by
   rw[z]at X;exact (BI.1 X).2.2 k h k r rfl)
  have c4:∀ k∈B2,w'.heap[k]?=w.heap[k]?:=λk r=>O k (ad k (by rw[a3];exact BH _ r)) (λh=>a5 k (by rw[z];exact BG _ h) (by rw[a3];exact BH _ r))
  have M:∀ k,(λ_:Nat=>False) k->w'.heap[k]?=w.heap[k]?:=λ_ h=>h.elim
  have L1:Els w' (λk=>False\/(H=false/\ro k)) e (xs.take j) f1 C1:=((l1.deep (G':=λ_=>False) hd).carry (λ_ h=>h.elim) M (λk r=>bl k (by rw[ec];exact BG _ r)));have L3:Els w' (λk=>False\/(H=false/\ro k)) e (xs.drop j) f2 C2:=((l3.deep (G':=λ_=>False) hd).carry (λ_ h=>h.elim) M (λk r=>bl k (by rw[ec];exact BH _ r)));have L2:Els w' (λk=>False\/(H=false/\ro k)) e zs b3 B2:=((l2.deep (G':=λ_=>False) hd).carry (λ_ h=>h.elim) M c4);have L:=(L1.append L2).append L3;have c0:(xs.take j++zs++xs.drop j).length=xs.length+zs.length:=by simp;omega
  rw[<- c0]at r';have R:=vz r' L;have a6:(C1++B2++C2).Perm (B0++B2):=by
   rw[ec,BJ,BJ];exact List.Perm.append_left C1 List.perm_append_comm
  have cb:(B0++B2).Nodup:=by
   rw[z,a3]at Y;have I:=BI.1 Y;refine BI.2 ⟨(BI.1 I.1).2.1,(BI.1 I.2.1).2.1,λa ha b hb=>I.2.2 a (BH _ ha) b (BH _ hb)⟩
  have a2:∀ k,k∈C1++B2++C2->k∈b0++b2/\k<w.heap.size/\k∉v0.ownBlock.toList:=by
   intro k r;rcases BS.1 (a6.mem_iff.1 r) with h|h
   ·have I:k∈b0:=by rw[z];exact BH _ h
    refine⟨BG _ I,a1 k I,λZ=>?_⟩;rw[z]at X;exact (BI.1 X).2.2 k Z k h rfl
   ·have I:k∈b2:=by rw[a3];exact BH _ h
    exact⟨BH _ I,ad k I,λZ=>a5 k (by rw[z];exact BG _ Z) I⟩
  have a0:∀ k∈v'.ownBlock.toList,(k∈v0.ownBlock.toList\/k=w.heap.size):=by
   intro k r;rcases hown with h|h
   ·rw[h]at r;exact .inl r
   ·rw[h]at r;simp at r;exact .inr r
  refine⟨v',[v'],λ_=>False,[[],[],[]],[v'.ownBlock.toList++(C1++B2++C2)],rfl,rfl,hgr.size,hgr.os,hgr.tape,hgr.output,?_,?_,?_,?_,?_,?_⟩
  ·intro k r hn;refine O k r (λh=>hn ?_);simp only[BK,BL,BM,BN];exact BG _ (by rw[z];exact BG _ h)
  ·intro k h;exact h.elim
  ·exact⟨rfl,rfl,rfl,trivial⟩
  ·refine⟨v',[],_,[],rfl,rfl,⟨[v'],rfl,?_⟩,rfl,rfl⟩;rw[bI (by simp)];exact⟨v',rfl,R⟩
  ·simp only[BK,BL,BM,BN];refine BI.2 ⟨?_,a6.nodup_iff.2 cb,λa ha b hb=>?_⟩
   ·cases v'.ownBlock <;> simp
   ·rintro rfl;obtain⟨_,Z,h3⟩:=a2 a hb;rcases a0 a ha with h|h
    ·exact h3 h
    ·omega
  ·intro k r;simp only[BK,BL,BM,BN]at r;refine⟨?_,λh=>h⟩;rcases BS.1 r with h|h
   ·rcases a0 k h with Z|Z
    ·have h3:k∈b0:=by rw[z];exact BG _ Z
     refine⟨BU (a1 k h3) hgr.size,.inr ?_⟩;simp only[BK,BL,BM,BN];exact BG _ h3
    ·exact⟨r'.lt k h,.inl (by omega)⟩
   ·obtain⟨I,Z,_⟩:=a2 k h;refine⟨BU Z hgr.size,.inr ?_⟩;simp only[BK,BL,BM,BN];exact I
 ·cases u
end Go.Proofs.YtaegajachoklkaaGreatEv
