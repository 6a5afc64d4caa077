/- Elements side by side; slices.Insert: from what its walk says to its contract. -/
import Derived.Test.YtaegajachoklkaaGreatE3
import Derived.Test.YtaegajachoklkaaGreatE0
set_option linter.unusedVariables false
set_option linter.unusedSimpArgs false
open List renaming mem_append_left->BD,mem_append_right->BE,nodup_append->BF,append_assoc->BG,flatten_cons->BH,flatten_nil->BI,append_nil->BJ,nil_append->BK,length_cons->BL,getElem?_eq_getElem->BM,range_succ_eq_map->BO,mem_append->BP,take_append_drop->BQ,flatMap_cons->BS,flatMap_map->BU,range->BW
open List.cons renaming injEq->BV
open Nat renaming succ_mul->BN,lt_of_lt_of_le->BR
open Option.some renaming injEq->BT
namespace Go.Proofs.YtaegajachoklkaaGreatEv
open Go Go.RowKit
def Els (w:World)(G:Nat->Prop)(e:Ty):List e.den->List Value->List Nat->Prop
 |[],u,B=>u=[]/\B=[]
 |x::z,u,B=>∃ c b r y,u=c++r/\B=b++y/\Mx w G e none 0 x c b/\Els w G e z r y
theorem Els.len {w:World}{G:Nat->Prop}{e:Ty}:∀ {xs:List e.den} {flat:List Value} {B:List Nat},Els w G e xs flat B->flat.length=xs.length*e.cells
 |[],_,_,⟨h,_⟩=>by rw[h];simp
 |x::xs,_,_,⟨c,b,f,z,y,_,u,r⟩=>by
  rw[y,List.length_append,u.len,Els.len r,BL,BN];omega
theorem Els.one {w:World}{G:Nat->Prop}{e:Ty}:∀ {xs:List e.den} {flat:List Value} {B:List Nat},Els w G e xs flat B->∀ u∈flat,u.oneCell'=true
 |[],_,_,⟨h,_⟩=>by rw[h];simp
 |x::xs,_,_,⟨c,b,f,I,H,_,z,y⟩=>by
  rw[H];intro u r;rcases BP.1 r with r|r
  ·exact z.one u r
  ·exact Els.one y u r
theorem Els.append {w:World}{G:Nat->Prop}{e:Ty}:∀ {xs z:List e.den} {f r:List Value} {B u:List Nat},Els w G e xs f B->Els w G e z r u->Els w G e (xs++z) (f++r) (B++u)
 |[],_,_,_,_,_,⟨H,y⟩,h=>by rw[H,y];exact h
 |x::xs,z,_,r,_,u,⟨c,b,M,B0,H,y,I,J⟩,h=>⟨c,b,M++r,B0++u,by rw[H,BG],by rw[y,BG],I,Els.append J h⟩
theorem Els.split {w:World}{G:Nat->Prop}{e:Ty}:∀ {xs H:List e.den} {f:List Value} {B:List Nat},Els w G e (xs++H) f B->∃ u z r y,f=u++z/\B=r++y/\Els w G e xs u r/\Els w G e H z y
 |[],_,f,B,h=>⟨[],f,[],B,rfl,rfl,⟨rfl,rfl⟩,h⟩
 |x::xs,H,_,_,⟨c,b,f0,B0,Z,J,I,M⟩=>by
  obtain⟨u,z,r,y,X,R,O,Y⟩:=Els.split M;exact⟨c++u,z,b++r,y,by rw[Z,X,BG],by rw[J,R,BG],⟨c,b,u,r,rfl,rfl,I,O⟩,Y⟩
theorem Els.carry {w w':World}{G G':Nat->Prop}(H:∀ k,G k->G' k)(y:∀ k,G k->w'.heap[k]?=w.heap[k]?){e:Ty}:∀ {xs:List e.den} {f:List Value} {B:List Nat},(∀ k∈B,w'.heap[k]?=w.heap[k]?)->Els w G e xs f B->Els w' G' e xs f B
 |[],_,_,_,h=>h
 |x::xs,_,_,z,⟨c,b,M,B0,O,r,I,J⟩=>⟨c,b,M,B0,O,r,I.carry H y (λk u=>z k (by rw[r];exact BD _ u)),Els.carry H y (λk u=>z k (by rw[r];exact BE _ u)) J⟩
theorem yl {w:World}{G:Nat->Prop}{e:Ty}:∀ (xs:List e.den) (flat:List Value) (r:Nat->List Nat),flat.length=xs.length*e.cells ->
  (∀ j (x:e.den),xs[j]?=some x->∃ c,Mx w G e none 0 x c (r j)/\∀ i u,c[i]?=some u->flat[j*e.cells+i]?=some u)->Els w G e xs flat ((BW xs.length).flatMap r)
 |[],flat,r,H,_=>⟨List.eq_nil_of_length_eq_zero (by simpa using H),by simp⟩
 |x::xs,flat,r,H,h=>by
  obtain⟨c,M,R⟩:=h 0 x rfl;have hc:=M.len;rw[BL,BN]at H;have I:flat.take e.cells=c:=by
   refine List.ext_getElem? λj=>?_
   rw[List.getElem?_take];split
   ·rename_i J;have z:j<c.length:=by omega
    have:=R j c[j] (BM z);rw[Nat.zero_mul,Nat.zero_add]at this;rw[this,BM z]
   ·rename_i J;exact (List.getElem?_eq_none (by omega)).symm
  refine⟨c,r 0,flat.drop e.cells,(BW xs.length).flatMap λj=>r (j+1),by rw[<- I,BQ],?_,M,?_⟩
  ·rw[BL,BO,BS,BU]
  ·refine yl xs (flat.drop e.cells) (λj=>r (j+1)) (by rw[List.length_drop];omega) λj y J=>?_
   obtain⟨Z,O,X⟩:=h (j+1) y (by simpa using J);refine⟨Z,O,λi u Y=>?_⟩;rw[List.getElem?_drop,<- X i u Y,BN];congr 1;omega
theorem Els.to {w:World}{G:Nat->Prop}{e:Ty}:∀ {xs:List e.den} {flat:List Value} {B:List Nat},Els w G e xs flat B ->
  ∃ r:Nat->List Nat,B=(BW xs.length).flatMap r/\∀ j (x:e.den),xs[j]?=some x->∃ c,Mx w G e none 0 x c (r j)/\∀ i u,c[i]?=some u->flat[j*e.cells+i]?=some u
 |[],_,_,⟨_,h⟩=>⟨λ_=>[],by rw[h];simp,by simp⟩
 |x::xs,_,_,⟨c,b,f,B',M,O,J,X⟩=>by
  obtain⟨r,Z,h6⟩:=Els.to X;refine⟨λj=>match j with|0=>b|j+1=>r j,?_,λj y I=>?_⟩
  ·rw[O,Z,BL,BO,BS,BU]
  ·have hc:=J.len;cases j with
   |zero =>
    simp only[List.getElem?_cons_zero,BT]at I;subst I;refine⟨c,J,λi u z=>?_⟩;have H:=(List.getElem?_eq_some_iff.1 z).1;rw[M,Nat.zero_mul,Nat.zero_add,List.getElem?_append_left H];exact z
   |succ j =>
    obtain⟨c',Y,R⟩:=h6 j y (by simpa using I);refine⟨c',Y,λi u z=>?_⟩;rw[M,BN,List.getElem?_append_right (by omega),<- R i u z];congr 1;omega
theorem qT {w:World}{G:Nat->Prop}{E:TypeId}{e:Ty}{xs:List e.den}{v:Value}{bs:List Nat}(h:OwB w G none E e xs v bs):∃ r B,Row w E e.cells v xs.length r/\bs=v.ownBlock.toList++B/\Els w G e xs r B:=by
 obtain⟨r,u,y,H,z⟩:=h;exact⟨r,_,y,H,yl xs r u y.1 (λj x M=>by obtain⟨c,I,J⟩:=z j x M;exact⟨c,I,J⟩)⟩
theorem vz {w:World}{G:Nat->Prop}{E:TypeId}{e:Ty}{xs:List e.den}{v:Value}{flat:List Value}{B:List Nat}(M:Row w E e.cells v xs.length flat)(y:Els w G e xs flat B):OwB w G none E e xs v (v.ownBlock.toList++B):=by
 obtain⟨r,u,z⟩:=y.to;exact⟨flat,r,M,by rw[u],λj x I=>by obtain⟨c,H,J⟩:=z j x I;exact⟨c,H,J⟩⟩
theorem Els.deep {w:World}{G G':Nat->Prop}{e:Ty}(r:e.shy=false):∀ {xs:List e.den} {f:List Value} {B:List Nat},Els w G e xs f B->Els w G' e xs f B
 |[],_,_,h=>h
 |x::xs,_,_,⟨c,b,H,B0,I,y,u,z⟩=>⟨c,b,H,B0,I,y,u.deep r,Els.deep r z⟩
def lP (P:Program)(f:FuncId)(E:TypeId)(s z:Nat):Prop :=
 ∀ (w:World) (H J:Value) (n m i:Nat) (r y:List Value),Row w E s H n r->Row w E s J m y->(∀ u∈r,u.oneCell'=true)->(∀ u∈y,u.oneCell'=true)->0<m->i<=n ->
  (∀ k∈H.ownBlock.toList,k∉J.ownBlock.toList)->(n+m)*z<=140737488355328 ->
  Calls P f #[H,.int .i64 i,J] w λe M=>∃ I,e=.returned I/\Row M E s I (n+m) (r.take (i*s)++y++r.drop (i*s))/\w.grownBy M H.ownBlock/\(I.ownBlock=H.ownBlock\/I.ownBlock=some w.heap.size)
theorem kK {P:Program}{f:FuncId}{E:TypeId}{e:Ty}{O:Nat}{H:Bool}(hE:fU P f)(hd:e.shy=false)(b4:lP P f E e.cells O) :
  bP P ⟨f,[.own (.list true E e),.rd (.int .i64),.own (.list true E e)],[.v (.list true E e)],H,λx=>iw e O x.1 x.2.1 x.2.2.1⟩:=by
 refine⟨hE,?_⟩;intro w ro x vs e3 y b9 cw Z u;obtain⟨xs,i,zs,_⟩:=x;obtain⟨v0,dd,b0,e5,rfl,rfl,⟨c3,bb,bn⟩,v1,e4,b1,d3,rfl,rfl,⟨cy,cc,ba,a9⟩,v2,dc,b2,d2,rfl,rfl,⟨cp,b5,c2⟩,rfl,rfl⟩:=b9;have bb:c3=[v0]:=bb;have ba:cc=[v1]:=ba;have b5:cp=[v2]:=b5;subst bb ba b5 cy;have a9:[v1]=[Value.int .i64 i]:=a9;simp only[BV,and_true]at a9;subst a9;rw[bJ (by simp)]at bn c2;obtain⟨u0,e0,H0⟩:=bn;obtain⟨u2,e2,H2⟩:=c2;simp only[BV,and_true]at e0 e2;subst e0 e2;obtain⟨a3,B0,r0,z,l0⟩:=qT H0;obtain⟨b3,B2,r2,a0,l2⟩:=qT H2;have u:iw e O xs i zs=some y:=u;unfold iw at u;split at u
 ·rename_i hc;obtain⟨cb,e1,hm,c4⟩:=hc;simp only[BT]at u;subst u;obtain⟨j,rfl⟩:∃ j:Nat,i=(j:Int):=Int.eq_ofNat_of_zero_le cb;have hj:j<=xs.length:=by omega
  simp only[BH,BI,BJ,BK]at Z cw ⊢;have a6:∀ k∈b0,k∉b2:=λk I Y=>(BF.1 Z).2.2 k I k Y rfl
  refine (b4 w v0 v2 xs.length zs.length j a3 b3 r0 r2 l0.one l2.one hm hj (λk I Y=>a6 k (by rw[z];exact BD _ I) (by rw[a0];exact BD _ Y)) (by simpa only[ak]using c4)).mono λen w'=>?_
  rintro⟨v',rfl,r',hgr,hown⟩;have hx:xs=xs.take j++xs.drop j:=(BQ j xs).symm;have c1:=l0;rw[hx]at c1;obtain⟨f1,f2,C1,C2,ef,ec,l1,l3⟩:=Els.split c1;have c0:f1.length=j*e.cells:=by rw[l1.len,List.length_take,Nat.min_eq_left hj]
  have et:a3.take (j*e.cells)=f1:=by rw[ef];exact List.take_left' c0
  have ed:a3.drop (j*e.cells)=f2:=by rw[ef];exact List.drop_left' c0
  rw[et,ed]at r';have X:b0.Nodup:=(BF.1 Z).1;have d1:b2.Nodup:=(BF.1 Z).2.1;have a5:∀ k∈b0,k<w.heap.size:=H0.lt;have ad:∀ k∈b2,k<w.heap.size:=H2.lt;have J:∀ k,k<w.heap.size->k∉v0.ownBlock.toList->w'.heap[k]?=w.heap[k]?:=λk r hn=>hgr.block k r (λh=>hn (by rw[<- h];simp))
  have bx:∀ k∈B0,w'.heap[k]?=w.heap[k]?:=λk r=>J k (a5 k (by rw[z];exact BE _ r)) (λh=>by
   rw[z]at X;exact (BF.1 X).2.2 k h k r rfl)
  have cu:∀ k∈B2,w'.heap[k]?=w.heap[k]?:=λk r=>J k (ad k (by rw[a0];exact BE _ r)) (λh=>a6 k (by rw[z];exact BD _ h) (by rw[a0];exact BE _ r))
  have M:∀ k,(λ_:Nat=>False) k->w'.heap[k]?=w.heap[k]?:=λ_ h=>h.elim
  have L1:Els w' (λk=>False\/(H=false/\ro k)) e (xs.take j) f1 C1:=((l1.deep (G':=λ_=>False) hd).carry (λ_ h=>h.elim) M (λk r=>bx k (by rw[ec];exact BD _ r)));have L3:Els w' (λk=>False\/(H=false/\ro k)) e (xs.drop j) f2 C2:=((l3.deep (G':=λ_=>False) hd).carry (λ_ h=>h.elim) M (λk r=>bx k (by rw[ec];exact BE _ r)));have L2:Els w' (λk=>False\/(H=false/\ro k)) e zs b3 B2:=((l2.deep (G':=λ_=>False) hd).carry (λ_ h=>h.elim) M cu);have L:=(L1.append L2).append L3;have bl:(xs.take j++zs++xs.drop j).length=xs.length+zs.length:=by simp;omega
  rw[<- bl]at r';have R:=vz r' L;have a2:(C1++B2++C2).Perm (B0++B2):=by
   rw[ec,BG,BG];exact List.Perm.append_left C1 List.perm_append_comm
  have cx:(B0++B2).Nodup:=by
   rw[z,a0]at Z;have I:=BF.1 Z;refine BF.2 ⟨(BF.1 I.1).2.1,(BF.1 I.2.1).2.1,λa ha b hb=>I.2.2 a (BE _ ha) b (BE _ hb)⟩
  have a4:∀ k,k∈C1++B2++C2->k∈b0++b2/\k<w.heap.size/\k∉v0.ownBlock.toList:=by
   intro k r;rcases BP.1 (a2.mem_iff.1 r) with h|h
   ·have I:k∈b0:=by rw[z];exact BE _ h
    refine⟨BD _ I,a5 k I,λY=>?_⟩;rw[z]at X;exact (BF.1 X).2.2 k Y k h rfl
   ·have I:k∈b2:=by rw[a0];exact BE _ h
    exact⟨BE _ I,ad k I,λY=>a6 k (by rw[z];exact BD _ Y) I⟩
  have a1:∀ k∈v'.ownBlock.toList,(k∈v0.ownBlock.toList\/k=w.heap.size):=by
   intro k r;rcases hown with h|h
   ·rw[h]at r;exact .inl r
   ·rw[h]at r;simp at r;exact .inr r
  refine⟨v',[v'],λ_=>False,[[],[],[]],[v'.ownBlock.toList++(C1++B2++C2)],rfl,rfl,hgr.size,hgr.os,hgr.tape,hgr.output,?_,?_,?_,?_,?_,?_⟩
  ·intro k r hn;refine J k r (λh=>hn ?_);simp only[BH,BI,BJ,BK];exact BD _ (by rw[z];exact BD _ h)
  ·intro k h;exact h.elim
  ·exact⟨rfl,rfl,rfl,trivial⟩
  ·refine⟨v',[],_,[],rfl,rfl,⟨[v'],rfl,?_⟩,rfl,rfl⟩;rw[bJ (by simp)];exact⟨v',rfl,R⟩
  ·simp only[BH,BI,BJ,BK];refine BF.2 ⟨?_,a2.nodup_iff.2 cx,λa ha b hb=>?_⟩
   ·cases v'.ownBlock <;> simp
   ·rintro rfl;obtain⟨_,Y,h3⟩:=a4 a hb;rcases a1 a ha with h|h
    ·exact h3 h
    ·omega
  ·intro k r;simp only[BH,BI,BJ,BK]at r;refine⟨?_,λh=>h⟩;rcases BP.1 r with h|h
   ·rcases a1 k h with Y|Y
    ·have h3:k∈b0:=by rw[z];exact BD _ Y
     refine⟨BR (a5 k h3) hgr.size,.inr ?_⟩;simp only[BH,BI,BJ,BK];exact BD _ h3
    ·exact⟨r'.lt k h,.inl (by omega)⟩
   ·obtain⟨I,Y,_⟩:=a4 k h;refine⟨BR Y hgr.size,.inr ?_⟩;simp only[BH,BI,BJ,BK];exact I
 ·cases u
end Go.Proofs.YtaegajachoklkaaGreatEv
