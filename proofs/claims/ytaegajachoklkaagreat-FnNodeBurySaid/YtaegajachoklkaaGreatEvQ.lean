/- Elements side by side; slices.Insert: from what its walk says to its contract. -/
import Derived.Test.YtaegajachoklkaaGreatE3
import Derived.Test.YtaegajachoklkaaGreatE0
set_option linter.unusedVariables false
set_option linter.unusedSimpArgs false
open List renaming mem_append_left->BU,mem_append_right->BV,nodup_append->BW,append_assoc->BX,flatten_cons->BY,flatten_nil->BZ,append_nil->B3,nil_append->B4,length_cons->B5,getElem?_eq_getElem->B6,range_succ_eq_map->B8,mem_append->B9,take_append_drop->CA,flatMap_cons->CC,flatMap_map->CE,range->CG
open List.cons renaming injEq->CF
open Nat renaming succ_mul->B7,lt_of_lt_of_le->CB
open Option.some renaming injEq->CD
namespace Go.Proofs.YtaegajachoklkaaGreatEv
open Go Go.RowKit
def Els (w:World)(G:Nat->Prop)(e:Ty):List e.den->List Value->List Nat->Prop
 |[],u,B=>u=[]/\B=[]
 |x::z,u,B=>∃ c b r y,u=c++r/\B=b++y/\Mx w G e none 0 x c b/\Els w G e z r y
theorem Els.len {w:World}{G:Nat->Prop}{e:Ty}:∀ {xs:List e.den} {flat:List Value} {B:List Nat},Els w G e xs flat B->flat.length=xs.length*e.cells
 |[],_,_,⟨h,_⟩=>by rw[h];simp
 |x::xs,_,_,⟨c,b,f,z,r,_,u,y⟩=>by
  rw[r,List.length_append,u.len,Els.len y,B5,B7];omega
theorem Els.one {w:World}{G:Nat->Prop}{e:Ty}:∀ {xs:List e.den} {flat:List Value} {B:List Nat},Els w G e xs flat B->∀ u∈flat,u.oneCell'=true
 |[],_,_,⟨h,_⟩=>by rw[h];simp
 |x::xs,_,_,⟨c,b,f,I,y,_,z,H⟩=>by
  rw[y];intro u r;rcases B9.1 r with r|r
  ·exact z.one u r
  ·exact Els.one H u r
theorem Els.append {w:World}{G:Nat->Prop}{e:Ty}:∀ {xs H:List e.den} {f u:List Value} {B r:List Nat},Els w G e xs f B->Els w G e H u r->Els w G e (xs++H) (f++u) (B++r)
 |[],_,_,_,_,_,⟨y,z⟩,h=>by rw[y,z];exact h
 |x::xs,H,_,u,_,r,⟨c,b,M,B0,y,z,I,J⟩,h=>⟨c,b,M++u,B0++r,by rw[y,BX],by rw[z,BX],I,Els.append J h⟩
theorem Els.split {w:World}{G:Nat->Prop}{e:Ty}:∀ {xs H:List e.den} {f:List Value} {B:List Nat},Els w G e (xs++H) f B->∃ r y u z,f=r++y/\B=u++z/\Els w G e xs r u/\Els w G e H y z
 |[],_,f,B,h=>⟨[],f,[],B,rfl,rfl,⟨rfl,rfl⟩,h⟩
 |x::xs,H,_,_,⟨c,b,f0,B0,I,M,J,X⟩=>by
  obtain⟨r,y,u,z,Y,Z,R,O⟩:=Els.split X;exact⟨c++r,y,b++u,z,by rw[I,Y,BX],by rw[M,Z,BX],⟨c,b,r,u,rfl,rfl,J,R⟩,O⟩
theorem Els.carry {w w':World}{G G':Nat->Prop}(H:∀ k,G k->G' k)(y:∀ k,G k->w'.heap[k]?=w.heap[k]?){e:Ty}:∀ {xs:List e.den} {f:List Value} {B:List Nat},(∀ k∈B,w'.heap[k]?=w.heap[k]?)->Els w G e xs f B->Els w' G' e xs f B
 |[],_,_,_,h=>h
 |x::xs,_,_,z,⟨c,b,O,B0,I,r,J,M⟩=>⟨c,b,O,B0,I,r,J.carry H y (λk u=>z k (by rw[r];exact BU _ u)),Els.carry H y (λk u=>z k (by rw[r];exact BV _ u)) M⟩
theorem yG {w:World}{G:Nat->Prop}{e:Ty}:∀ (xs:List e.den) (flat:List Value) (r:Nat->List Nat),flat.length=xs.length*e.cells ->
  (∀ j (x:e.den),xs[j]?=some x->∃ c,Mx w G e none 0 x c (r j)/\∀ i u,c[i]?=some u->flat[j*e.cells+i]?=some u)->Els w G e xs flat ((CG xs.length).flatMap r)
 |[],flat,r,I,_=>⟨List.eq_nil_of_length_eq_zero (by simpa using I),by simp⟩
 |x::xs,flat,r,I,h=>by
  obtain⟨c,M,R⟩:=h 0 x rfl;have hc:=M.len;rw[B5,B7]at I;have J:flat.take e.cells=c:=by
   refine List.ext_getElem? λj=>?_
   rw[List.getElem?_take];split
   ·rename_i H;have z:j<c.length:=by omega
    have:=R j c[j] (B6 z);rw[Nat.zero_mul,Nat.zero_add]at this;rw[this,B6 z]
   ·rename_i H;exact (List.getElem?_eq_none (by omega)).symm
  refine⟨c,r 0,flat.drop e.cells,(CG xs.length).flatMap λj=>r (j+1),by rw[<- J,CA],?_,M,?_⟩
  ·rw[B5,B8,CC,CE]
  ·refine yG xs (flat.drop e.cells) (λj=>r (j+1)) (by rw[List.length_drop];omega) λj y H=>?_
   obtain⟨Y,O,X⟩:=h (j+1) y (by simpa using H);refine⟨Y,O,λi u Z=>?_⟩;rw[List.getElem?_drop,<- X i u Z,B7];congr 1;omega
theorem Els.to {w:World}{G:Nat->Prop}{e:Ty}:∀ {xs:List e.den} {flat:List Value} {B:List Nat},Els w G e xs flat B ->
  ∃ r:Nat->List Nat,B=(CG xs.length).flatMap r/\∀ j (x:e.den),xs[j]?=some x->∃ c,Mx w G e none 0 x c (r j)/\∀ i u,c[i]?=some u->flat[j*e.cells+i]?=some u
 |[],_,_,⟨_,h⟩=>⟨λ_=>[],by rw[h];simp,by simp⟩
 |x::xs,_,_,⟨c,b,f,B',J,R,M,h4⟩=>by
  obtain⟨r,Z,Y⟩:=Els.to h4;refine⟨λj=>match j with|0=>b|j+1=>r j,?_,λj y H=>?_⟩
  ·rw[R,Z,B5,B8,CC,CE]
  ·have hc:=M.len;cases j with
   |zero =>
    simp only[List.getElem?_cons_zero,CD]at H;subst H;refine⟨c,M,λi u z=>?_⟩;have I:=(List.getElem?_eq_some_iff.1 z).1;rw[J,Nat.zero_mul,Nat.zero_add,List.getElem?_append_left I];exact z
   |succ j =>
    obtain⟨c',X,O⟩:=Y j y (by simpa using H);refine⟨c',X,λi u z=>?_⟩;rw[J,B7,List.getElem?_append_right (by omega),<- O i u z];congr 1;omega
theorem re {w:World}{G:Nat->Prop}{E:TypeId}{e:Ty}{xs:List e.den}{v:Value}{bs:List Nat}(h:OwB w G none E e xs v bs):∃ r B,Row w E e.cells v xs.length r/\bs=v.ownBlock.toList++B/\Els w G e xs r B:=by
 obtain⟨r,u,y,H,z⟩:=h;exact⟨r,_,y,H,yG xs r u y.1 (λj x I=>by obtain⟨c,M,J⟩:=z j x I;exact⟨c,M,J⟩)⟩
theorem vE {w:World}{G:Nat->Prop}{E:TypeId}{e:Ty}{xs:List e.den}{v:Value}{flat:List Value}{B:List Nat}(u:Row w E e.cells v xs.length flat)(z:Els w G e xs flat B):OwB w G none E e xs v (v.ownBlock.toList++B):=by
 obtain⟨r,y,M⟩:=z.to;exact⟨flat,r,u,by rw[y],λj x I=>by obtain⟨c,J,H⟩:=M j x I;exact⟨c,J,H⟩⟩
theorem Els.deep {w:World}{G G':Nat->Prop}{e:Ty}(r:e.shy=false):∀ {xs:List e.den} {f:List Value} {B:List Nat},Els w G e xs f B->Els w G' e xs f B
 |[],_,_,h=>h
 |x::xs,_,_,⟨c,b,I,B0,u,z,y,H⟩=>⟨c,b,I,B0,u,z,y.deep r,Els.deep r H⟩
def lV (P:Program)(f:FuncId)(E:TypeId)(s z:Nat):Prop :=
 ∀ (w:World) (H J:Value) (n m i:Nat) (r y:List Value),Row w E s H n r->Row w E s J m y->(∀ u∈r,u.oneCell'=true)->(∀ u∈y,u.oneCell'=true)->0<m->i<=n ->
  (∀ k∈H.ownBlock.toList,k∉J.ownBlock.toList)->(n+m)*z<=140737488355328 ->
  Calls P f #[H,.int .i64 i,J] w λe M=>∃ I,e=.returned I/\Row M E s I (n+m) (r.take (i*s)++y++r.drop (i*s))/\w.grownBy M H.ownBlock/\(I.ownBlock=H.ownBlock\/I.ownBlock=some w.heap.size)
theorem kL {P:Program}{f:FuncId}{E:TypeId}{e:Ty}{J:Nat}{M:Bool}(hE:ge P f)(hd:e.shy=false\/M=false)(b4:lV P f E e.cells J) :
  bT P ⟨f,[.own (.list true E e),.rd (.int .i64),.own (.list true E e)],[.v (.list true E e)],M,λx=>iE e J x.1 x.2.1 x.2.2.1⟩:=by
 refine⟨hE,?_⟩;intro w ro x vs d2 y a8 ad X u;obtain⟨xs,i,zs,_⟩:=x;obtain⟨v0,d3,b0,e3,rfl,rfl,⟨cc,b9,bl⟩,v1,dd,b1,d1,rfl,rfl,⟨c4,cw,b3,a6⟩,v2,dc,b2,e1,rfl,rfl,⟨cp,b5,c2⟩,rfl,rfl⟩:=a8;have b9:cc=[v0]:=b9;have b3:cw=[v1]:=b3;have b5:cp=[v2]:=b5;subst b9 b3 b5 c4;have a6:[v1]=[Value.int .i64 i]:=a6;simp only[CF,and_true]at a6;subst a6;rw[bM (by simp)]at bl c2;obtain⟨u0,e0,H0⟩:=bl;obtain⟨u2,e2,H2⟩:=c2;simp only[CF,and_true]at e0 e2;subst e0 e2;obtain⟨a3,B0,r0,z,l0⟩:=re H0;obtain⟨c1,B2,r2,Z,l2⟩:=re H2;have u:iE e J xs i zs=some y:=u;unfold iE at u;split at u
 ·rename_i hc;obtain⟨c3,e4,hm,cu⟩:=hc;simp only[CD]at u;subst u;obtain⟨j,rfl⟩:∃ j:Nat,i=(j:Int):=Int.eq_ofNat_of_zero_le c3;have hj:j<=xs.length:=by omega
  simp only[BY,BZ,B3,B4]at X ad ⊢;have a0:∀ k∈b0,k∉b2:=λk I Y=>(BW.1 X).2.2 k I k Y rfl
  refine (b4 w v0 v2 xs.length zs.length j a3 c1 r0 r2 l0.one l2.one hm hj (λk I Y=>a0 k (by rw[z];exact BU _ I) (by rw[Z];exact BU _ Y)) (by simpa only[ak]using cu)).mono λen w'=>?_
  rintro⟨v',rfl,r',hgr,hown⟩;have hx:xs=xs.take j++xs.drop j:=(CA j xs).symm;have c0:=l0;rw[hx]at c0;obtain⟨f1,f2,C1,C2,ef,ec,l1,l3⟩:=Els.split c0;have ba:f1.length=j*e.cells:=by rw[l1.len,List.length_take,Nat.min_eq_left hj]
  have et:a3.take (j*e.cells)=f1:=by rw[ef];exact List.take_left' ba
  have ed:a3.drop (j*e.cells)=f2:=by rw[ef];exact List.drop_left' ba
  rw[et,ed]at r';have O:b0.Nodup:=(BW.1 X).1;have cy:b2.Nodup:=(BW.1 X).2.1;have a5:∀ k∈b0,k<w.heap.size:=H0.lt;have a7:∀ k∈b2,k<w.heap.size:=H2.lt;have H:∀ k,k<w.heap.size->k∉v0.ownBlock.toList->w'.heap[k]?=w.heap[k]?:=λk r hn=>hgr.block k r (λh=>hn (by rw[<- h];simp))
  have bn:∀ k∈B0,w'.heap[k]?=w.heap[k]?:=λk r=>H k (a5 k (by rw[z];exact BV _ r)) (λh=>by
   rw[z]at O;exact (BW.1 O).2.2 k h k r rfl)
  have cx:∀ k∈B2,w'.heap[k]?=w.heap[k]?:=λk r=>H k (a7 k (by rw[Z];exact BV _ r)) (λh=>a0 k (by rw[z];exact BU _ h) (by rw[Z];exact BV _ r))
  have a9:∀ k,(λ_:Nat=>False) k->w'.heap[k]?=w.heap[k]?:=λ_ h=>h.elim
  have bb:∀ k,ro k->w'.heap[k]?=w.heap[k]?:=λk r=>H k (ad k r).1 (λh=>(ad k r).2 (BU _ (by rw[z];exact BU _ h)))
  have hL:∀ {ys:List e.den} {f:List Value} {B:List Nat},Els w ro e ys f B->(∀ k∈B,w'.heap[k]?=w.heap[k]?)->Els w' (λk=>False\/(M=false/\ro k)) e ys f B:=λh hB=>by
   rcases hd with hd|hf
   ·exact (h.deep (G':=λ_=>False) hd).carry (λ_ h=>h.elim) a9 hB
   ·exact h.carry (λk r=>.inr ⟨hf,r⟩) bb hB
  have L1:=hL l1 λk r=>bn k (by rw[ec];exact BU _ r)
  have L3:=hL l3 λk r=>bn k (by rw[ec];exact BV _ r)
  have L2:=hL l2 cx;have L:=(L1.append L2).append L3;have bx:(xs.take j++zs++xs.drop j).length=xs.length+zs.length:=by simp;omega
  rw[<- bx]at r';have R:=vE r' L;have a1:(C1++B2++C2).Perm (B0++B2):=by
   rw[ec,BX,BX];exact List.Perm.append_left C1 List.perm_append_comm
  have cb:(B0++B2).Nodup:=by
   rw[z,Z]at X;have I:=BW.1 X;refine BW.2 ⟨(BW.1 I.1).2.1,(BW.1 I.2.1).2.1,λa ha b hb=>I.2.2 a (BV _ ha) b (BV _ hb)⟩
  have a4:∀ k,k∈C1++B2++C2->k∈b0++b2/\k<w.heap.size/\k∉v0.ownBlock.toList:=by
   intro k r;rcases B9.1 (a1.mem_iff.1 r) with h|h
   ·have I:k∈b0:=by rw[z];exact BV _ h
    refine⟨BU _ I,a5 k I,λY=>?_⟩;rw[z]at O;exact (BW.1 O).2.2 k Y k h rfl
   ·have I:k∈b2:=by rw[Z];exact BV _ h
    exact⟨BV _ I,a7 k I,λY=>a0 k (by rw[z];exact BU _ Y) I⟩
  have a2:∀ k∈v'.ownBlock.toList,(k∈v0.ownBlock.toList\/k=w.heap.size):=by
   intro k r;rcases hown with h|h
   ·rw[h]at r;exact .inl r
   ·rw[h]at r;simp at r;exact .inr r
  refine⟨v',[v'],λ_=>False,[[],[],[]],[v'.ownBlock.toList++(C1++B2++C2)],rfl,rfl,hgr.size,hgr.os,hgr.tape,hgr.output,?_,?_,?_,?_,?_,?_⟩
  ·intro k r hn;refine H k r (λh=>hn ?_);simp only[BY,BZ,B3,B4];exact BU _ (by rw[z];exact BU _ h)
  ·intro k h;exact h.elim
  ·exact⟨rfl,rfl,rfl,trivial⟩
  ·refine⟨v',[],_,[],rfl,rfl,⟨[v'],rfl,?_⟩,rfl,rfl⟩;rw[bM (by simp)];exact⟨v',rfl,R⟩
  ·simp only[BY,BZ,B3,B4];refine BW.2 ⟨?_,a1.nodup_iff.2 cb,λa ha b hb=>?_⟩
   ·cases v'.ownBlock <;> simp
   ·rintro rfl;obtain⟨_,Y,h3⟩:=a4 a hb;rcases a2 a ha with h|h
    ·exact h3 h
    ·omega
  ·intro k r;simp only[BY,BZ,B3,B4]at r;refine⟨?_,λh=>h⟩;rcases B9.1 r with h|h
   ·rcases a2 k h with Y|Y
    ·have h3:k∈b0:=by rw[z];exact BU _ Y
     refine⟨CB (a5 k h3) hgr.size,.inr ?_⟩;simp only[BY,BZ,B3,B4];exact BU _ h3
    ·exact⟨r'.lt k h,.inl (by omega)⟩
   ·obtain⟨I,Y,_⟩:=a4 k h;refine⟨CB Y hgr.size,.inr ?_⟩;simp only[BY,BZ,B3,B4];exact I
 ·cases u
end Go.Proofs.YtaegajachoklkaaGreatEv
