/- Elements side by side; slices.Insert: from what its walk says to its contract. -/
import Derived.Test.YtadlacffdemoiaaGreatE3
import Derived.Test.YtadlacffdemoiaaGreatE0
set_option linter.unusedVariables false
set_option linter.unusedSimpArgs false
open List renaming mem_append_left->BA,mem_append_right->BB,nodup_append->BC,append_assoc->BD,flatten_cons->BE,flatten_nil->BF,append_nil->BG,nil_append->BH,length_cons->BI,getElem?_eq_getElem->BJ,range_succ_eq_map->BL,mem_append->BM,take_append_drop->BN,flatMap_cons->BP,flatMap_map->BR,range->BT
open List.cons renaming injEq->BS
open Nat renaming succ_mul->BK,lt_of_lt_of_le->BO
open Option.some renaming injEq->BQ
namespace Go.Proofs.YtadlacffdemoiaaGreatEv
open Go Go.RowKit
def Els (w:World)(G:Nat->Prop)(e:Ty):List e.den->List Value->List Nat->Prop
 |[],u,B=>u=[]/\B=[]
 |x::z,u,B=>∃ c b r y,u=c++r/\B=b++y/\Mx w G e none 0 x c b/\Els w G e z r y
theorem Els.len {w:World}{G:Nat->Prop}{e:Ty}:∀ {xs:List e.den} {flat:List Value} {B:List Nat},Els w G e xs flat B->flat.length=xs.length*e.cells
 |[],_,_,⟨h,_⟩=>by rw[h];simp
 |x::xs,_,_,⟨c,b,f,z,r,_,y,u⟩=>by
  rw[r,List.length_append,y.len,Els.len u,BI,BK];omega
theorem Els.one {w:World}{G:Nat->Prop}{e:Ty}:∀ {xs:List e.den} {flat:List Value} {B:List Nat},Els w G e xs flat B->∀ u∈flat,u.oneCell'=true
 |[],_,_,⟨h,_⟩=>by rw[h];simp
 |x::xs,_,_,⟨c,b,f,I,y,_,H,z⟩=>by
  rw[y];intro u r;rcases BM.1 r with r|r
  ·exact H.one u r
  ·exact Els.one z u r
theorem Els.append {w:World}{G:Nat->Prop}{e:Ty}:∀ {xs z:List e.den} {f u:List Value} {B r:List Nat},Els w G e xs f B->Els w G e z u r->Els w G e (xs++z) (f++u) (B++r)
 |[],_,_,_,_,_,⟨y,H⟩,h=>by rw[y,H];exact h
 |x::xs,z,_,u,_,r,⟨c,b,I,B0,y,H,M,J⟩,h=>⟨c,b,I++u,B0++r,by rw[y,BD],by rw[H,BD],M,Els.append J h⟩
theorem Els.split {w:World}{G:Nat->Prop}{e:Ty}:∀ {xs H:List e.den} {f:List Value} {B:List Nat},Els w G e (xs++H) f B->∃ r y u z,f=r++y/\B=u++z/\Els w G e xs r u/\Els w G e H y z
 |[],_,f,B,h=>⟨[],f,[],B,rfl,rfl,⟨rfl,rfl⟩,h⟩
 |x::xs,H,_,_,⟨c,b,f0,B0,J,Y,X,R⟩=>by
  obtain⟨r,y,u,z,O,Z,M,I⟩:=Els.split R;exact⟨c++r,y,b++u,z,by rw[J,O,BD],by rw[Y,Z,BD],⟨c,b,r,u,rfl,rfl,X,M⟩,I⟩
theorem Els.carry {w w':World}{G G':Nat->Prop}(z:∀ k,G k->G' k)(y:∀ k,G k->w'.heap[k]?=w.heap[k]?){e:Ty}:∀ {xs:List e.den} {f:List Value} {B:List Nat},(∀ k∈B,w'.heap[k]?=w.heap[k]?)->Els w G e xs f B->Els w' G' e xs f B
 |[],_,_,_,h=>h
 |x::xs,_,_,H,⟨c,b,I,B0,J,u,O,M⟩=>⟨c,b,I,B0,J,u,O.carry z y (λk r=>H k (by rw[u];exact BA _ r)),Els.carry z y (λk r=>H k (by rw[u];exact BB _ r)) M⟩
theorem xZ {w:World}{G:Nat->Prop}{e:Ty}:∀ (xs:List e.den) (flat:List Value) (r:Nat->List Nat),flat.length=xs.length*e.cells ->
  (∀ j (x:e.den),xs[j]?=some x->∃ c,Mx w G e none 0 x c (r j)/\∀ i u,c[i]?=some u->flat[j*e.cells+i]?=some u)->Els w G e xs flat ((BT xs.length).flatMap r)
 |[],flat,r,H,_=>⟨List.eq_nil_of_length_eq_zero (by simpa using H),by simp⟩
 |x::xs,flat,r,H,h=>by
  obtain⟨c,M,X⟩:=h 0 x rfl;have hc:=M.len;rw[BI,BK]at H;have J:flat.take e.cells=c:=by
   refine List.ext_getElem? λj=>?_
   rw[List.getElem?_take];split
   ·rename_i I;have z:j<c.length:=by omega
    have:=X j c[j] (BJ z);rw[Nat.zero_mul,Nat.zero_add]at this;rw[this,BJ z]
   ·rename_i I;exact (List.getElem?_eq_none (by omega)).symm
  refine⟨c,r 0,flat.drop e.cells,(BT xs.length).flatMap λj=>r (j+1),by rw[<- J,BN],?_,M,?_⟩
  ·rw[BI,BL,BP,BR]
  ·refine xZ xs (flat.drop e.cells) (λj=>r (j+1)) (by rw[List.length_drop];omega) λj y I=>?_
   obtain⟨Z,R,O⟩:=h (j+1) y (by simpa using I);refine⟨Z,R,λi u Y=>?_⟩;rw[List.getElem?_drop,<- O i u Y,BK];congr 1;omega
theorem Els.to {w:World}{G:Nat->Prop}{e:Ty}:∀ {xs:List e.den} {flat:List Value} {B:List Nat},Els w G e xs flat B ->
  ∃ r:Nat->List Nat,B=(BT xs.length).flatMap r/\∀ j (x:e.den),xs[j]?=some x->∃ c,Mx w G e none 0 x c (r j)/\∀ i u,c[i]?=some u->flat[j*e.cells+i]?=some u
 |[],_,_,⟨_,h⟩=>⟨λ_=>[],by rw[h];simp,by simp⟩
 |x::xs,_,_,⟨c,b,f,B',J,Z,M,Y⟩=>by
  obtain⟨r,R,O⟩:=Els.to Y;refine⟨λj=>match j with|0=>b|j+1=>r j,?_,λj y H=>?_⟩
  ·rw[Z,R,BI,BL,BP,BR]
  ·have hc:=M.len;cases j with
   |zero =>
    simp only[List.getElem?_cons_zero,BQ]at H;subst H;refine⟨c,M,λi u z=>?_⟩;have I:=(List.getElem?_eq_some_iff.1 z).1;rw[J,Nat.zero_mul,Nat.zero_add,List.getElem?_append_left I];exact z
   |succ j =>
    obtain⟨c',X,h8⟩:=O j y (by simpa using H);refine⟨c',X,λi u z=>?_⟩;rw[J,BK,List.getElem?_append_right (by omega),<- h8 i u z];congr 1;omega
theorem qN {w:World}{G:Nat->Prop}{E:TypeId}{e:Ty}{xs:List e.den}{v:Value}{bs:List Nat}(h:OwB w G none E e xs v bs):∃ r B,Row w E e.cells v xs.length r/\bs=v.ownBlock.toList++B/\Els w G e xs r B:=by
 obtain⟨r,u,y,M,J⟩:=h;exact⟨r,_,y,M,xZ xs r u y.1 (λj x z=>by obtain⟨c,I,H⟩:=J j x z;exact⟨c,I,H⟩)⟩
theorem vg {w:World}{G:Nat->Prop}{E:TypeId}{e:Ty}{xs:List e.den}{v:Value}{flat:List Value}{B:List Nat}(z:Row w E e.cells v xs.length flat)(M:Els w G e xs flat B):OwB w G none E e xs v (v.ownBlock.toList++B):=by
 obtain⟨r,J,I⟩:=M.to;exact⟨flat,r,z,by rw[J],λj x y=>by obtain⟨c,H,u⟩:=I j x y;exact⟨c,H,u⟩⟩
theorem Els.deep {w:World}{G G':Nat->Prop}{e:Ty}(r:e.shy=false):∀ {xs:List e.den} {f:List Value} {B:List Nat},Els w G e xs f B->Els w G' e xs f B
 |[],_,_,h=>h
 |x::xs,_,_,⟨c,b,u,B0,y,I,H,z⟩=>⟨c,b,u,B0,y,I,H.deep r,Els.deep r z⟩
def jj (P:Program)(f:FuncId)(E:TypeId)(s z:Nat):Prop :=
 ∀ (w:World) (H J:Value) (n m i:Nat) (r y:List Value),Row w E s H n r->Row w E s J m y->(∀ u∈r,u.oneCell'=true)->(∀ u∈y,u.oneCell'=true)->0<m->i<=n ->
  (∀ k∈H.ownBlock.toList,k∉J.ownBlock.toList)->(n+m)*z<=140737488355328 ->
  Calls P f #[H,.int .i64 i,J] w λe M=>∃ I,e=.returned I/\Row M E s I (n+m) (r.take (i*s)++y++r.drop (i*s))/\w.grownBy M H.ownBlock/\(I.ownBlock=H.ownBlock\/I.ownBlock=some w.heap.size)
theorem gE {P:Program}{f:FuncId}{E:TypeId}{e:Ty}{M:Nat}{J:Bool}(hE:fO P f)(hd:e.shy=false\/J=false)(bb:jj P f E e.cells M) :
  bO P ⟨f,[.own (.list true E e),.rd (.int .i64),.own (.list true E e)],[.v (.list true E e)],J,λx=>fN e M x.1 x.2.1 x.2.2.1⟩:=by
 refine⟨hE,?_⟩;intro w ro x vs e1 y b3 b4 X u;obtain⟨xs,i,zs,_⟩:=x;obtain⟨v0,d1,b0,dd,rfl,rfl,⟨cp,b9,c0⟩,v1,dc,b1,d2,rfl,rfl,⟨cw,cc,b5,a6⟩,v2,e4,b2,d3,rfl,rfl,⟨c5,ad,c2⟩,rfl,rfl⟩:=b3;have b9:cp=[v0]:=b9;have b5:cc=[v1]:=b5;have ad:c5=[v2]:=ad;subst b9 b5 ad cw;have a6:[v1]=[Value.int .i64 i]:=a6;simp only[BS,and_true]at a6;subst a6;rw[bH (by simp)]at c0 c2;obtain⟨u0,e0,H0⟩:=c0;obtain⟨u2,e2,H2⟩:=c2;simp only[BS,and_true]at e0 e2;subst e0 e2;obtain⟨a5,B0,r0,z,l0⟩:=qN H0;obtain⟨c4,B2,r2,a2,l2⟩:=qN H2;have u:fN e M xs i zs=some y:=u;unfold fN at u;split at u
 ·rename_i hc;obtain⟨cb,e3,hm,cx⟩:=hc;simp only[BQ]at u;subst u;obtain⟨j,rfl⟩:∃ j:Nat,i=(j:Int):=Int.eq_ofNat_of_zero_le cb;have hj:j<=xs.length:=by omega
  simp only[BE,BF,BG,BH]at X b4 ⊢;have a1:∀ k∈b0,k∉b2:=λk I Y=>(BC.1 X).2.2 k I k Y rfl
  refine (bb w v0 v2 xs.length zs.length j a5 c4 r0 r2 l0.one l2.one hm hj (λk I Y=>a1 k (by rw[z];exact BA _ I) (by rw[a2];exact BA _ Y)) (by simpa only[an]using cx)).mono λen w'=>?_
  rintro⟨v',rfl,r',hgr,hown⟩;have hx:xs=xs.take j++xs.drop j:=(BN j xs).symm;have bl:=l0;rw[hx]at bl;obtain⟨f1,f2,C1,C2,ef,ec,l1,l3⟩:=Els.split bl;have c3:f1.length=j*e.cells:=by rw[l1.len,List.length_take,Nat.min_eq_left hj]
  have et:a5.take (j*e.cells)=f1:=by rw[ef];exact List.take_left' c3
  have ed:a5.drop (j*e.cells)=f2:=by rw[ef];exact List.drop_left' c3
  rw[et,ed]at r';have O:b0.Nodup:=(BC.1 X).1;have cy:b2.Nodup:=(BC.1 X).2.1;have Z:∀ k∈b0,k<w.heap.size:=H0.lt;have a9:∀ k∈b2,k<w.heap.size:=H2.lt;have H:∀ k,k<w.heap.size->k∉v0.ownBlock.toList->w'.heap[k]?=w.heap[k]?:=λk r hn=>hgr.block k r (λh=>hn (by rw[<- h];simp))
  have c1:∀ k∈B0,w'.heap[k]?=w.heap[k]?:=λk r=>H k (Z k (by rw[z];exact BB _ r)) (λh=>by
   rw[z]at O;exact (BC.1 O).2.2 k h k r rfl)
  have c6:∀ k∈B2,w'.heap[k]?=w.heap[k]?:=λk r=>H k (a9 k (by rw[a2];exact BB _ r)) (λh=>a1 k (by rw[z];exact BA _ h) (by rw[a2];exact BB _ r))
  have ba:∀ k,(λ_:Nat=>False) k->w'.heap[k]?=w.heap[k]?:=λ_ h=>h.elim
  have bx:∀ k,ro k->w'.heap[k]?=w.heap[k]?:=λk r=>H k (b4 k r).1 (λh=>(b4 k r).2 (BA _ (by rw[z];exact BA _ h)))
  have hL:∀ {ys:List e.den} {f:List Value} {B:List Nat},Els w ro e ys f B->(∀ k∈B,w'.heap[k]?=w.heap[k]?)->Els w' (λk=>False\/(J=false/\ro k)) e ys f B:=λh hB=>by
   rcases hd with hd|hf
   ·exact (h.deep (G':=λ_=>False) hd).carry (λ_ h=>h.elim) ba hB
   ·exact h.carry (λk r=>.inr ⟨hf,r⟩) bx hB
  have L1:=hL l1 λk r=>c1 k (by rw[ec];exact BA _ r)
  have L3:=hL l3 λk r=>c1 k (by rw[ec];exact BB _ r)
  have L2:=hL l2 c6;have L:=(L1.append L2).append L3;have bn:(xs.take j++zs++xs.drop j).length=xs.length+zs.length:=by simp;omega
  rw[<- bn]at r';have R:=vg r' L;have a3:(C1++B2++C2).Perm (B0++B2):=by
   rw[ec,BD,BD];exact List.Perm.append_left C1 List.perm_append_comm
  have cu:(B0++B2).Nodup:=by
   rw[z,a2]at X;have I:=BC.1 X;refine BC.2 ⟨(BC.1 I.1).2.1,(BC.1 I.2.1).2.1,λa ha b hb=>I.2.2 a (BB _ ha) b (BB _ hb)⟩
  have a0:∀ k,k∈C1++B2++C2->k∈b0++b2/\k<w.heap.size/\k∉v0.ownBlock.toList:=by
   intro k r;rcases BM.1 (a3.mem_iff.1 r) with h|h
   ·have I:k∈b0:=by rw[z];exact BB _ h
    refine⟨BA _ I,Z k I,λY=>?_⟩;rw[z]at O;exact (BC.1 O).2.2 k Y k h rfl
   ·have I:k∈b2:=by rw[a2];exact BB _ h
    exact⟨BB _ I,a9 k I,λY=>a1 k (by rw[z];exact BA _ Y) I⟩
  have a4:∀ k∈v'.ownBlock.toList,(k∈v0.ownBlock.toList\/k=w.heap.size):=by
   intro k r;rcases hown with h|h
   ·rw[h]at r;exact .inl r
   ·rw[h]at r;simp at r;exact .inr r
  refine⟨v',[v'],λ_=>False,[[],[],[]],[v'.ownBlock.toList++(C1++B2++C2)],rfl,rfl,hgr.size,hgr.os,hgr.tape,hgr.output,?_,?_,?_,?_,?_,?_⟩
  ·intro k r hn;refine H k r (λh=>hn ?_);simp only[BE,BF,BG,BH];exact BA _ (by rw[z];exact BA _ h)
  ·intro k h;exact h.elim
  ·exact⟨rfl,rfl,rfl,trivial⟩
  ·refine⟨v',[],_,[],rfl,rfl,⟨[v'],rfl,?_⟩,rfl,rfl⟩;rw[bH (by simp)];exact⟨v',rfl,R⟩
  ·simp only[BE,BF,BG,BH];refine BC.2 ⟨?_,a3.nodup_iff.2 cu,λa ha b hb=>?_⟩
   ·cases v'.ownBlock <;> simp
   ·rintro rfl;obtain⟨_,Y,h3⟩:=a0 a hb;rcases a4 a ha with h|h
    ·exact h3 h
    ·omega
  ·intro k r;simp only[BE,BF,BG,BH]at r;refine⟨?_,λh=>h⟩;rcases BM.1 r with h|h
   ·rcases a4 k h with Y|Y
    ·have h3:k∈b0:=by rw[z];exact BA _ Y
     refine⟨BO (Z k h3) hgr.size,.inr ?_⟩;simp only[BE,BF,BG,BH];exact BA _ h3
    ·exact⟨r'.lt k h,.inl (by omega)⟩
   ·obtain⟨I,Y,_⟩:=a0 k h;refine⟨BO Y hgr.size,.inr ?_⟩;simp only[BE,BF,BG,BH];exact I
 ·cases u
end Go.Proofs.YtadlacffdemoiaaGreatEv
