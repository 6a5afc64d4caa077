/- Elements side by side; slices.Insert: from what its walk says to its contract. -/
import Derived.Test.YtadlacffdemoiaaGreatE3
import Derived.Test.YtadlacffdemoiaaGreatE0
set_option linter.unusedVariables false
set_option linter.unusedSimpArgs false
open List renaming mem_append_left->BA,mem_append_right->BB,nodup_append->BC,append_assoc->BD,flatten_cons->BE,flatten_nil->BF,append_nil->BG,nil_append->BH,length_cons->BI,getElem?_eq_getElem->BJ,range_succ_eq_map->BL,mem_append->BM,take_append_drop->BN,flatMap_cons->BP,flatMap_map->BR,range->BT
open List.cons renaming injEq->BS
open Nat renaming succ_mul->BK,lt_of_lt_of_le->BO
open Option.some renaming injEq->BQ
namespace Go.Proofs.YtadlacffdemoiaaGreatEv
open Go Go.RowKit
def Els (w:World)(G:Nat->Prop)(e:Ty):List e.den->List Value->List Nat->Prop
 |[],r,B=>r=[]/\B=[]
 |x::z,r,B=>∃ c b u y,r=c++u/\B=b++y/\Mx w G e none 0 x c b/\Els w G e z u y
theorem Els.len {w:World}{G:Nat->Prop}{e:Ty}:∀ {xs:List e.den} {flat:List Value} {B:List Nat},Els w G e xs flat B->flat.length=xs.length*e.cells
 |[],_,_,⟨h,_⟩=>by rw[h];simp
 |x::xs,_,_,⟨c,b,f,z,y,_,u,r⟩=>by
  rw[y,List.length_append,u.len,Els.len r,BI,BK];omega
theorem Els.one {w:World}{G:Nat->Prop}{e:Ty}:∀ {xs:List e.den} {flat:List Value} {B:List Nat},Els w G e xs flat B->∀ u∈flat,u.oneCell'=true
 |[],_,_,⟨h,_⟩=>by rw[h];simp
 |x::xs,_,_,⟨c,b,f,I,H,_,z,y⟩=>by
  rw[H];intro u r;rcases BM.1 r with r|r
  ·exact z.one u r
  ·exact Els.one y u r
theorem Els.append {w:World}{G:Nat->Prop}{e:Ty}:∀ {xs y:List e.den} {f u:List Value} {B r:List Nat},Els w G e xs f B->Els w G e y u r->Els w G e (xs++y) (f++u) (B++r)
 |[],_,_,_,_,_,⟨z,H⟩,h=>by rw[z,H];exact h
 |x::xs,y,_,u,_,r,⟨c,b,I,B0,z,H,J,M⟩,h=>⟨c,b,I++u,B0++r,by rw[z,BD],by rw[H,BD],J,Els.append M h⟩
theorem Els.split {w:World}{G:Nat->Prop}{e:Ty}:∀ {xs H:List e.den} {f:List Value} {B:List Nat},Els w G e (xs++H) f B->∃ u y r z,f=u++y/\B=r++z/\Els w G e xs u r/\Els w G e H y z
 |[],_,f,B,h=>⟨[],f,[],B,rfl,rfl,⟨rfl,rfl⟩,h⟩
 |x::xs,H,_,_,⟨c,b,f0,B0,J,Y,X,Z⟩=>by
  obtain⟨u,y,r,z,R,I,O,M⟩:=Els.split Z;exact⟨c++u,y,b++r,z,by rw[J,R,BD],by rw[Y,I,BD],⟨c,b,u,r,rfl,rfl,X,O⟩,M⟩
theorem Els.carry {w w':World}{G G':Nat->Prop}(H:∀ k,G k->G' k)(z:∀ k,G k->w'.heap[k]?=w.heap[k]?){e:Ty}:∀ {xs:List e.den} {f:List Value} {B:List Nat},(∀ k∈B,w'.heap[k]?=w.heap[k]?)->Els w G e xs f B->Els w' G' e xs f B
 |[],_,_,_,h=>h
 |x::xs,_,_,y,⟨c,b,M,B0,J,u,O,I⟩=>⟨c,b,M,B0,J,u,O.carry H z (λk r=>y k (by rw[u];exact BA _ r)),Els.carry H z (λk r=>y k (by rw[u];exact BB _ r)) I⟩
theorem x8 {w:World}{G:Nat->Prop}{e:Ty}:∀ (xs:List e.den) (flat:List Value) (r:Nat->List Nat),flat.length=xs.length*e.cells ->
  (∀ j (x:e.den),xs[j]?=some x->∃ c,Mx w G e none 0 x c (r j)/\∀ i u,c[i]?=some u->flat[j*e.cells+i]?=some u)->Els w G e xs flat ((BT xs.length).flatMap r)
 |[],flat,r,I,_=>⟨List.eq_nil_of_length_eq_zero (by simpa using I),by simp⟩
 |x::xs,flat,r,I,h=>by
  obtain⟨c,M,Y⟩:=h 0 x rfl;have hc:=M.len;rw[BI,BK]at I;have H:flat.take e.cells=c:=by
   refine List.ext_getElem? λj=>?_
   rw[List.getElem?_take];split
   ·rename_i J;have z:j<c.length:=by omega
    have:=Y j c[j] (BJ z);rw[Nat.zero_mul,Nat.zero_add]at this;rw[this,BJ z]
   ·rename_i J;exact (List.getElem?_eq_none (by omega)).symm
  refine⟨c,r 0,flat.drop e.cells,(BT xs.length).flatMap λj=>r (j+1),by rw[<- H,BN],?_,M,?_⟩
  ·rw[BI,BL,BP,BR]
  ·refine x8 xs (flat.drop e.cells) (λj=>r (j+1)) (by rw[List.length_drop];omega) λj y J=>?_
   obtain⟨R,X,Z⟩:=h (j+1) y (by simpa using J);refine⟨R,X,λi u O=>?_⟩;rw[List.getElem?_drop,<- Z i u O,BK];congr 1;omega
theorem Els.to {w:World}{G:Nat->Prop}{e:Ty}:∀ {xs:List e.den} {flat:List Value} {B:List Nat},Els w G e xs flat B ->
  ∃ r:Nat->List Nat,B=(BT xs.length).flatMap r/\∀ j (x:e.den),xs[j]?=some x->∃ c,Mx w G e none 0 x c (r j)/\∀ i u,c[i]?=some u->flat[j*e.cells+i]?=some u
 |[],_,_,⟨_,h⟩=>⟨λ_=>[],by rw[h];simp,by simp⟩
 |x::xs,_,_,⟨c,b,f,B',J,h2,M,h4⟩=>by
  obtain⟨r,Z,X⟩:=Els.to h4;refine⟨λj=>match j with|0=>b|j+1=>r j,?_,λj y I=>?_⟩
  ·rw[h2,Z,BI,BL,BP,BR]
  ·have hc:=M.len;cases j with
   |zero =>
    simp only[List.getElem?_cons_zero,BQ]at I;subst I;refine⟨c,M,λi u z=>?_⟩;have H:=(List.getElem?_eq_some_iff.1 z).1;rw[J,Nat.zero_mul,Nat.zero_add,List.getElem?_append_left H];exact z
   |succ j =>
    obtain⟨R,Y,O⟩:=X j y (by simpa using I);refine⟨R,Y,λi u z=>?_⟩;rw[J,BK,List.getElem?_append_right (by omega),<- O i u z];congr 1;omega
theorem qQ {w:World}{G:Nat->Prop}{E:TypeId}{e:Ty}{xs:List e.den}{v:Value}{bs:List Nat}(h:OwB w G none E e xs v bs):∃ r B,Row w E e.cells v xs.length r/\bs=v.ownBlock.toList++B/\Els w G e xs r B:=by
 obtain⟨r,u,y,J,I⟩:=h;exact⟨r,_,y,J,x8 xs r u y.1 (λj x H=>by obtain⟨c,M,z⟩:=I j x H;exact⟨c,M,z⟩)⟩
theorem vo {w:World}{G:Nat->Prop}{E:TypeId}{e:Ty}{xs:List e.den}{v:Value}{flat:List Value}{B:List Nat}(u:Row w E e.cells v xs.length flat)(J:Els w G e xs flat B):OwB w G none E e xs v (v.ownBlock.toList++B):=by
 obtain⟨r,I,M⟩:=J.to;exact⟨flat,r,u,by rw[I],λj x H=>by obtain⟨c,z,y⟩:=M j x H;exact⟨c,z,y⟩⟩
theorem Els.deep {w:World}{G G':Nat->Prop}{e:Ty}(r:e.shy=false):∀ {xs:List e.den} {f:List Value} {B:List Nat},Els w G e xs f B->Els w G' e xs f B
 |[],_,_,h=>h
 |x::xs,_,_,⟨c,b,y,B0,u,H,z,I⟩=>⟨c,b,y,B0,u,H,z.deep r,Els.deep r I⟩
def jk (P:Program)(f:FuncId)(E:TypeId)(s z:Nat):Prop :=
 ∀ (w:World) (H J:Value) (n m i:Nat) (r y:List Value),Row w E s H n r->Row w E s J m y->(∀ u∈r,u.oneCell'=true)->(∀ u∈y,u.oneCell'=true)->0<m->i<=n ->
  (∀ k∈H.ownBlock.toList,k∉J.ownBlock.toList)->(n+m)*z<=140737488355328 ->
  Calls P f #[H,.int .i64 i,J] w λe M=>∃ I,e=.returned I/\Row M E s I (n+m) (r.take (i*s)++y++r.drop (i*s))/\w.grownBy M H.ownBlock/\(I.ownBlock=H.ownBlock\/I.ownBlock=some w.heap.size)
theorem gE {P:Program}{f:FuncId}{E:TypeId}{e:Ty}{M:Nat}{J:Bool}(hE:fP P f)(hd:e.shy=false\/J=false)(b3:jk P f E e.cells M) :
  bP P ⟨f,[.own (.list true E e),.rd (.int .i64),.own (.list true E e)],[.v (.list true E e)],J,λx=>fO e M x.1 x.2.1 x.2.2.1⟩:=by
 refine⟨hE,?_⟩;intro w ro x vs e1 y ba b4 X u;obtain⟨xs,i,zs,_⟩:=x;obtain⟨v0,dc,b0,d2,rfl,rfl,⟨cb,b9,bn⟩,v1,e3,b1,d1,rfl,rfl,⟨cu,c6,ad,a6⟩,v2,d3,b2,e4,rfl,rfl,⟨cx,b5,c0⟩,rfl,rfl⟩:=ba;have b9:cb=[v0]:=b9;have ad:c6=[v1]:=ad;have b5:cx=[v2]:=b5;subst b9 ad b5 cu;have a6:[v1]=[Value.int .i64 i]:=a6;simp only[BS,and_true]at a6;subst a6;rw[bI (by simp)]at bn c0;obtain⟨u0,e0,H0⟩:=bn;obtain⟨u2,e2,H2⟩:=c0;simp only[BS,and_true]at e0 e2;subst e0 e2;obtain⟨a1,B0,r0,z,l0⟩:=qQ H0;obtain⟨c2,B2,r2,a0,l2⟩:=qQ H2;have u:fO e M xs i zs=some y:=u;unfold fO at u;split at u
 ·rename_i hc;obtain⟨cc,dd,hm,c5⟩:=hc;simp only[BQ]at u;subst u;obtain⟨j,rfl⟩:∃ j:Nat,i=(j:Int):=Int.eq_ofNat_of_zero_le cc;have hj:j<=xs.length:=by omega
  simp only[BE,BF,BG,BH]at X b4 ⊢;have a5:∀ k∈b0,k∉b2:=λk I Y=>(BC.1 X).2.2 k I k Y rfl
  refine (b3 w v0 v2 xs.length zs.length j a1 c2 r0 r2 l0.one l2.one hm hj (λk I Y=>a5 k (by rw[z];exact BA _ I) (by rw[a0];exact BA _ Y)) (by simpa only[an]using c5)).mono λen w'=>?_
  rintro⟨v',rfl,r',hgr,hown⟩;have hx:xs=xs.take j++xs.drop j:=(BN j xs).symm;have c3:=l0;rw[hx]at c3;obtain⟨f1,f2,C1,C2,ef,ec,l1,l3⟩:=Els.split c3;have bl:f1.length=j*e.cells:=by rw[l1.len,List.length_take,Nat.min_eq_left hj]
  have et:a1.take (j*e.cells)=f1:=by rw[ef];exact List.take_left' bl
  have ed:a1.drop (j*e.cells)=f2:=by rw[ef];exact List.drop_left' bl
  rw[et,ed]at r';have O:b0.Nodup:=(BC.1 X).1;have cy:b2.Nodup:=(BC.1 X).2.1;have a2:∀ k∈b0,k<w.heap.size:=H0.lt;have a9:∀ k∈b2,k<w.heap.size:=H2.lt;have H:∀ k,k<w.heap.size->k∉v0.ownBlock.toList->w'.heap[k]?=w.heap[k]?:=λk r hn=>hgr.block k r (λh=>hn (by rw[<- h];simp))
  have c4:∀ k∈B0,w'.heap[k]?=w.heap[k]?:=λk r=>H k (a2 k (by rw[z];exact BB _ r)) (λh=>by
   rw[z]at O;exact (BC.1 O).2.2 k h k r rfl)
  have cp:∀ k∈B2,w'.heap[k]?=w.heap[k]?:=λk r=>H k (a9 k (by rw[a0];exact BB _ r)) (λh=>a5 k (by rw[z];exact BA _ h) (by rw[a0];exact BB _ r))
  have bb:∀ k,(λ_:Nat=>False) k->w'.heap[k]?=w.heap[k]?:=λ_ h=>h.elim
  have c1:∀ k,ro k->w'.heap[k]?=w.heap[k]?:=λk r=>H k (b4 k r).1 (λh=>(b4 k r).2 (BA _ (by rw[z];exact BA _ h)))
  have hL:∀ {ys:List e.den} {f:List Value} {B:List Nat},Els w ro e ys f B->(∀ k∈B,w'.heap[k]?=w.heap[k]?)->Els w' (λk=>False\/(J=false/\ro k)) e ys f B:=λh hB=>by
   rcases hd with hd|hf
   ·exact (h.deep (G':=λ_=>False) hd).carry (λ_ h=>h.elim) bb hB
   ·exact h.carry (λk r=>.inr ⟨hf,r⟩) c1 hB
  have L1:=hL l1 λk r=>c4 k (by rw[ec];exact BA _ r)
  have L3:=hL l3 λk r=>c4 k (by rw[ec];exact BB _ r)
  have L2:=hL l2 cp;have L:=(L1.append L2).append L3;have bx:(xs.take j++zs++xs.drop j).length=xs.length+zs.length:=by simp;omega
  rw[<- bx]at r';have R:=vo r' L;have a3:(C1++B2++C2).Perm (B0++B2):=by
   rw[ec,BD,BD];exact List.Perm.append_left C1 List.perm_append_comm
  have cw:(B0++B2).Nodup:=by
   rw[z,a0]at X;have I:=BC.1 X;refine BC.2 ⟨(BC.1 I.1).2.1,(BC.1 I.2.1).2.1,λa ha b hb=>I.2.2 a (BB _ ha) b (BB _ hb)⟩
  have a4:∀ k,k∈C1++B2++C2->k∈b0++b2/\k<w.heap.size/\k∉v0.ownBlock.toList:=by
   intro k r;rcases BM.1 (a3.mem_iff.1 r) with h|h
   ·have I:k∈b0:=by rw[z];exact BB _ h
    refine⟨BA _ I,a2 k I,λY=>?_⟩;rw[z]at O;exact (BC.1 O).2.2 k Y k h rfl
   ·have I:k∈b2:=by rw[a0];exact BB _ h
    exact⟨BB _ I,a9 k I,λY=>a5 k (by rw[z];exact BA _ Y) I⟩
  have Z:∀ k∈v'.ownBlock.toList,(k∈v0.ownBlock.toList\/k=w.heap.size):=by
   intro k r;rcases hown with h|h
   ·rw[h]at r;exact .inl r
   ·rw[h]at r;simp at r;exact .inr r
  refine⟨v',[v'],λ_=>False,[[],[],[]],[v'.ownBlock.toList++(C1++B2++C2)],rfl,rfl,hgr.size,hgr.os,hgr.tape,hgr.output,?_,?_,?_,?_,?_,?_⟩
  ·intro k r hn;refine H k r (λh=>hn ?_);simp only[BE,BF,BG,BH];exact BA _ (by rw[z];exact BA _ h)
  ·intro k h;exact h.elim
  ·exact⟨rfl,rfl,rfl,trivial⟩
  ·refine⟨v',[],_,[],rfl,rfl,⟨[v'],rfl,?_⟩,rfl,rfl⟩;rw[bI (by simp)];exact⟨v',rfl,R⟩
  ·simp only[BE,BF,BG,BH];refine BC.2 ⟨?_,a3.nodup_iff.2 cw,λa ha b hb=>?_⟩
   ·cases v'.ownBlock <;> simp
   ·rintro rfl;obtain⟨_,Y,h3⟩:=a4 a hb;rcases Z a ha with h|h
    ·exact h3 h
    ·omega
  ·intro k r;simp only[BE,BF,BG,BH]at r;refine⟨?_,λh=>h⟩;rcases BM.1 r with h|h
   ·rcases Z k h with Y|Y
    ·have h3:k∈b0:=by rw[z];exact BA _ Y
     refine⟨BO (a2 k h3) hgr.size,.inr ?_⟩;simp only[BE,BF,BG,BH];exact BA _ h3
    ·exact⟨r'.lt k h,.inl (by omega)⟩
   ·obtain⟨I,Y,_⟩:=a4 k h;refine⟨BO Y hgr.size,.inr ?_⟩;simp only[BE,BF,BG,BH];exact I
 ·cases u
end Go.Proofs.YtadlacffdemoiaaGreatEv
