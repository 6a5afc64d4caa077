/- Elements side by side; slices.Insert: from what its walk says to its contract. -/
import Derived.Test.YtadlacffdemoiaaGreatE3
import Derived.Test.YtadlacffdemoiaaGreatE0
set_option linter.unusedVariables false
set_option linter.unusedSimpArgs false
open List renaming mem_append_left->BA,mem_append_right->BB,nodup_append->BC,append_assoc->BD,flatten_cons->BE,flatten_nil->BF,append_nil->BG,nil_append->BH,length_cons->BI,getElem?_eq_getElem->BJ,range_succ_eq_map->BL,mem_append->BM,take_append_drop->BN,flatMap_cons->BP,flatMap_map->BR,range->BT
open List.cons renaming injEq->BS
open Nat renaming succ_mul->BK,lt_of_lt_of_le->BO
open Option.some renaming injEq->BQ
namespace Go.Proofs.YtadlacffdemoiaaGreatEv
open Go Go.RowKit
def Els (w:World)(G:Nat->Prop)(e:Ty):List e.den->List Value->List Nat->Prop
 |[],u,B=>u=[]/\B=[]
 |x::z,u,B=>∃ c b r y,u=c++r/\B=b++y/\Mx w G e none 0 x c b/\Els w G e z r y
theorem Els.len {w:World}{G:Nat->Prop}{e:Ty}:∀ {xs:List e.den} {flat:List Value} {B:List Nat},Els w G e xs flat B->flat.length=xs.length*e.cells
 |[],_,_,⟨h,_⟩=>by rw[h];simp
 |x::xs,_,_,⟨c,b,f,z,r,_,u,y⟩=>by
  rw[r,List.length_append,u.len,Els.len y,BI,BK];omega
theorem Els.one {w:World}{G:Nat->Prop}{e:Ty}:∀ {xs:List e.den} {flat:List Value} {B:List Nat},Els w G e xs flat B->∀ u∈flat,u.oneCell'=true
 |[],_,_,⟨h,_⟩=>by rw[h];simp
 |x::xs,_,_,⟨c,b,f,I,y,_,z,H⟩=>by
  rw[y];intro u r;rcases BM.1 r with r|r
  ·exact z.one u r
  ·exact Els.one H u r
theorem Els.append {w:World}{G:Nat->Prop}{e:Ty}:∀ {xs y:List e.den} {f u:List Value} {B r:List Nat},Els w G e xs f B->Els w G e y u r->Els w G e (xs++y) (f++u) (B++r)
 |[],_,_,_,_,_,⟨H,z⟩,h=>by rw[H,z];exact h
 |x::xs,y,_,u,_,r,⟨c,b,J,B0,H,z,I,M⟩,h=>⟨c,b,J++u,B0++r,by rw[H,BD],by rw[z,BD],I,Els.append M h⟩
theorem Els.split {w:World}{G:Nat->Prop}{e:Ty}:∀ {xs H:List e.den} {f:List Value} {B:List Nat},Els w G e (xs++H) f B->∃ u z r y,f=u++z/\B=r++y/\Els w G e xs u r/\Els w G e H z y
 |[],_,f,B,h=>⟨[],f,[],B,rfl,rfl,⟨rfl,rfl⟩,h⟩
 |x::xs,H,_,_,⟨c,b,f0,B0,X,J,M,Z⟩=>by
  obtain⟨u,z,r,y,Y,R,I,O⟩:=Els.split Z;exact⟨c++u,z,b++r,y,by rw[X,Y,BD],by rw[J,R,BD],⟨c,b,u,r,rfl,rfl,M,I⟩,O⟩
theorem Els.carry {w w':World}{G G':Nat->Prop}(z:∀ k,G k->G' k)(H:∀ k,G k->w'.heap[k]?=w.heap[k]?){e:Ty}:∀ {xs:List e.den} {f:List Value} {B:List Nat},(∀ k∈B,w'.heap[k]?=w.heap[k]?)->Els w G e xs f B->Els w' G' e xs f B
 |[],_,_,_,h=>h
 |x::xs,_,_,y,⟨c,b,J,B0,M,r,I,O⟩=>⟨c,b,J,B0,M,r,I.carry z H (λk u=>y k (by rw[r];exact BA _ u)),Els.carry z H (λk u=>y k (by rw[r];exact BB _ u)) O⟩
theorem x5 {w:World}{G:Nat->Prop}{e:Ty}:∀ (xs:List e.den) (flat:List Value) (r:Nat->List Nat),flat.length=xs.length*e.cells ->
  (∀ j (x:e.den),xs[j]?=some x->∃ c,Mx w G e none 0 x c (r j)/\∀ i u,c[i]?=some u->flat[j*e.cells+i]?=some u)->Els w G e xs flat ((BT xs.length).flatMap r)
 |[],flat,r,I,_=>⟨List.eq_nil_of_length_eq_zero (by simpa using I),by simp⟩
 |x::xs,flat,r,I,h=>by
  obtain⟨c,M,R⟩:=h 0 x rfl;have hc:=M.len;rw[BI,BK]at I;have H:flat.take e.cells=c:=by
   refine List.ext_getElem? λj=>?_
   rw[List.getElem?_take];split
   ·rename_i J;have z:j<c.length:=by omega
    have:=R j c[j] (BJ z);rw[Nat.zero_mul,Nat.zero_add]at this;rw[this,BJ z]
   ·rename_i J;exact (List.getElem?_eq_none (by omega)).symm
  refine⟨c,r 0,flat.drop e.cells,(BT xs.length).flatMap λj=>r (j+1),by rw[<- H,BN],?_,M,?_⟩
  ·rw[BI,BL,BP,BR]
  ·refine x5 xs (flat.drop e.cells) (λj=>r (j+1)) (by rw[List.length_drop];omega) λj y J=>?_
   obtain⟨Y,X,Z⟩:=h (j+1) y (by simpa using J);refine⟨Y,X,λi u O=>?_⟩;rw[List.getElem?_drop,<- Z i u O,BK];congr 1;omega
theorem Els.to {w:World}{G:Nat->Prop}{e:Ty}:∀ {xs:List e.den} {flat:List Value} {B:List Nat},Els w G e xs flat B ->
  ∃ r:Nat->List Nat,B=(BT xs.length).flatMap r/\∀ j (x:e.den),xs[j]?=some x->∃ c,Mx w G e none 0 x c (r j)/\∀ i u,c[i]?=some u->flat[j*e.cells+i]?=some u
 |[],_,_,⟨_,h⟩=>⟨λ_=>[],by rw[h];simp,by simp⟩
 |x::xs,_,_,⟨c,b,f,B',M,R,J,h4⟩=>by
  obtain⟨r,O,X⟩:=Els.to h4;refine⟨λj=>match j with|0=>b|j+1=>r j,?_,λj y I=>?_⟩
  ·rw[R,O,BI,BL,BP,BR]
  ·have hc:=J.len;cases j with
   |zero =>
    simp only[List.getElem?_cons_zero,BQ]at I;subst I;refine⟨c,J,λi u z=>?_⟩;have H:=(List.getElem?_eq_some_iff.1 z).1;rw[M,Nat.zero_mul,Nat.zero_add,List.getElem?_append_left H];exact z
   |succ j =>
    obtain⟨Z,h7,Y⟩:=X j y (by simpa using I);refine⟨Z,h7,λi u z=>?_⟩;rw[M,BK,List.getElem?_append_right (by omega),<- Y i u z];congr 1;omega
theorem qP {w:World}{G:Nat->Prop}{E:TypeId}{e:Ty}{xs:List e.den}{v:Value}{bs:List Nat}(h:OwB w G none E e xs v bs):∃ r B,Row w E e.cells v xs.length r/\bs=v.ownBlock.toList++B/\Els w G e xs r B:=by
 obtain⟨r,u,y,H,I⟩:=h;exact⟨r,_,y,H,x5 xs r u y.1 (λj x J=>by obtain⟨c,M,z⟩:=I j x J;exact⟨c,M,z⟩)⟩
theorem vh {w:World}{G:Nat->Prop}{E:TypeId}{e:Ty}{xs:List e.den}{v:Value}{flat:List Value}{B:List Nat}(I:Row w E e.cells v xs.length flat)(y:Els w G e xs flat B):OwB w G none E e xs v (v.ownBlock.toList++B):=by
 obtain⟨r,z,M⟩:=y.to;exact⟨flat,r,I,by rw[z],λj x J=>by obtain⟨c,u,H⟩:=M j x J;exact⟨c,u,H⟩⟩
theorem Els.deep {w:World}{G G':Nat->Prop}{e:Ty}(r:e.shy=false):∀ {xs:List e.den} {f:List Value} {B:List Nat},Els w G e xs f B->Els w G' e xs f B
 |[],_,_,h=>h
 |x::xs,_,_,⟨c,b,z,B0,H,u,y,I⟩=>⟨c,b,z,B0,H,u,y.deep r,Els.deep r I⟩
def jj (P:Program)(f:FuncId)(E:TypeId)(s z:Nat):Prop :=
 ∀ (w:World) (H J:Value) (n m i:Nat) (r y:List Value),Row w E s H n r->Row w E s J m y->(∀ u∈r,u.oneCell'=true)->(∀ u∈y,u.oneCell'=true)->0<m->i<=n ->
  (∀ k∈H.ownBlock.toList,k∉J.ownBlock.toList)->(n+m)*z<=140737488355328 ->
  Calls P f #[H,.int .i64 i,J] w λe M=>∃ I,e=.returned I/\Row M E s I (n+m) (r.take (i*s)++y++r.drop (i*s))/\w.grownBy M H.ownBlock/\(I.ownBlock=H.ownBlock\/I.ownBlock=some w.heap.size)
theorem gC {P:Program}{f:FuncId}{E:TypeId}{e:Ty}{M:Nat}{J:Bool}(hE:fP P f)(hd:e.shy=false\/J=false)(b4:jj P f E e.cells M) :
  bQ P ⟨f,[.own (.list true E e),.rd (.int .i64),.own (.list true E e)],[.v (.list true E e)],J,λx=>fO e M x.1 x.2.1 x.2.2.1⟩:=by
 refine⟨hE,?_⟩;intro w ro x vs e1 y b6 ad Y z;obtain⟨xs,i,zs,_⟩:=x;obtain⟨v0,dd,b0,d1,rfl,rfl,⟨cp,b3,bn⟩,v1,dc,b1,d2,rfl,rfl,⟨cb,cu,a9,a6⟩,v2,cy,b2,dn,rfl,rfl,⟨c2,a8,c0⟩,rfl,rfl⟩:=b6;have b3:cp=[v0]:=b3;have a9:cu=[v1]:=a9;have a8:c2=[v2]:=a8;subst b3 a9 a8 cb;have a6:[v1]=[Value.int .i64 i]:=a6;simp only[BS,and_true]at a6;subst a6;rw[bK (by simp)]at bn c0;obtain⟨u0,e0,H0⟩:=bn;obtain⟨u2,e2,H2⟩:=c0;simp only[BS,and_true]at e0 e2;subst e0 e2;obtain⟨a4,B0,r0,u,l0⟩:=qP H0;obtain⟨bl,B2,r2,Z,l2⟩:=qP H2;have z:fO e M xs i zs=some y:=z;unfold fO at z;split at z
 ·rename_i hc;obtain⟨cc,d3,hm,c4⟩:=hc;simp only[BQ]at z;subst z;obtain⟨j,rfl⟩:∃ j:Nat,i=(j:Int):=Int.eq_ofNat_of_zero_le cc;have hj:j<=xs.length:=by omega
  simp only[BE,BF,BG,BH]at Y ad ⊢;have a0:∀ k∈b0,k∉b2:=λk I X=>(BC.1 Y).2.2 k I k X rfl
  refine (b4 w v0 v2 xs.length zs.length j a4 bl r0 r2 l0.one l2.one hm hj (λk I X=>a0 k (by rw[u];exact BA _ I) (by rw[Z];exact BA _ X)) (by simpa only[am]using c4)).mono λen w'=>?_
  rintro⟨v',rfl,r',hgr,hown⟩;have hx:xs=xs.take j++xs.drop j:=(BN j xs).symm;have c1:=l0;rw[hx]at c1;obtain⟨f1,f2,C1,C2,ef,ec,l1,l3⟩:=Els.split c1;have ba:f1.length=j*e.cells:=by rw[l1.len,List.length_take,Nat.min_eq_left hj]
  have et:a4.take (j*e.cells)=f1:=by rw[ef];exact List.take_left' ba
  have ed:a4.drop (j*e.cells)=f2:=by rw[ef];exact List.drop_left' ba
  rw[et,ed]at r';have O:b0.Nodup:=(BC.1 Y).1;have cx:b2.Nodup:=(BC.1 Y).2.1;have a1:∀ k∈b0,k<w.heap.size:=H0.lt;have a7:∀ k∈b2,k<w.heap.size:=H2.lt;have H:∀ k,k<w.heap.size->k∉v0.ownBlock.toList->w'.heap[k]?=w.heap[k]?:=λk r hn=>hgr.block k r (λh=>hn (by rw[<- h];simp))
  have bx:∀ k∈B0,w'.heap[k]?=w.heap[k]?:=λk r=>H k (a1 k (by rw[u];exact BB _ r)) (λh=>by
   rw[u]at O;exact (BC.1 O).2.2 k h k r rfl)
  have c3:∀ k∈B2,w'.heap[k]?=w.heap[k]?:=λk r=>H k (a7 k (by rw[Z];exact BB _ r)) (λh=>a0 k (by rw[u];exact BA _ h) (by rw[Z];exact BB _ r))
  have b5:∀ k,(λ_:Nat=>False) k->w'.heap[k]?=w.heap[k]?:=λ_ h=>h.elim
  have b9:∀ k,ro k->w'.heap[k]?=w.heap[k]?:=λk r=>H k (ad k r).1 (λh=>(ad k r).2 (BA _ (by rw[u];exact BA _ h)))
  have hL:∀ {ys:List e.den} {f:List Value} {B:List Nat},Els w ro e ys f B->(∀ k∈B,w'.heap[k]?=w.heap[k]?)->Els w' (λk=>False\/(J=false/\ro k)) e ys f B:=λh hB=>by
   rcases hd with hd|hf
   ·exact (h.deep (G':=λ_=>False) hd).carry (λ_ h=>h.elim) b5 hB
   ·exact h.carry (λk r=>.inr ⟨hf,r⟩) b9 hB
  have L1:=hL l1 λk r=>bx k (by rw[ec];exact BA _ r)
  have L3:=hL l3 λk r=>bx k (by rw[ec];exact BB _ r)
  have L2:=hL l2 c3;have L:=(L1.append L2).append L3;have bb:(xs.take j++zs++xs.drop j).length=xs.length+zs.length:=by simp;omega
  rw[<- bb]at r';have R:=vh r' L;have a5:(C1++B2++C2).Perm (B0++B2):=by
   rw[ec,BD,BD];exact List.Perm.append_left C1 List.perm_append_comm
  have cw:(B0++B2).Nodup:=by
   rw[u,Z]at Y;have I:=BC.1 Y;refine BC.2 ⟨(BC.1 I.1).2.1,(BC.1 I.2.1).2.1,λa ha b hb=>I.2.2 a (BB _ ha) b (BB _ hb)⟩
  have a2:∀ k,k∈C1++B2++C2->k∈b0++b2/\k<w.heap.size/\k∉v0.ownBlock.toList:=by
   intro k r;rcases BM.1 (a5.mem_iff.1 r) with h|h
   ·have I:k∈b0:=by rw[u];exact BB _ h
    refine⟨BA _ I,a1 k I,λX=>?_⟩;rw[u]at O;exact (BC.1 O).2.2 k X k h rfl
   ·have I:k∈b2:=by rw[Z];exact BB _ h
    exact⟨BB _ I,a7 k I,λX=>a0 k (by rw[u];exact BA _ X) I⟩
  have a3:∀ k∈v'.ownBlock.toList,(k∈v0.ownBlock.toList\/k=w.heap.size):=by
   intro k r;rcases hown with h|h
   ·rw[h]at r;exact .inl r
   ·rw[h]at r;simp at r;exact .inr r
  refine⟨v',[v'],λ_=>False,[[],[],[]],[v'.ownBlock.toList++(C1++B2++C2)],rfl,rfl,hgr.size,hgr.os,hgr.tape,hgr.output,?_,?_,?_,?_,?_,?_⟩
  ·intro k r hn;refine H k r (λh=>hn ?_);simp only[BE,BF,BG,BH];exact BA _ (by rw[u];exact BA _ h)
  ·intro k h;exact h.elim
  ·exact⟨rfl,rfl,rfl,trivial⟩
  ·refine⟨v',[],_,[],rfl,rfl,⟨[v'],rfl,?_⟩,rfl,rfl⟩;rw[bK (by simp)];exact⟨v',rfl,R⟩
  ·simp only[BE,BF,BG,BH];refine BC.2 ⟨?_,a5.nodup_iff.2 cw,λa ha b hb=>?_⟩
   ·cases v'.ownBlock <;> simp
   ·rintro rfl;obtain⟨_,X,h3⟩:=a2 a hb;rcases a3 a ha with h|h
    ·exact h3 h
    ·omega
  ·intro k r;simp only[BE,BF,BG,BH]at r;refine⟨?_,λh=>h⟩;rcases BM.1 r with h|h
   ·rcases a3 k h with X|X
    ·have h3:k∈b0:=by rw[u];exact BA _ X
     refine⟨BO (a1 k h3) hgr.size,.inr ?_⟩;simp only[BE,BF,BG,BH];exact BA _ h3
    ·exact⟨r'.lt k h,.inl (by omega)⟩
   ·obtain⟨I,X,_⟩:=a2 k h;refine⟨BO X hgr.size,.inr ?_⟩;simp only[BE,BF,BG,BH];exact I
 ·cases z
end Go.Proofs.YtadlacffdemoiaaGreatEv
