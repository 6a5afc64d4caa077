/- Elements side by side; slices.Insert: from what its walk says to its contract. -/
import Derived.Test.YtaelpfghkndliaaGreatE3
import Derived.Test.YtaelpfghkndliaaGreatE0
set_option linter.unusedVariables false
set_option linter.unusedSimpArgs false
open List renaming mem_append_left->BA,mem_append_right->BB,nodup_append->BC,append_assoc->BD,flatten_cons->BE,flatten_nil->BF,append_nil->BG,nil_append->BH,length_cons->BI,getElem?_eq_getElem->BJ,range_succ_eq_map->BL,mem_append->BM,take_append_drop->BN,flatMap_cons->BP,flatMap_map->BR,range->BT
open List.cons renaming injEq->BS
open Nat renaming succ_mul->BK,lt_of_lt_of_le->BO
open Option.some renaming injEq->BQ
namespace Go.Proofs.YtaelpfghkndliaaGreatEv
open Go Go.RowKit
def Els (w:World)(G:Nat->Prop)(e:Ty):List e.den->List Value->List Nat->Prop
 |[],r,B=>r=[]/\B=[]
 |x::z,r,B=>∃ c b u y,r=c++u/\B=b++y/\Mx w G e none 0 x c b/\Els w G e z u y
theorem Els.len {w:World}{G:Nat->Prop}{e:Ty}:∀ {xs:List e.den} {flat:List Value} {B:List Nat},Els w G e xs flat B->flat.length=xs.length*e.cells
 |[],_,_,⟨h,_⟩=>by rw[h];simp
 |x::xs,_,_,⟨c,b,f,z,r,_,u,y⟩=>by
  rw[r,List.length_append,u.len,Els.len y,BI,BK];omega
theorem Els.one {w:World}{G:Nat->Prop}{e:Ty}:∀ {xs:List e.den} {flat:List Value} {B:List Nat},Els w G e xs flat B->∀ u∈flat,u.oneCell'=true
 |[],_,_,⟨h,_⟩=>by rw[h];simp
 |x::xs,_,_,⟨c,b,f,I,y,_,z,H⟩=>by
  rw[y];intro u r;rcases BM.1 r with r|r
  ·exact z.one u r
  ·exact Els.one H u r
theorem Els.append {w:World}{G:Nat->Prop}{e:Ty}:∀ {xs H:List e.den} {f u:List Value} {B r:List Nat},Els w G e xs f B->Els w G e H u r->Els w G e (xs++H) (f++u) (B++r)
 |[],_,_,_,_,_,⟨z,y⟩,h=>by rw[z,y];exact h
 |x::xs,H,_,u,_,r,⟨c,b,J,B0,z,y,I,M⟩,h=>⟨c,b,J++u,B0++r,by rw[z,BD],by rw[y,BD],I,Els.append M h⟩
theorem Els.split {w:World}{G:Nat->Prop}{e:Ty}:∀ {xs H:List e.den} {f:List Value} {B:List Nat},Els w G e (xs++H) f B->∃ r y u z,f=r++y/\B=u++z/\Els w G e xs r u/\Els w G e H y z
 |[],_,f,B,h=>⟨[],f,[],B,rfl,rfl,⟨rfl,rfl⟩,h⟩
 |x::xs,H,_,_,⟨c,b,f0,B0,Y,O,J,X⟩=>by
  obtain⟨r,y,u,z,I,R,M,Z⟩:=Els.split X;exact⟨c++r,y,b++u,z,by rw[Y,I,BD],by rw[O,R,BD],⟨c,b,r,u,rfl,rfl,J,M⟩,Z⟩
theorem Els.carry {w w':World}{G G':Nat->Prop}(y:∀ k,G k->G' k)(H:∀ k,G k->w'.heap[k]?=w.heap[k]?){e:Ty}:∀ {xs:List e.den} {f:List Value} {B:List Nat},(∀ k∈B,w'.heap[k]?=w.heap[k]?)->Els w G e xs f B->Els w' G' e xs f B
 |[],_,_,_,h=>h
 |x::xs,_,_,z,⟨c,b,J,B0,O,r,I,M⟩=>⟨c,b,J,B0,O,r,I.carry y H (λk u=>z k (by rw[r];exact BA _ u)),Els.carry y H (λk u=>z k (by rw[r];exact BB _ u)) M⟩
theorem xX {w:World}{G:Nat->Prop}{e:Ty}:∀ (xs:List e.den) (flat:List Value) (r:Nat->List Nat),flat.length=xs.length*e.cells ->
  (∀ j (x:e.den),xs[j]?=some x->∃ c,Mx w G e none 0 x c (r j)/\∀ i u,c[i]?=some u->flat[j*e.cells+i]?=some u)->Els w G e xs flat ((BT xs.length).flatMap r)
 |[],flat,r,H,_=>⟨List.eq_nil_of_length_eq_zero (by simpa using H),by simp⟩
 |x::xs,flat,r,H,h=>by
  obtain⟨c,M,Y⟩:=h 0 x rfl;have hc:=M.len;rw[BI,BK]at H;have I:flat.take e.cells=c:=by
   refine List.ext_getElem? λj=>?_
   rw[List.getElem?_take];split
   ·rename_i J;have z:j<c.length:=by omega
    have:=Y j c[j] (BJ z);rw[Nat.zero_mul,Nat.zero_add]at this;rw[this,BJ z]
   ·rename_i J;exact (List.getElem?_eq_none (by omega)).symm
  refine⟨c,r 0,flat.drop e.cells,(BT xs.length).flatMap λj=>r (j+1),by rw[<- I,BN],?_,M,?_⟩
  ·rw[BI,BL,BP,BR]
  ·refine xX xs (flat.drop e.cells) (λj=>r (j+1)) (by rw[List.length_drop];omega) λj y J=>?_
   obtain⟨R,O,Z⟩:=h (j+1) y (by simpa using J);refine⟨R,O,λi u X=>?_⟩;rw[List.getElem?_drop,<- Z i u X,BK];congr 1;omega
theorem Els.to {w:World}{G:Nat->Prop}{e:Ty}:∀ {xs:List e.den} {flat:List Value} {B:List Nat},Els w G e xs flat B ->
  ∃ r:Nat->List Nat,B=(BT xs.length).flatMap r/\∀ j (x:e.den),xs[j]?=some x->∃ c,Mx w G e none 0 x c (r j)/\∀ i u,c[i]?=some u->flat[j*e.cells+i]?=some u
 |[],_,_,⟨_,h⟩=>⟨λ_=>[],by rw[h];simp,by simp⟩
 |x::xs,_,_,⟨c,b,f,B',M,X,J,Y⟩=>by
  obtain⟨r,O,h6⟩:=Els.to Y;refine⟨λj=>match j with|0=>b|j+1=>r j,?_,λj y I=>?_⟩
  ·rw[X,O,BI,BL,BP,BR]
  ·have hc:=J.len;cases j with
   |zero =>
    simp only[List.getElem?_cons_zero,BQ]at I;subst I;refine⟨c,J,λi u z=>?_⟩;have H:=(List.getElem?_eq_some_iff.1 z).1;rw[M,Nat.zero_mul,Nat.zero_add,List.getElem?_append_left H];exact z
   |succ j =>
    obtain⟨R,Z,h8⟩:=h6 j y (by simpa using I);refine⟨R,Z,λi u z=>?_⟩;rw[M,BK,List.getElem?_append_right (by omega),<- h8 i u z];congr 1;omega
theorem qO {w:World}{G:Nat->Prop}{E:TypeId}{e:Ty}{xs:List e.den}{v:Value}{bs:List Nat}(h:OwB w G none E e xs v bs):∃ r B,Row w E e.cells v xs.length r/\bs=v.ownBlock.toList++B/\Els w G e xs r B:=by
 obtain⟨r,u,y,I,z⟩:=h;exact⟨r,_,y,I,xX xs r u y.1 (λj x M=>by obtain⟨c,J,H⟩:=z j x M;exact⟨c,J,H⟩)⟩
theorem vi {w:World}{G:Nat->Prop}{E:TypeId}{e:Ty}{xs:List e.den}{v:Value}{flat:List Value}{B:List Nat}(I:Row w E e.cells v xs.length flat)(z:Els w G e xs flat B):OwB w G none E e xs v (v.ownBlock.toList++B):=by
 obtain⟨r,u,H⟩:=z.to;exact⟨flat,r,I,by rw[u],λj x M=>by obtain⟨c,y,J⟩:=H j x M;exact⟨c,y,J⟩⟩
theorem Els.deep {w:World}{G G':Nat->Prop}{e:Ty}(r:e.shy=false):∀ {xs:List e.den} {f:List Value} {B:List Nat},Els w G e xs f B->Els w G' e xs f B
 |[],_,_,h=>h
 |x::xs,_,_,⟨c,b,z,B0,I,y,u,H⟩=>⟨c,b,z,B0,I,y,u.deep r,Els.deep r H⟩
def ji (P:Program)(f:FuncId)(E:TypeId)(s z:Nat):Prop :=
 ∀ (w:World) (H J:Value) (n m i:Nat) (r y:List Value),Row w E s H n r->Row w E s J m y->(∀ u∈r,u.oneCell'=true)->(∀ u∈y,u.oneCell'=true)->0<m->i<=n ->
  (∀ k∈H.ownBlock.toList,k∉J.ownBlock.toList)->(n+m)*z<=140737488355328 ->
  Calls P f #[H,.int .i64 i,J] w λe M=>∃ I,e=.returned I/\Row M E s I (n+m) (r.take (i*s)++y++r.drop (i*s))/\w.grownBy M H.ownBlock/\(I.ownBlock=H.ownBlock\/I.ownBlock=some w.heap.size)
theorem gB {P:Program}{f:FuncId}{E:TypeId}{e:Ty}{M:Nat}{J:Bool}(hE:fO P f)(hd:e.shy=false\/J=false)(b3:ji P f E e.cells M) :
  bO P ⟨f,[.own (.list true E e),.rd (.int .i64),.own (.list true E e)],[.v (.list true E e)],J,λx=>fN e M x.1 x.2.1 x.2.2.1⟩:=by
 refine⟨hE,?_⟩;intro w ro x vs d3 y b6 ba Y u;obtain⟨xs,i,zs,_⟩:=x;obtain⟨v0,cy,b0,d1,rfl,rfl,⟨cu,b9,c0⟩,v1,d2,b1,e1,rfl,rfl,⟨cw,c5,b4,a6⟩,v2,e3,b2,dd,rfl,rfl,⟨c4,b5,bl⟩,rfl,rfl⟩:=b6;have b9:cu=[v0]:=b9;have b4:c5=[v1]:=b4;have b5:c4=[v2]:=b5;subst b9 b4 b5 cw;have a6:[v1]=[Value.int .i64 i]:=a6;simp only[BS,and_true]at a6;subst a6;rw[bH (by simp)]at c0 bl;obtain⟨u0,e0,H0⟩:=c0;obtain⟨u2,e2,H2⟩:=bl;simp only[BS,and_true]at e0 e2;subst e0 e2;obtain⟨a5,B0,r0,z,l0⟩:=qO H0;obtain⟨bb,B2,r2,a3,l2⟩:=qO H2;have u:fN e M xs i zs=some y:=u;unfold fN at u;split at u
 ·rename_i hc;obtain⟨cc,dc,hm,cp⟩:=hc;simp only[BQ]at u;subst u;obtain⟨j,rfl⟩:∃ j:Nat,i=(j:Int):=Int.eq_ofNat_of_zero_le cc;have hj:j<=xs.length:=by omega
  simp only[BE,BF,BG,BH]at Y ba ⊢;have Z:∀ k∈b0,k∉b2:=λk I X=>(BC.1 Y).2.2 k I k X rfl
  refine (b3 w v0 v2 xs.length zs.length j a5 bb r0 r2 l0.one l2.one hm hj (λk I X=>Z k (by rw[z];exact BA _ I) (by rw[a3];exact BA _ X)) (by simpa only[an]using cp)).mono λen w'=>?_
  rintro⟨v',rfl,r',hgr,hown⟩;have hx:xs=xs.take j++xs.drop j:=(BN j xs).symm;have c1:=l0;rw[hx]at c1;obtain⟨f1,f2,C1,C2,ef,ec,l1,l3⟩:=Els.split c1;have bn:f1.length=j*e.cells:=by rw[l1.len,List.length_take,Nat.min_eq_left hj]
  have et:a5.take (j*e.cells)=f1:=by rw[ef];exact List.take_left' bn
  have ed:a5.drop (j*e.cells)=f2:=by rw[ef];exact List.drop_left' bn
  rw[et,ed]at r';have O:b0.Nodup:=(BC.1 Y).1;have cx:b2.Nodup:=(BC.1 Y).2.1;have a2:∀ k∈b0,k<w.heap.size:=H0.lt;have a9:∀ k∈b2,k<w.heap.size:=H2.lt;have H:∀ k,k<w.heap.size->k∉v0.ownBlock.toList->w'.heap[k]?=w.heap[k]?:=λk r hn=>hgr.block k r (λh=>hn (by rw[<- h];simp))
  have c2:∀ k∈B0,w'.heap[k]?=w.heap[k]?:=λk r=>H k (a2 k (by rw[z];exact BB _ r)) (λh=>by
   rw[z]at O;exact (BC.1 O).2.2 k h k r rfl)
  have c6:∀ k∈B2,w'.heap[k]?=w.heap[k]?:=λk r=>H k (a9 k (by rw[a3];exact BB _ r)) (λh=>Z k (by rw[z];exact BA _ h) (by rw[a3];exact BB _ r))
  have ad:∀ k,(λ_:Nat=>False) k->w'.heap[k]?=w.heap[k]?:=λ_ h=>h.elim
  have bx:∀ k,ro k->w'.heap[k]?=w.heap[k]?:=λk r=>H k (ba k r).1 (λh=>(ba k r).2 (BA _ (by rw[z];exact BA _ h)))
  have hL:∀ {ys:List e.den} {f:List Value} {B:List Nat},Els w ro e ys f B->(∀ k∈B,w'.heap[k]?=w.heap[k]?)->Els w' (λk=>False\/(J=false/\ro k)) e ys f B:=λh hB=>by
   rcases hd with hd|hf
   ·exact (h.deep (G':=λ_=>False) hd).carry (λ_ h=>h.elim) ad hB
   ·exact h.carry (λk r=>.inr ⟨hf,r⟩) bx hB
  have L1:=hL l1 λk r=>c2 k (by rw[ec];exact BA _ r)
  have L3:=hL l3 λk r=>c2 k (by rw[ec];exact BB _ r)
  have L2:=hL l2 c6;have L:=(L1.append L2).append L3;have c3:(xs.take j++zs++xs.drop j).length=xs.length+zs.length:=by simp;omega
  rw[<- c3]at r';have R:=vi r' L;have a4:(C1++B2++C2).Perm (B0++B2):=by
   rw[ec,BD,BD];exact List.Perm.append_left C1 List.perm_append_comm
  have cb:(B0++B2).Nodup:=by
   rw[z,a3]at Y;have I:=BC.1 Y;refine BC.2 ⟨(BC.1 I.1).2.1,(BC.1 I.2.1).2.1,λa ha b hb=>I.2.2 a (BB _ ha) b (BB _ hb)⟩
  have a1:∀ k,k∈C1++B2++C2->k∈b0++b2/\k<w.heap.size/\k∉v0.ownBlock.toList:=by
   intro k r;rcases BM.1 (a4.mem_iff.1 r) with h|h
   ·have I:k∈b0:=by rw[z];exact BB _ h
    refine⟨BA _ I,a2 k I,λX=>?_⟩;rw[z]at O;exact (BC.1 O).2.2 k X k h rfl
   ·have I:k∈b2:=by rw[a3];exact BB _ h
    exact⟨BB _ I,a9 k I,λX=>Z k (by rw[z];exact BA _ X) I⟩
  have a0:∀ k∈v'.ownBlock.toList,(k∈v0.ownBlock.toList\/k=w.heap.size):=by
   intro k r;rcases hown with h|h
   ·rw[h]at r;exact .inl r
   ·rw[h]at r;simp at r;exact .inr r
  refine⟨v',[v'],λ_=>False,[[],[],[]],[v'.ownBlock.toList++(C1++B2++C2)],rfl,rfl,hgr.size,hgr.os,hgr.tape,hgr.output,?_,?_,?_,?_,?_,?_⟩
  ·intro k r hn;refine H k r (λh=>hn ?_);simp only[BE,BF,BG,BH];exact BA _ (by rw[z];exact BA _ h)
  ·intro k h;exact h.elim
  ·exact⟨rfl,rfl,rfl,trivial⟩
  ·refine⟨v',[],_,[],rfl,rfl,⟨[v'],rfl,?_⟩,rfl,rfl⟩;rw[bH (by simp)];exact⟨v',rfl,R⟩
  ·simp only[BE,BF,BG,BH];refine BC.2 ⟨?_,a4.nodup_iff.2 cb,λa ha b hb=>?_⟩
   ·cases v'.ownBlock <;> simp
   ·rintro rfl;obtain⟨_,X,h3⟩:=a1 a hb;rcases a0 a ha with h|h
    ·exact h3 h
    ·omega
  ·intro k r;simp only[BE,BF,BG,BH]at r;refine⟨?_,λh=>h⟩;rcases BM.1 r with h|h
   ·rcases a0 k h with X|X
    ·have h3:k∈b0:=by rw[z];exact BA _ X
     refine⟨BO (a2 k h3) hgr.size,.inr ?_⟩;simp only[BE,BF,BG,BH];exact BA _ h3
    ·exact⟨r'.lt k h,.inl (by omega)⟩
   ·obtain⟨I,X,_⟩:=a1 k h;refine⟨BO X hgr.size,.inr ?_⟩;simp only[BE,BF,BG,BH];exact I
 ·cases u
end Go.Proofs.YtaelpfghkndliaaGreatEv
