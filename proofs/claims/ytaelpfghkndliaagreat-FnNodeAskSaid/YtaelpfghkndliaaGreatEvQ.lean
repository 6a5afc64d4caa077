/- Elements side by side; slices.Insert: from what its walk says to its contract. -/
import Derived.Test.YtaelpfghkndliaaGreatE3
import Derived.Test.YtaelpfghkndliaaGreatE0
set_option linter.unusedVariables false
set_option linter.unusedSimpArgs false
open List renaming mem_append_left->BA,mem_append_right->BB,nodup_append->BC,append_assoc->BD,flatten_cons->BE,flatten_nil->BF,append_nil->BG,nil_append->BH,length_cons->BI,getElem?_eq_getElem->BJ,range_succ_eq_map->BL,mem_append->BM,take_append_drop->BN,flatMap_cons->BP,flatMap_map->BR,range->BT
open List.cons renaming injEq->BS
open Nat renaming succ_mul->BK,lt_of_lt_of_le->BO
open Option.some renaming injEq->BQ
namespace Go.Proofs.YtaelpfghkndliaaGreatEv
open Go Go.RowKit
def Els (w:World)(G:Nat->Prop)(e:Ty):List e.den->List Value->List Nat->Prop
 |[],r,B=>r=[]/\B=[]
 |x::z,r,B=>∃ c b u y,r=c++u/\B=b++y/\Mx w G e none 0 x c b/\Els w G e z u y
theorem Els.len {w:World}{G:Nat->Prop}{e:Ty}:∀ {xs:List e.den} {flat:List Value} {B:List Nat},Els w G e xs flat B->flat.length=xs.length*e.cells
 |[],_,_,⟨h,_⟩=>by rw[h];simp
 |x::xs,_,_,⟨c,b,f,z,u,_,r,y⟩=>by
  rw[u,List.length_append,r.len,Els.len y,BI,BK];omega
theorem Els.one {w:World}{G:Nat->Prop}{e:Ty}:∀ {xs:List e.den} {flat:List Value} {B:List Nat},Els w G e xs flat B->∀ u∈flat,u.oneCell'=true
 |[],_,_,⟨h,_⟩=>by rw[h];simp
 |x::xs,_,_,⟨c,b,f,I,H,_,y,z⟩=>by
  rw[H];intro u r;rcases BM.1 r with r|r
  ·exact y.one u r
  ·exact Els.one z u r
theorem Els.append {w:World}{G:Nat->Prop}{e:Ty}:∀ {xs y:List e.den} {f u:List Value} {B r:List Nat},Els w G e xs f B->Els w G e y u r->Els w G e (xs++y) (f++u) (B++r)
 |[],_,_,_,_,_,⟨H,z⟩,h=>by rw[H,z];exact h
 |x::xs,y,_,u,_,r,⟨c,b,I,B0,H,z,M,J⟩,h=>⟨c,b,I++u,B0++r,by rw[H,BD],by rw[z,BD],M,Els.append J h⟩
theorem Els.split {w:World}{G:Nat->Prop}{e:Ty}:∀ {xs H:List e.den} {f:List Value} {B:List Nat},Els w G e (xs++H) f B->∃ u y r z,f=u++y/\B=r++z/\Els w G e xs u r/\Els w G e H y z
 |[],_,f,B,h=>⟨[],f,[],B,rfl,rfl,⟨rfl,rfl⟩,h⟩
 |x::xs,H,_,_,⟨c,b,f0,B0,Y,X,O,I⟩=>by
  obtain⟨u,y,r,z,J,M,R,Z⟩:=Els.split I;exact⟨c++u,y,b++r,z,by rw[Y,J,BD],by rw[X,M,BD],⟨c,b,u,r,rfl,rfl,O,R⟩,Z⟩
theorem Els.carry {w w':World}{G G':Nat->Prop}(H:∀ k,G k->G' k)(y:∀ k,G k->w'.heap[k]?=w.heap[k]?){e:Ty}:∀ {xs:List e.den} {f:List Value} {B:List Nat},(∀ k∈B,w'.heap[k]?=w.heap[k]?)->Els w G e xs f B->Els w' G' e xs f B
 |[],_,_,_,h=>h
 |x::xs,_,_,z,⟨c,b,I,B0,O,u,M,J⟩=>⟨c,b,I,B0,O,u,M.carry H y (λk r=>z k (by rw[u];exact BA _ r)),Els.carry H y (λk r=>z k (by rw[u];exact BB _ r)) J⟩
theorem xY {w:World}{G:Nat->Prop}{e:Ty}:∀ (xs:List e.den) (flat:List Value) (r:Nat->List Nat),flat.length=xs.length*e.cells ->
  (∀ j (x:e.den),xs[j]?=some x->∃ c,Mx w G e none 0 x c (r j)/\∀ i u,c[i]?=some u->flat[j*e.cells+i]?=some u)->Els w G e xs flat ((BT xs.length).flatMap r)
 |[],flat,r,I,_=>⟨List.eq_nil_of_length_eq_zero (by simpa using I),by simp⟩
 |x::xs,flat,r,I,h=>by
  obtain⟨c,M,X⟩:=h 0 x rfl;have hc:=M.len;rw[BI,BK]at I;have J:flat.take e.cells=c:=by
   refine List.ext_getElem? λj=>?_
   rw[List.getElem?_take];split
   ·rename_i H;have z:j<c.length:=by omega
    have:=X j c[j] (BJ z);rw[Nat.zero_mul,Nat.zero_add]at this;rw[this,BJ z]
   ·rename_i H;exact (List.getElem?_eq_none (by omega)).symm
  refine⟨c,r 0,flat.drop e.cells,(BT xs.length).flatMap λj=>r (j+1),by rw[<- J,BN],?_,M,?_⟩
  ·rw[BI,BL,BP,BR]
  ·refine xY xs (flat.drop e.cells) (λj=>r (j+1)) (by rw[List.length_drop];omega) λj y H=>?_
   obtain⟨Y,R,O⟩:=h (j+1) y (by simpa using H);refine⟨Y,R,λi u Z=>?_⟩;rw[List.getElem?_drop,<- O i u Z,BK];congr 1;omega
theorem Els.to {w:World}{G:Nat->Prop}{e:Ty}:∀ {xs:List e.den} {flat:List Value} {B:List Nat},Els w G e xs flat B ->
  ∃ r:Nat->List Nat,B=(BT xs.length).flatMap r/\∀ j (x:e.den),xs[j]?=some x->∃ c,Mx w G e none 0 x c (r j)/\∀ i u,c[i]?=some u->flat[j*e.cells+i]?=some u
 |[],_,_,⟨_,h⟩=>⟨λ_=>[],by rw[h];simp,by simp⟩
 |x::xs,_,_,⟨c,b,f,B',M,Z,J,R⟩=>by
  obtain⟨r,Y,h6⟩:=Els.to R;refine⟨λj=>match j with|0=>b|j+1=>r j,?_,λj y I=>?_⟩
  ·rw[Z,Y,BI,BL,BP,BR]
  ·have hc:=J.len;cases j with
   |zero =>
    simp only[List.getElem?_cons_zero,BQ]at I;subst I;refine⟨c,J,λi u z=>?_⟩;have H:=(List.getElem?_eq_some_iff.1 z).1;rw[M,Nat.zero_mul,Nat.zero_add,List.getElem?_append_left H];exact z
   |succ j =>
    obtain⟨c',O,X⟩:=h6 j y (by simpa using I);refine⟨c',O,λi u z=>?_⟩;rw[M,BK,List.getElem?_append_right (by omega),<- X i u z];congr 1;omega
theorem qO {w:World}{G:Nat->Prop}{E:TypeId}{e:Ty}{xs:List e.den}{v:Value}{bs:List Nat}(h:OwB w G none E e xs v bs):∃ r B,Row w E e.cells v xs.length r/\bs=v.ownBlock.toList++B/\Els w G e xs r B:=by
 obtain⟨r,u,y,J,H⟩:=h;exact⟨r,_,y,J,xY xs r u y.1 (λj x M=>by obtain⟨c,z,I⟩:=H j x M;exact⟨c,z,I⟩)⟩
theorem vj {w:World}{G:Nat->Prop}{E:TypeId}{e:Ty}{xs:List e.den}{v:Value}{flat:List Value}{B:List Nat}(I:Row w E e.cells v xs.length flat)(H:Els w G e xs flat B):OwB w G none E e xs v (v.ownBlock.toList++B):=by
 obtain⟨r,y,u⟩:=H.to;exact⟨flat,r,I,by rw[y],λj x J=>by obtain⟨c,z,M⟩:=u j x J;exact⟨c,z,M⟩⟩
theorem Els.deep {w:World}{G G':Nat->Prop}{e:Ty}(r:e.shy=false):∀ {xs:List e.den} {f:List Value} {B:List Nat},Els w G e xs f B->Els w G' e xs f B
 |[],_,_,h=>h
 |x::xs,_,_,⟨c,b,u,B0,I,H,z,y⟩=>⟨c,b,u,B0,I,H,z.deep r,Els.deep r y⟩
def ji (P:Program)(f:FuncId)(E:TypeId)(s z:Nat):Prop :=
 ∀ (w:World) (H J:Value) (n m i:Nat) (r y:List Value),Row w E s H n r->Row w E s J m y->(∀ u∈r,u.oneCell'=true)->(∀ u∈y,u.oneCell'=true)->0<m->i<=n ->
  (∀ k∈H.ownBlock.toList,k∉J.ownBlock.toList)->(n+m)*z<=140737488355328 ->
  Calls P f #[H,.int .i64 i,J] w λe M=>∃ I,e=.returned I/\Row M E s I (n+m) (r.take (i*s)++y++r.drop (i*s))/\w.grownBy M H.ownBlock/\(I.ownBlock=H.ownBlock\/I.ownBlock=some w.heap.size)
theorem gE {P:Program}{f:FuncId}{E:TypeId}{e:Ty}{M:Nat}{J:Bool}(hE:fQ P f)(hd:e.shy=false\/J=false)(b3:ji P f E e.cells M) :
  bP P ⟨f,[.own (.list true E e),.rd (.int .i64),.own (.list true E e)],[.v (.list true E e)],J,λx=>fP e M x.1 x.2.1 x.2.2.1⟩:=by
 refine⟨hE,?_⟩;intro w ro x vs dd y b6 ad Y z;obtain⟨xs,i,zs,_⟩:=x;obtain⟨v0,dc,b0,d2,rfl,rfl,⟨c5,b9,c1⟩,v1,cx,b1,e1,rfl,rfl,⟨c4,c3,b4,a6⟩,v2,cy,b2,d3,rfl,rfl,⟨cp,ab,bx⟩,rfl,rfl⟩:=b6;have b9:c5=[v0]:=b9;have b4:c3=[v1]:=b4;have ab:cp=[v2]:=ab;subst b9 b4 ab c4;have a6:[v1]=[Value.int .i64 i]:=a6;simp only[BS,and_true]at a6;subst a6;rw[bH (by simp)]at c1 bx;obtain⟨u0,e0,H0⟩:=c1;obtain⟨u2,e2,H2⟩:=bx;simp only[BS,and_true]at e0 e2;subst e0 e2;obtain⟨a0,B0,r0,u,l0⟩:=qO H0;obtain⟨ba,B2,r2,a2,l2⟩:=qO H2;have z:fP e M xs i zs=some y:=z;unfold fP at z;split at z
 ·rename_i hc;obtain⟨cu,d1,hm,c6⟩:=hc;simp only[BQ]at z;subst z;obtain⟨j,rfl⟩:∃ j:Nat,i=(j:Int):=Int.eq_ofNat_of_zero_le cu;have hj:j<=xs.length:=by omega
  simp only[BE,BF,BG,BH]at Y ad ⊢;have a5:∀ k∈b0,k∉b2:=λk I X=>(BC.1 Y).2.2 k I k X rfl
  refine (b3 w v0 v2 xs.length zs.length j a0 ba r0 r2 l0.one l2.one hm hj (λk I X=>a5 k (by rw[u];exact BA _ I) (by rw[a2];exact BA _ X)) (by simpa only[ao]using c6)).mono λen w'=>?_
  rintro⟨v',rfl,r',hgr,hown⟩;have hx:xs=xs.take j++xs.drop j:=(BN j xs).symm;have c0:=l0;rw[hx]at c0;obtain⟨f1,f2,C1,C2,ef,ec,l1,l3⟩:=Els.split c0;have bn:f1.length=j*e.cells:=by rw[l1.len,List.length_take,Nat.min_eq_left hj]
  have et:a0.take (j*e.cells)=f1:=by rw[ef];exact List.take_left' bn
  have ed:a0.drop (j*e.cells)=f2:=by rw[ef];exact List.drop_left' bn
  rw[et,ed]at r';have O:b0.Nodup:=(BC.1 Y).1;have cw:b2.Nodup:=(BC.1 Y).2.1;have Z:∀ k∈b0,k<w.heap.size:=H0.lt;have a9:∀ k∈b2,k<w.heap.size:=H2.lt;have H:∀ k,k<w.heap.size->k∉v0.ownBlock.toList->w'.heap[k]?=w.heap[k]?:=λk r hn=>hgr.block k r (λh=>hn (by rw[<- h];simp))
  have bb:∀ k∈B0,w'.heap[k]?=w.heap[k]?:=λk r=>H k (Z k (by rw[u];exact BB _ r)) (λh=>by
   rw[u]at O;exact (BC.1 O).2.2 k h k r rfl)
  have cc:∀ k∈B2,w'.heap[k]?=w.heap[k]?:=λk r=>H k (a9 k (by rw[a2];exact BB _ r)) (λh=>a5 k (by rw[u];exact BA _ h) (by rw[a2];exact BB _ r))
  have b5:∀ k,(λ_:Nat=>False) k->w'.heap[k]?=w.heap[k]?:=λ_ h=>h.elim
  have c2:∀ k,ro k->w'.heap[k]?=w.heap[k]?:=λk r=>H k (ad k r).1 (λh=>(ad k r).2 (BA _ (by rw[u];exact BA _ h)))
  have hL:∀ {ys:List e.den} {f:List Value} {B:List Nat},Els w ro e ys f B->(∀ k∈B,w'.heap[k]?=w.heap[k]?)->Els w' (λk=>False\/(J=false/\ro k)) e ys f B:=λh hB=>by
   rcases hd with hd|hf
   ·exact (h.deep (G':=λ_=>False) hd).carry (λ_ h=>h.elim) b5 hB
   ·exact h.carry (λk r=>.inr ⟨hf,r⟩) c2 hB
  have L1:=hL l1 λk r=>bb k (by rw[ec];exact BA _ r)
  have L3:=hL l3 λk r=>bb k (by rw[ec];exact BB _ r)
  have L2:=hL l2 cc;have L:=(L1.append L2).append L3;have bl:(xs.take j++zs++xs.drop j).length=xs.length+zs.length:=by simp;omega
  rw[<- bl]at r';have R:=vj r' L;have a3:(C1++B2++C2).Perm (B0++B2):=by
   rw[ec,BD,BD];exact List.Perm.append_left C1 List.perm_append_comm
  have cb:(B0++B2).Nodup:=by
   rw[u,a2]at Y;have I:=BC.1 Y;refine BC.2 ⟨(BC.1 I.1).2.1,(BC.1 I.2.1).2.1,λa ha b hb=>I.2.2 a (BB _ ha) b (BB _ hb)⟩
  have a4:∀ k,k∈C1++B2++C2->k∈b0++b2/\k<w.heap.size/\k∉v0.ownBlock.toList:=by
   intro k r;rcases BM.1 (a3.mem_iff.1 r) with h|h
   ·have I:k∈b0:=by rw[u];exact BB _ h
    refine⟨BA _ I,Z k I,λX=>?_⟩;rw[u]at O;exact (BC.1 O).2.2 k X k h rfl
   ·have I:k∈b2:=by rw[a2];exact BB _ h
    exact⟨BB _ I,a9 k I,λX=>a5 k (by rw[u];exact BA _ X) I⟩
  have a1:∀ k∈v'.ownBlock.toList,(k∈v0.ownBlock.toList\/k=w.heap.size):=by
   intro k r;rcases hown with h|h
   ·rw[h]at r;exact .inl r
   ·rw[h]at r;simp at r;exact .inr r
  refine⟨v',[v'],λ_=>False,[[],[],[]],[v'.ownBlock.toList++(C1++B2++C2)],rfl,rfl,hgr.size,hgr.os,hgr.tape,hgr.output,?_,?_,?_,?_,?_,?_⟩
  ·intro k r hn;refine H k r (λh=>hn ?_);simp only[BE,BF,BG,BH];exact BA _ (by rw[u];exact BA _ h)
  ·intro k h;exact h.elim
  ·exact⟨rfl,rfl,rfl,trivial⟩
  ·refine⟨v',[],_,[],rfl,rfl,⟨[v'],rfl,?_⟩,rfl,rfl⟩;rw[bH (by simp)];exact⟨v',rfl,R⟩
  ·simp only[BE,BF,BG,BH];refine BC.2 ⟨?_,a3.nodup_iff.2 cb,λa ha b hb=>?_⟩
   ·cases v'.ownBlock <;> simp
   ·rintro rfl;obtain⟨_,X,h3⟩:=a4 a hb;rcases a1 a ha with h|h
    ·exact h3 h
    ·omega
  ·intro k r;simp only[BE,BF,BG,BH]at r;refine⟨?_,λh=>h⟩;rcases BM.1 r with h|h
   ·rcases a1 k h with X|X
    ·have h3:k∈b0:=by rw[u];exact BA _ X
     refine⟨BO (Z k h3) hgr.size,.inr ?_⟩;simp only[BE,BF,BG,BH];exact BA _ h3
    ·exact⟨r'.lt k h,.inl (by omega)⟩
   ·obtain⟨I,X,_⟩:=a4 k h;refine⟨BO X hgr.size,.inr ?_⟩;simp only[BE,BF,BG,BH];exact I
 ·cases z
end Go.Proofs.YtaelpfghkndliaaGreatEv
