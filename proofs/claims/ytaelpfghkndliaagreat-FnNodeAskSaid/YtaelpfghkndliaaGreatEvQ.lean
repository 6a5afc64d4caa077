/- Elements side by side; slices.Insert: from what its walk says to its contract. -/
import Derived.Test.YtaelpfghkndliaaGreatE3
import Derived.Test.YtaelpfghkndliaaGreatE0
set_option linter.unusedVariables false
set_option linter.unusedSimpArgs false
open List renaming mem_append_left->BA,mem_append_right->BB,nodup_append->BC,append_assoc->BD,flatten_cons->BE,flatten_nil->BF,append_nil->BG,nil_append->BH,length_cons->BI,getElem?_eq_getElem->BJ,range_succ_eq_map->BL,mem_append->BM,take_append_drop->BN,flatMap_cons->BP,flatMap_map->BR,range->BT
open List.cons renaming injEq->BS
open Nat renaming succ_mul->BK,lt_of_lt_of_le->BO
open Option.some renaming injEq->BQ
namespace Go.Proofs.YtaelpfghkndliaaGreatEv
open Go Go.RowKit
def Els (w:World)(G:Nat->Prop)(e:Ty):List e.den->List Value->List Nat->Prop
 |[],u,B=>u=[]/\B=[]
 |x::z,u,B=>∃ c b r y,u=c++r/\B=b++y/\Mx w G e none 0 x c b/\Els w G e z r y
theorem Els.len {w:World}{G:Nat->Prop}{e:Ty}:∀ {xs:List e.den} {flat:List Value} {B:List Nat},Els w G e xs flat B->flat.length=xs.length*e.cells
 |[],_,_,⟨h,_⟩=>by rw[h];simp
 |x::xs,_,_,⟨c,b,f,z,u,_,r,y⟩=>by
  rw[u,List.length_append,r.len,Els.len y,BI,BK];omega
theorem Els.one {w:World}{G:Nat->Prop}{e:Ty}:∀ {xs:List e.den} {flat:List Value} {B:List Nat},Els w G e xs flat B->∀ u∈flat,u.oneCell'=true
 |[],_,_,⟨h,_⟩=>by rw[h];simp
 |x::xs,_,_,⟨c,b,f,I,z,_,y,H⟩=>by
  rw[z];intro u r;rcases BM.1 r with r|r
  ·exact y.one u r
  ·exact Els.one H u r
theorem Els.append {w:World}{G:Nat->Prop}{e:Ty}:∀ {xs H:List e.den} {f u:List Value} {B r:List Nat},Els w G e xs f B->Els w G e H u r->Els w G e (xs++H) (f++u) (B++r)
 |[],_,_,_,_,_,⟨z,y⟩,h=>by rw[z,y];exact h
 |x::xs,H,_,u,_,r,⟨c,b,M,B0,z,y,J,I⟩,h=>⟨c,b,M++u,B0++r,by rw[z,BD],by rw[y,BD],J,Els.append I h⟩
theorem Els.split {w:World}{G:Nat->Prop}{e:Ty}:∀ {xs H:List e.den} {f:List Value} {B:List Nat},Els w G e (xs++H) f B->∃ r z u y,f=r++z/\B=u++y/\Els w G e xs r u/\Els w G e H z y
 |[],_,f,B,h=>⟨[],f,[],B,rfl,rfl,⟨rfl,rfl⟩,h⟩
 |x::xs,H,_,_,⟨c,b,f0,B0,M,J,R,O⟩=>by
  obtain⟨r,z,u,y,Z,I,X,Y⟩:=Els.split O;exact⟨c++r,z,b++u,y,by rw[M,Z,BD],by rw[J,I,BD],⟨c,b,r,u,rfl,rfl,R,X⟩,Y⟩
theorem Els.carry {w w':World}{G G':Nat->Prop}(z:∀ k,G k->G' k)(H:∀ k,G k->w'.heap[k]?=w.heap[k]?){e:Ty}:∀ {xs:List e.den} {f:List Value} {B:List Nat},(∀ k∈B,w'.heap[k]?=w.heap[k]?)->Els w G e xs f B->Els w' G' e xs f B
 |[],_,_,_,h=>h
 |x::xs,_,_,y,⟨c,b,O,B0,I,u,M,J⟩=>⟨c,b,O,B0,I,u,M.carry z H (λk r=>y k (by rw[u];exact BA _ r)),Els.carry z H (λk r=>y k (by rw[u];exact BB _ r)) J⟩
theorem xY {w:World}{G:Nat->Prop}{e:Ty}:∀ (xs:List e.den) (flat:List Value) (r:Nat->List Nat),flat.length=xs.length*e.cells ->
  (∀ j (x:e.den),xs[j]?=some x->∃ c,Mx w G e none 0 x c (r j)/\∀ i u,c[i]?=some u->flat[j*e.cells+i]?=some u)->Els w G e xs flat ((BT xs.length).flatMap r)
 |[],flat,r,I,_=>⟨List.eq_nil_of_length_eq_zero (by simpa using I),by simp⟩
 |x::xs,flat,r,I,h=>by
  obtain⟨c,M,X⟩:=h 0 x rfl;have hc:=M.len;rw[BI,BK]at I;have H:flat.take e.cells=c:=by
   refine List.ext_getElem? λj=>?_
   rw[List.getElem?_take];split
   ·rename_i J;have z:j<c.length:=by omega
    have:=X j c[j] (BJ z);rw[Nat.zero_mul,Nat.zero_add]at this;rw[this,BJ z]
   ·rename_i J;exact (List.getElem?_eq_none (by omega)).symm
  refine⟨c,r 0,flat.drop e.cells,(BT xs.length).flatMap λj=>r (j+1),by rw[<- H,BN],?_,M,?_⟩
  ·rw[BI,BL,BP,BR]
  ·refine xY xs (flat.drop e.cells) (λj=>r (j+1)) (by rw[List.length_drop];omega) λj y J=>?_
   obtain⟨R,Z,Y⟩:=h (j+1) y (by simpa using J);refine⟨R,Z,λi u O=>?_⟩;rw[List.getElem?_drop,<- Y i u O,BK];congr 1;omega
theorem Els.to {w:World}{G:Nat->Prop}{e:Ty}:∀ {xs:List e.den} {flat:List Value} {B:List Nat},Els w G e xs flat B ->
  ∃ r:Nat->List Nat,B=(BT xs.length).flatMap r/\∀ j (x:e.den),xs[j]?=some x->∃ c,Mx w G e none 0 x c (r j)/\∀ i u,c[i]?=some u->flat[j*e.cells+i]?=some u
 |[],_,_,⟨_,h⟩=>⟨λ_=>[],by rw[h];simp,by simp⟩
 |x::xs,_,_,⟨c,b,f,B',J,X,M,Y⟩=>by
  obtain⟨r,Z,h6⟩:=Els.to Y;refine⟨λj=>match j with|0=>b|j+1=>r j,?_,λj y H=>?_⟩
  ·rw[X,Z,BI,BL,BP,BR]
  ·have hc:=M.len;cases j with
   |zero =>
    simp only[List.getElem?_cons_zero,BQ]at H;subst H;refine⟨c,M,λi u z=>?_⟩;have I:=(List.getElem?_eq_some_iff.1 z).1;rw[J,Nat.zero_mul,Nat.zero_add,List.getElem?_append_left I];exact z
   |succ j =>
    obtain⟨O,h7,R⟩:=h6 j y (by simpa using H);refine⟨O,h7,λi u z=>?_⟩;rw[J,BK,List.getElem?_append_right (by omega),<- R i u z];congr 1;omega
theorem qO {w:World}{G:Nat->Prop}{E:TypeId}{e:Ty}{xs:List e.den}{v:Value}{bs:List Nat}(h:OwB w G none E e xs v bs):∃ r B,Row w E e.cells v xs.length r/\bs=v.ownBlock.toList++B/\Els w G e xs r B:=by
 obtain⟨r,u,y,z,J⟩:=h;exact⟨r,_,y,z,xY xs r u y.1 (λj x H=>by obtain⟨c,I,M⟩:=J j x H;exact⟨c,I,M⟩)⟩
theorem vj {w:World}{G:Nat->Prop}{E:TypeId}{e:Ty}{xs:List e.den}{v:Value}{flat:List Value}{B:List Nat}(y:Row w E e.cells v xs.length flat)(u:Els w G e xs flat B):OwB w G none E e xs v (v.ownBlock.toList++B):=by
 obtain⟨r,I,H⟩:=u.to;exact⟨flat,r,y,by rw[I],λj x z=>by obtain⟨c,J,M⟩:=H j x z;exact⟨c,J,M⟩⟩
theorem Els.deep {w:World}{G G':Nat->Prop}{e:Ty}(r:e.shy=false):∀ {xs:List e.den} {f:List Value} {B:List Nat},Els w G e xs f B->Els w G' e xs f B
 |[],_,_,h=>h
 |x::xs,_,_,⟨c,b,I,B0,y,u,H,z⟩=>⟨c,b,I,B0,y,u,H.deep r,Els.deep r z⟩
def ji (P:Program)(f:FuncId)(E:TypeId)(s z:Nat):Prop :=
 ∀ (w:World) (H J:Value) (n m i:Nat) (r y:List Value),Row w E s H n r->Row w E s J m y->(∀ u∈r,u.oneCell'=true)->(∀ u∈y,u.oneCell'=true)->0<m->i<=n ->
  (∀ k∈H.ownBlock.toList,k∉J.ownBlock.toList)->(n+m)*z<=140737488355328 ->
  Calls P f #[H,.int .i64 i,J] w λe M=>∃ I,e=.returned I/\Row M E s I (n+m) (r.take (i*s)++y++r.drop (i*s))/\w.grownBy M H.ownBlock/\(I.ownBlock=H.ownBlock\/I.ownBlock=some w.heap.size)
theorem gE {P:Program}{f:FuncId}{E:TypeId}{e:Ty}{M:Nat}{J:Bool}(hE:fQ P f)(hd:e.shy=false\/J=false)(b9:ji P f E e.cells M) :
  bP P ⟨f,[.own (.list true E e),.rd (.int .i64),.own (.list true E e)],[.v (.list true E e)],J,λx=>fP e M x.1 x.2.1 x.2.2.1⟩:=by
 refine⟨hE,?_⟩;intro w ro x vs dc y b5 ad X u;obtain⟨xs,i,zs,_⟩:=x;obtain⟨v0,d1,b0,cy,rfl,rfl,⟨cp,b3,c2⟩,v1,cx,b1,dd,rfl,rfl,⟨c4,cc,b6,a6⟩,v2,e1,b2,d3,rfl,rfl,⟨cb,ab,bx⟩,rfl,rfl⟩:=b5;have b3:cp=[v0]:=b3;have b6:cc=[v1]:=b6;have ab:cb=[v2]:=ab;subst b3 b6 ab c4;have a6:[v1]=[Value.int .i64 i]:=a6;simp only[BS,and_true]at a6;subst a6;rw[bH (by simp)]at c2 bx;obtain⟨u0,e0,H0⟩:=c2;obtain⟨u2,e2,H2⟩:=bx;simp only[BS,and_true]at e0 e2;subst e0 e2;obtain⟨a5,B0,r0,z,l0⟩:=qO H0;obtain⟨bb,B2,r2,a4,l2⟩:=qO H2;have u:fP e M xs i zs=some y:=u;unfold fP at u;split at u
 ·rename_i hc;obtain⟨c6,d2,hm,c5⟩:=hc;simp only[BQ]at u;subst u;obtain⟨j,rfl⟩:∃ j:Nat,i=(j:Int):=Int.eq_ofNat_of_zero_le c6;have hj:j<=xs.length:=by omega
  simp only[BE,BF,BG,BH]at X ad ⊢;have a1:∀ k∈b0,k∉b2:=λk I Y=>(BC.1 X).2.2 k I k Y rfl
  refine (b9 w v0 v2 xs.length zs.length j a5 bb r0 r2 l0.one l2.one hm hj (λk I Y=>a1 k (by rw[z];exact BA _ I) (by rw[a4];exact BA _ Y)) (by simpa only[ao]using c5)).mono λen w'=>?_
  rintro⟨v',rfl,r',hgr,hown⟩;have hx:xs=xs.take j++xs.drop j:=(BN j xs).symm;have c1:=l0;rw[hx]at c1;obtain⟨f1,f2,C1,C2,ef,ec,l1,l3⟩:=Els.split c1;have bl:f1.length=j*e.cells:=by rw[l1.len,List.length_take,Nat.min_eq_left hj]
  have et:a5.take (j*e.cells)=f1:=by rw[ef];exact List.take_left' bl
  have ed:a5.drop (j*e.cells)=f2:=by rw[ef];exact List.drop_left' bl
  rw[et,ed]at r';have O:b0.Nodup:=(BC.1 X).1;have cw:b2.Nodup:=(BC.1 X).2.1;have a2:∀ k∈b0,k<w.heap.size:=H0.lt;have a9:∀ k∈b2,k<w.heap.size:=H2.lt;have H:∀ k,k<w.heap.size->k∉v0.ownBlock.toList->w'.heap[k]?=w.heap[k]?:=λk r hn=>hgr.block k r (λh=>hn (by rw[<- h];simp))
  have ba:∀ k∈B0,w'.heap[k]?=w.heap[k]?:=λk r=>H k (a2 k (by rw[z];exact BB _ r)) (λh=>by
   rw[z]at O;exact (BC.1 O).2.2 k h k r rfl)
  have cu:∀ k∈B2,w'.heap[k]?=w.heap[k]?:=λk r=>H k (a9 k (by rw[a4];exact BB _ r)) (λh=>a1 k (by rw[z];exact BA _ h) (by rw[a4];exact BB _ r))
  have b4:∀ k,(λ_:Nat=>False) k->w'.heap[k]?=w.heap[k]?:=λ_ h=>h.elim
  have bn:∀ k,ro k->w'.heap[k]?=w.heap[k]?:=λk r=>H k (ad k r).1 (λh=>(ad k r).2 (BA _ (by rw[z];exact BA _ h)))
  have hL:∀ {ys:List e.den} {f:List Value} {B:List Nat},Els w ro e ys f B->(∀ k∈B,w'.heap[k]?=w.heap[k]?)->Els w' (λk=>False\/(J=false/\ro k)) e ys f B:=λh hB=>by
   rcases hd with hd|hf
   ·exact (h.deep (G':=λ_=>False) hd).carry (λ_ h=>h.elim) b4 hB
   ·exact h.carry (λk r=>.inr ⟨hf,r⟩) bn hB
  have L1:=hL l1 λk r=>ba k (by rw[ec];exact BA _ r)
  have L3:=hL l3 λk r=>ba k (by rw[ec];exact BB _ r)
  have L2:=hL l2 cu;have L:=(L1.append L2).append L3;have c0:(xs.take j++zs++xs.drop j).length=xs.length+zs.length:=by simp;omega
  rw[<- c0]at r';have R:=vj r' L;have a0:(C1++B2++C2).Perm (B0++B2):=by
   rw[ec,BD,BD];exact List.Perm.append_left C1 List.perm_append_comm
  have c3:(B0++B2).Nodup:=by
   rw[z,a4]at X;have I:=BC.1 X;refine BC.2 ⟨(BC.1 I.1).2.1,(BC.1 I.2.1).2.1,λa ha b hb=>I.2.2 a (BB _ ha) b (BB _ hb)⟩
  have Z:∀ k,k∈C1++B2++C2->k∈b0++b2/\k<w.heap.size/\k∉v0.ownBlock.toList:=by
   intro k r;rcases BM.1 (a0.mem_iff.1 r) with h|h
   ·have I:k∈b0:=by rw[z];exact BB _ h
    refine⟨BA _ I,a2 k I,λY=>?_⟩;rw[z]at O;exact (BC.1 O).2.2 k Y k h rfl
   ·have I:k∈b2:=by rw[a4];exact BB _ h
    exact⟨BB _ I,a9 k I,λY=>a1 k (by rw[z];exact BA _ Y) I⟩
  have a3:∀ k∈v'.ownBlock.toList,(k∈v0.ownBlock.toList\/k=w.heap.size):=by
   intro k r;rcases hown with h|h
   ·rw[h]at r;exact .inl r
   ·rw[h]at r;simp at r;exact .inr r
  refine⟨v',[v'],λ_=>False,[[],[],[]],[v'.ownBlock.toList++(C1++B2++C2)],rfl,rfl,hgr.size,hgr.os,hgr.tape,hgr.output,?_,?_,?_,?_,?_,?_⟩
  ·intro k r hn;refine H k r (λh=>hn ?_);simp only[BE,BF,BG,BH];exact BA _ (by rw[z];exact BA _ h)
  ·intro k h;exact h.elim
  ·exact⟨rfl,rfl,rfl,trivial⟩
  ·refine⟨v',[],_,[],rfl,rfl,⟨[v'],rfl,?_⟩,rfl,rfl⟩;rw[bH (by simp)];exact⟨v',rfl,R⟩
  ·simp only[BE,BF,BG,BH];refine BC.2 ⟨?_,a0.nodup_iff.2 c3,λa ha b hb=>?_⟩
   ·cases v'.ownBlock <;> simp
   ·rintro rfl;obtain⟨_,Y,h3⟩:=Z a hb;rcases a3 a ha with h|h
    ·exact h3 h
    ·omega
  ·intro k r;simp only[BE,BF,BG,BH]at r;refine⟨?_,λh=>h⟩;rcases BM.1 r with h|h
   ·rcases a3 k h with Y|Y
    ·have h3:k∈b0:=by rw[z];exact BA _ Y
     refine⟨BO (a2 k h3) hgr.size,.inr ?_⟩;simp only[BE,BF,BG,BH];exact BA _ h3
    ·exact⟨r'.lt k h,.inl (by omega)⟩
   ·obtain⟨I,Y,_⟩:=Z k h;refine⟨BO Y hgr.size,.inr ?_⟩;simp only[BE,BF,BG,BH];exact I
 ·cases u
end Go.Proofs.YtaelpfghkndliaaGreatEv
