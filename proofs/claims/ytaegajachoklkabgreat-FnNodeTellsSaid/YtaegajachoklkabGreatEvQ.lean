/- Elements side by side; slices.Insert: from what its walk says to its contract. -/
import Derived.Test.YtaegajachoklkabGreatE3
import Derived.Test.YtaegajachoklkabGreatE0
set_option linter.unusedVariables false
set_option linter.unusedSimpArgs false
open List renaming mem_append_left->BG,mem_append_right->BH,nodup_append->BI,append_assoc->BJ,flatten_cons->BK,flatten_nil->BL,append_nil->BM,nil_append->BN,length_cons->BO,getElem?_eq_getElem->BP,range_succ_eq_map->BR,mem_append->BS,take_append_drop->BT,flatMap_cons->BV,flatMap_map->BX,range->BZ
open List.cons renaming injEq->BY
open Nat renaming succ_mul->BQ,lt_of_lt_of_le->BU
open Option.some renaming injEq->BW
namespace Go.Proofs.YtaegajachoklkabGreatEv
open Go Go.RowKit
def Els (w:World)(G:Nat->Prop)(e:Ty):List e.den->List Value->List Nat->Prop
 |[],r,B=>r=[]/\B=[]
 |x::z,r,B=>∃ c b u y,r=c++u/\B=b++y/\Mx w G e none 0 x c b/\Els w G e z u y
theorem Els.len {w:World}{G:Nat->Prop}{e:Ty}:∀ {xs:List e.den} {flat:List Value} {B:List Nat},Els w G e xs flat B->flat.length=xs.length*e.cells
 |[],_,_,⟨h,_⟩=>by rw[h];simp
 |x::xs,_,_,⟨c,b,f,z,u,_,y,r⟩=>by
  rw[u,List.length_append,y.len,Els.len r,BO,BQ];omega
theorem Els.one {w:World}{G:Nat->Prop}{e:Ty}:∀ {xs:List e.den} {flat:List Value} {B:List Nat},Els w G e xs flat B->∀ u∈flat,u.oneCell'=true
 |[],_,_,⟨h,_⟩=>by rw[h];simp
 |x::xs,_,_,⟨c,b,f,I,z,_,H,y⟩=>by
  rw[z];intro u r;rcases BS.1 r with r|r
  ·exact H.one u r
  ·exact Els.one y u r
theorem Els.append {w:World}{G:Nat->Prop}{e:Ty}:∀ {xs y:List e.den} {f r:List Value} {B u:List Nat},Els w G e xs f B->Els w G e y r u->Els w G e (xs++y) (f++r) (B++u)
 |[],_,_,_,_,_,⟨z,H⟩,h=>by rw[z,H];exact h
 |x::xs,y,_,r,_,u,⟨c,b,I,B0,z,H,J,M⟩,h=>⟨c,b,I++r,B0++u,by rw[z,BJ],by rw[H,BJ],J,Els.append M h⟩
theorem Els.split {w:World}{G:Nat->Prop}{e:Ty}:∀ {xs H:List e.den} {f:List Value} {B:List Nat},Els w G e (xs++H) f B->∃ u z r y,f=u++z/\B=r++y/\Els w G e xs u r/\Els w G e H z y
 |[],_,f,B,h=>⟨[],f,[],B,rfl,rfl,⟨rfl,rfl⟩,h⟩
 |x::xs,H,_,_,⟨c,b,f0,B0,I,O,J,Y⟩=>by
  obtain⟨u,z,r,y,Z,R,M,X⟩:=Els.split Y;exact⟨c++u,z,b++r,y,by rw[I,Z,BJ],by rw[O,R,BJ],⟨c,b,u,r,rfl,rfl,J,M⟩,X⟩
theorem Els.carry {w w':World}{G G':Nat->Prop}(z:∀ k,G k->G' k)(H:∀ k,G k->w'.heap[k]?=w.heap[k]?){e:Ty}:∀ {xs:List e.den} {f:List Value} {B:List Nat},(∀ k∈B,w'.heap[k]?=w.heap[k]?)->Els w G e xs f B->Els w' G' e xs f B
 |[],_,_,_,h=>h
 |x::xs,_,_,y,⟨c,b,J,B0,I,u,M,O⟩=>⟨c,b,J,B0,I,u,M.carry z H (λk r=>y k (by rw[u];exact BG _ r)),Els.carry z H (λk r=>y k (by rw[u];exact BH _ r)) O⟩
theorem yp {w:World}{G:Nat->Prop}{e:Ty}:∀ (xs:List e.den) (flat:List Value) (r:Nat->List Nat),flat.length=xs.length*e.cells ->
  (∀ j (x:e.den),xs[j]?=some x->∃ c,Mx w G e none 0 x c (r j)/\∀ i u,c[i]?=some u->flat[j*e.cells+i]?=some u)->Els w G e xs flat ((BZ xs.length).flatMap r)
 |[],flat,r,I,_=>⟨List.eq_nil_of_length_eq_zero (by simpa using I),by simp⟩
 |x::xs,flat,r,I,h=>by
  obtain⟨c,M,R⟩:=h 0 x rfl;have hc:=M.len;rw[BO,BQ]at I;have J:flat.take e.cells=c:=by
   refine List.ext_getElem? λj=>?_
   rw[List.getElem?_take];split
   ·rename_i H;have z:j<c.length:=by omega
    have:=R j c[j] (BP z);rw[Nat.zero_mul,Nat.zero_add]at this;rw[this,BP z]
   ·rename_i H;exact (List.getElem?_eq_none (by omega)).symm
  refine⟨c,r 0,flat.drop e.cells,(BZ xs.length).flatMap λj=>r (j+1),by rw[<- J,BT],?_,M,?_⟩
  ·rw[BO,BR,BV,BX]
  ·refine yp xs (flat.drop e.cells) (λj=>r (j+1)) (by rw[List.length_drop];omega) λj y H=>?_
   obtain⟨Z,O,Y⟩:=h (j+1) y (by simpa using H);refine⟨Z,O,λi u X=>?_⟩;rw[List.getElem?_drop,<- Y i u X,BQ];congr 1;omega
theorem Els.to {w:World}{G:Nat->Prop}{e:Ty}:∀ {xs:List e.den} {flat:List Value} {B:List Nat},Els w G e xs flat B ->
  ∃ r:Nat->List Nat,B=(BZ xs.length).flatMap r/\∀ j (x:e.den),xs[j]?=some x->∃ c,Mx w G e none 0 x c (r j)/\∀ i u,c[i]?=some u->flat[j*e.cells+i]?=some u
 |[],_,_,⟨_,h⟩=>⟨λ_=>[],by rw[h];simp,by simp⟩
 |x::xs,_,_,⟨c,b,f,B',J,R,M,Y⟩=>by
  obtain⟨r,O,X⟩:=Els.to Y;refine⟨λj=>match j with|0=>b|j+1=>r j,?_,λj y H=>?_⟩
  ·rw[R,O,BO,BR,BV,BX]
  ·have hc:=M.len;cases j with
   |zero =>
    simp only[List.getElem?_cons_zero,BW]at H;subst H;refine⟨c,M,λi u z=>?_⟩;have I:=(List.getElem?_eq_some_iff.1 z).1;rw[J,Nat.zero_mul,Nat.zero_add,List.getElem?_append_left I];exact z
   |succ j =>
    obtain⟨Z,h7,h8⟩:=X j y (by simpa using H);refine⟨Z,h7,λi u z=>?_⟩;rw[J,BQ,List.getElem?_append_right (by omega),<- h8 i u z];congr 1;omega
theorem qU {w:World}{G:Nat->Prop}{E:TypeId}{e:Ty}{xs:List e.den}{v:Value}{bs:List Nat}(h:OwB w G none E e xs v bs):∃ r B,Row w E e.cells v xs.length r/\bs=v.ownBlock.toList++B/\Els w G e xs r B:=by
 obtain⟨r,u,y,J,H⟩:=h;exact⟨r,_,y,J,yp xs r u y.1 (λj x z=>by obtain⟨c,M,I⟩:=H j x z;exact⟨c,M,I⟩)⟩
theorem vB {w:World}{G:Nat->Prop}{E:TypeId}{e:Ty}{xs:List e.den}{v:Value}{flat:List Value}{B:List Nat}(u:Row w E e.cells v xs.length flat)(I:Els w G e xs flat B):OwB w G none E e xs v (v.ownBlock.toList++B):=by
 obtain⟨r,z,M⟩:=I.to;exact⟨flat,r,u,by rw[z],λj x y=>by obtain⟨c,H,J⟩:=M j x y;exact⟨c,H,J⟩⟩
theorem Els.deep {w:World}{G G':Nat->Prop}{e:Ty}(r:e.shy=false):∀ {xs:List e.den} {f:List Value} {B:List Nat},Els w G e xs f B->Els w G' e xs f B
 |[],_,_,h=>h
 |x::xs,_,_,⟨c,b,y,B0,u,H,z,I⟩=>⟨c,b,y,B0,u,H,z.deep r,Els.deep r I⟩
def lP (P:Program)(f:FuncId)(E:TypeId)(s z:Nat):Prop :=
 ∀ (w:World) (H J:Value) (n m i:Nat) (r y:List Value),Row w E s H n r->Row w E s J m y->(∀ u∈r,u.oneCell'=true)->(∀ u∈y,u.oneCell'=true)->0<m->i<=n ->
  (∀ k∈H.ownBlock.toList,k∉J.ownBlock.toList)->(n+m)*z<=140737488355328 ->
  Calls P f #[H,.int .i64 i,J] w λe M=>∃ I,e=.returned I/\Row M E s I (n+m) (r.take (i*s)++y++r.drop (i*s))/\w.grownBy M H.ownBlock/\(I.ownBlock=H.ownBlock\/I.ownBlock=some w.heap.size)
theorem kI {P:Program}{f:FuncId}{E:TypeId}{e:Ty}{J:Nat}{M:Bool}(hE:fR P f)(hd:e.shy=false\/M=false)(b9:lP P f E e.cells J) :
  bN P ⟨f,[.own (.list true E e),.rd (.int .i64),.own (.list true E e)],[.v (.list true E e)],M,λx=>iz e J x.1 x.2.1 x.2.2.1⟩:=by
 refine⟨hE,?_⟩;intro w ro x vs e3 y b4 bb X u;obtain⟨xs,i,zs,_⟩:=x;obtain⟨v0,dc,b0,d3,rfl,rfl,⟨cb,ba,c1⟩,v1,e4,b1,e5,rfl,rfl,⟨cy,cw,b5,a6⟩,v2,e1,b2,e6,rfl,rfl,⟨cx,ad,bl⟩,rfl,rfl⟩:=b4;have ba:cb=[v0]:=ba;have b5:cw=[v1]:=b5;have ad:cx=[v2]:=ad;subst ba b5 ad cy;have a6:[v1]=[Value.int .i64 i]:=a6;simp only[BY,and_true]at a6;subst a6;rw[bH (by simp)]at c1 bl;obtain⟨u0,e0,H0⟩:=c1;obtain⟨u2,e2,H2⟩:=bl;simp only[BY,and_true]at e0 e2;subst e0 e2;obtain⟨Z,B0,r0,z,l0⟩:=qU H0;obtain⟨c4,B2,r2,a3,l2⟩:=qU H2;have u:iz e J xs i zs=some y:=u;unfold iz at u;split at u
 ·rename_i hc;obtain⟨cp,dd,hm,d1⟩:=hc;simp only[BW]at u;subst u;obtain⟨j,rfl⟩:∃ j:Nat,i=(j:Int):=Int.eq_ofNat_of_zero_le cp;have hj:j<=xs.length:=by omega
  simp only[BK,BL,BM,BN]at X bb ⊢;have a4:∀ k∈b0,k∉b2:=λk I Y=>(BI.1 X).2.2 k I k Y rfl
  refine (b9 w v0 v2 xs.length zs.length j Z c4 r0 r2 l0.one l2.one hm hj (λk I Y=>a4 k (by rw[z];exact BG _ I) (by rw[a3];exact BG _ Y)) (by simpa only[ak]using d1)).mono λen w'=>?_
  rintro⟨v',rfl,r',hgr,hown⟩;have hx:xs=xs.take j++xs.drop j:=(BT j xs).symm;have c3:=l0;rw[hx]at c3;obtain⟨f1,f2,C1,C2,ef,ec,l1,l3⟩:=Els.split c3;have c0:f1.length=j*e.cells:=by rw[l1.len,List.length_take,Nat.min_eq_left hj]
  have et:Z.take (j*e.cells)=f1:=by rw[ef];exact List.take_left' c0
  have ed:Z.drop (j*e.cells)=f2:=by rw[ef];exact List.drop_left' c0
  rw[et,ed]at r';have O:b0.Nodup:=(BI.1 X).1;have d2:b2.Nodup:=(BI.1 X).2.1;have a1:∀ k∈b0,k<w.heap.size:=H0.lt;have a9:∀ k∈b2,k<w.heap.size:=H2.lt;have H:∀ k,k<w.heap.size->k∉v0.ownBlock.toList->w'.heap[k]?=w.heap[k]?:=λk r hn=>hgr.block k r (λh=>hn (by rw[<- h];simp))
  have bn:∀ k∈B0,w'.heap[k]?=w.heap[k]?:=λk r=>H k (a1 k (by rw[z];exact BH _ r)) (λh=>by
   rw[z]at O;exact (BI.1 O).2.2 k h k r rfl)
  have cc:∀ k∈B2,w'.heap[k]?=w.heap[k]?:=λk r=>H k (a9 k (by rw[a3];exact BH _ r)) (λh=>a4 k (by rw[z];exact BG _ h) (by rw[a3];exact BH _ r))
  have b3:∀ k,(λ_:Nat=>False) k->w'.heap[k]?=w.heap[k]?:=λ_ h=>h.elim
  have c2:∀ k,ro k->w'.heap[k]?=w.heap[k]?:=λk r=>H k (bb k r).1 (λh=>(bb k r).2 (BG _ (by rw[z];exact BG _ h)))
  have hL:∀ {ys:List e.den} {f:List Value} {B:List Nat},Els w ro e ys f B->(∀ k∈B,w'.heap[k]?=w.heap[k]?)->Els w' (λk=>False\/(M=false/\ro k)) e ys f B:=λh hB=>by
   rcases hd with hd|hf
   ·exact (h.deep (G':=λ_=>False) hd).carry (λ_ h=>h.elim) b3 hB
   ·exact h.carry (λk r=>.inr ⟨hf,r⟩) c2 hB
  have L1:=hL l1 λk r=>bn k (by rw[ec];exact BG _ r)
  have L3:=hL l3 λk r=>bn k (by rw[ec];exact BH _ r)
  have L2:=hL l2 cc;have L:=(L1.append L2).append L3;have bx:(xs.take j++zs++xs.drop j).length=xs.length+zs.length:=by simp;omega
  rw[<- bx]at r';have R:=vB r' L;have a2:(C1++B2++C2).Perm (B0++B2):=by
   rw[ec,BJ,BJ];exact List.Perm.append_left C1 List.perm_append_comm
  have cu:(B0++B2).Nodup:=by
   rw[z,a3]at X;have I:=BI.1 X;refine BI.2 ⟨(BI.1 I.1).2.1,(BI.1 I.2.1).2.1,λa ha b hb=>I.2.2 a (BH _ ha) b (BH _ hb)⟩
  have a5:∀ k,k∈C1++B2++C2->k∈b0++b2/\k<w.heap.size/\k∉v0.ownBlock.toList:=by
   intro k r;rcases BS.1 (a2.mem_iff.1 r) with h|h
   ·have I:k∈b0:=by rw[z];exact BH _ h
    refine⟨BG _ I,a1 k I,λY=>?_⟩;rw[z]at O;exact (BI.1 O).2.2 k Y k h rfl
   ·have I:k∈b2:=by rw[a3];exact BH _ h
    exact⟨BH _ I,a9 k I,λY=>a4 k (by rw[z];exact BG _ Y) I⟩
  have a0:∀ k∈v'.ownBlock.toList,(k∈v0.ownBlock.toList\/k=w.heap.size):=by
   intro k r;rcases hown with h|h
   ·rw[h]at r;exact .inl r
   ·rw[h]at r;simp at r;exact .inr r
  refine⟨v',[v'],λ_=>False,[[],[],[]],[v'.ownBlock.toList++(C1++B2++C2)],rfl,rfl,hgr.size,hgr.os,hgr.tape,hgr.output,?_,?_,?_,?_,?_,?_⟩
  ·intro k r hn;refine H k r (λh=>hn ?_);simp only[BK,BL,BM,BN];exact BG _ (by rw[z];exact BG _ h)
  ·intro k h;exact h.elim
  ·exact⟨rfl,rfl,rfl,trivial⟩
  ·refine⟨v',[],_,[],rfl,rfl,⟨[v'],rfl,?_⟩,rfl,rfl⟩;rw[bH (by simp)];exact⟨v',rfl,R⟩
  ·simp only[BK,BL,BM,BN];refine BI.2 ⟨?_,a2.nodup_iff.2 cu,λa ha b hb=>?_⟩
   ·cases v'.ownBlock <;> simp
   ·rintro rfl;obtain⟨_,Y,h3⟩:=a5 a hb;rcases a0 a ha with h|h
    ·exact h3 h
    ·omega
  ·intro k r;simp only[BK,BL,BM,BN]at r;refine⟨?_,λh=>h⟩;rcases BS.1 r with h|h
   ·rcases a0 k h with Y|Y
    ·have h3:k∈b0:=by rw[z];exact BG _ Y
     refine⟨BU (a1 k h3) hgr.size,.inr ?_⟩;simp only[BK,BL,BM,BN];exact BG _ h3
    ·exact⟨r'.lt k h,.inl (by omega)⟩
   ·obtain⟨I,Y,_⟩:=a5 k h;refine⟨BU Y hgr.size,.inr ?_⟩;simp only[BK,BL,BM,BN];exact I
 ·cases u
end Go.Proofs.YtaegajachoklkabGreatEv
