/- Elements side by side; slices.Insert: from what its walk says to its contract. -/
import Derived.Test.YtadlacffdemoiaaGreatE3
import Derived.Test.YtadlacffdemoiaaGreatE0
set_option linter.unusedVariables false
set_option linter.unusedSimpArgs false
open List renaming mem_append_left->BQ,mem_append_right->BR,nodup_append->BS,append_assoc->BT,flatten_cons->BU,flatten_nil->BV,append_nil->BW,nil_append->BX,length_cons->BY,getElem?_eq_getElem->BZ,range_succ_eq_map->B4,mem_append->B5,take_append_drop->B6,flatMap_cons->B8,flatMap_map->CA,range->CC
open List.cons renaming injEq->CB
open Nat renaming succ_mul->B3,lt_of_lt_of_le->B7
open Option.some renaming injEq->B9
namespace Go.Proofs.YtadlacffdemoiaaGreatEv
open Go Go.RowKit
def Els (w:World)(G:Nat->Prop)(e:Ty):List e.den->List Value->List Nat->Prop
 |[],u,B=>u=[]/\B=[]
 |x::z,u,B=>∃ c b r y,u=c++r/\B=b++y/\Mx w G e none 0 x c b/\Els w G e z r y
theorem Els.len {w:World}{G:Nat->Prop}{e:Ty}:∀ {xs:List e.den} {flat:List Value} {B:List Nat},Els w G e xs flat B->flat.length=xs.length*e.cells
 |[],_,_,⟨h,_⟩=>by rw[h];simp
 |x::xs,_,_,⟨c,b,f,z,r,_,u,y⟩=>by
  rw[r,List.length_append,u.len,Els.len y,BY,B3];omega
theorem Els.one {w:World}{G:Nat->Prop}{e:Ty}:∀ {xs:List e.den} {flat:List Value} {B:List Nat},Els w G e xs flat B->∀ u∈flat,u.oneCell'=true
 |[],_,_,⟨h,_⟩=>by rw[h];simp
 |x::xs,_,_,⟨c,b,f,I,y,_,z,H⟩=>by
  rw[y];intro u r;rcases B5.1 r with r|r
  ·exact z.one u r
  ·exact Els.one H u r
theorem Els.append {w:World}{G:Nat->Prop}{e:Ty}:∀ {xs z:List e.den} {f r:List Value} {B u:List Nat},Els w G e xs f B->Els w G e z r u->Els w G e (xs++z) (f++r) (B++u)
 |[],_,_,_,_,_,⟨y,H⟩,h=>by rw[y,H];exact h
 |x::xs,z,_,r,_,u,⟨c,b,I,B0,y,H,M,J⟩,h=>⟨c,b,I++r,B0++u,by rw[y,BT],by rw[H,BT],M,Els.append J h⟩
theorem Els.split {w:World}{G:Nat->Prop}{e:Ty}:∀ {xs H:List e.den} {f:List Value} {B:List Nat},Els w G e (xs++H) f B->∃ u y r z,f=u++y/\B=r++z/\Els w G e xs u r/\Els w G e H y z
 |[],_,f,B,h=>⟨[],f,[],B,rfl,rfl,⟨rfl,rfl⟩,h⟩
 |x::xs,H,_,_,⟨c,b,f0,B0,I,R,Y,J⟩=>by
  obtain⟨u,y,r,z,O,M,X,Z⟩:=Els.split J;exact⟨c++u,y,b++r,z,by rw[I,O,BT],by rw[R,M,BT],⟨c,b,u,r,rfl,rfl,Y,X⟩,Z⟩
theorem Els.carry {w w':World}{G G':Nat->Prop}(z:∀ k,G k->G' k)(H:∀ k,G k->w'.heap[k]?=w.heap[k]?){e:Ty}:∀ {xs:List e.den} {f:List Value} {B:List Nat},(∀ k∈B,w'.heap[k]?=w.heap[k]?)->Els w G e xs f B->Els w' G' e xs f B
 |[],_,_,_,h=>h
 |x::xs,_,_,y,⟨c,b,I,B0,J,u,O,M⟩=>⟨c,b,I,B0,J,u,O.carry z H (λk r=>y k (by rw[u];exact BQ _ r)),Els.carry z H (λk r=>y k (by rw[u];exact BR _ r)) M⟩
theorem yp {w:World}{G:Nat->Prop}{e:Ty}:∀ (xs:List e.den) (flat:List Value) (r:Nat->List Nat),flat.length=xs.length*e.cells ->
  (∀ j (x:e.den),xs[j]?=some x->∃ c,Mx w G e none 0 x c (r j)/\∀ i u,c[i]?=some u->flat[j*e.cells+i]?=some u)->Els w G e xs flat ((CC xs.length).flatMap r)
 |[],flat,r,H,_=>⟨List.eq_nil_of_length_eq_zero (by simpa using H),by simp⟩
 |x::xs,flat,r,H,h=>by
  obtain⟨c,M,X⟩:=h 0 x rfl;have hc:=M.len;rw[BY,B3]at H;have J:flat.take e.cells=c:=by
   refine List.ext_getElem? λj=>?_
   rw[List.getElem?_take];split
   ·rename_i I;have z:j<c.length:=by omega
    have:=X j c[j] (BZ z);rw[Nat.zero_mul,Nat.zero_add]at this;rw[this,BZ z]
   ·rename_i I;exact (List.getElem?_eq_none (by omega)).symm
  refine⟨c,r 0,flat.drop e.cells,(CC xs.length).flatMap λj=>r (j+1),by rw[<- J,B6],?_,M,?_⟩
  ·rw[BY,B4,B8,CA]
  ·refine yp xs (flat.drop e.cells) (λj=>r (j+1)) (by rw[List.length_drop];omega) λj y I=>?_
   obtain⟨R,Y,O⟩:=h (j+1) y (by simpa using I);refine⟨R,Y,λi u Z=>?_⟩;rw[List.getElem?_drop,<- O i u Z,B3];congr 1;omega
theorem Els.to {w:World}{G:Nat->Prop}{e:Ty}:∀ {xs:List e.den} {flat:List Value} {B:List Nat},Els w G e xs flat B ->
  ∃ r:Nat->List Nat,B=(CC xs.length).flatMap r/\∀ j (x:e.den),xs[j]?=some x->∃ c,Mx w G e none 0 x c (r j)/\∀ i u,c[i]?=some u->flat[j*e.cells+i]?=some u
 |[],_,_,⟨_,h⟩=>⟨λ_=>[],by rw[h];simp,by simp⟩
 |x::xs,_,_,⟨c,b,f,B',J,Z,M,O⟩=>by
  obtain⟨r,h5,R⟩:=Els.to O;refine⟨λj=>match j with|0=>b|j+1=>r j,?_,λj y I=>?_⟩
  ·rw[Z,h5,BY,B4,B8,CA]
  ·have hc:=M.len;cases j with
   |zero =>
    simp only[List.getElem?_cons_zero,B9]at I;subst I;refine⟨c,M,λi u z=>?_⟩;have H:=(List.getElem?_eq_some_iff.1 z).1;rw[J,Nat.zero_mul,Nat.zero_add,List.getElem?_append_left H];exact z
   |succ j =>
    obtain⟨X,Y,h8⟩:=R j y (by simpa using I);refine⟨X,Y,λi u z=>?_⟩;rw[J,B3,List.getElem?_append_right (by omega),<- h8 i u z];congr 1;omega
theorem rh {w:World}{G:Nat->Prop}{E:TypeId}{e:Ty}{xs:List e.den}{v:Value}{bs:List Nat}(h:OwB w G none E e xs v bs):∃ r B,Row w E e.cells v xs.length r/\bs=v.ownBlock.toList++B/\Els w G e xs r B:=by
 obtain⟨r,u,y,I,M⟩:=h;exact⟨r,_,y,I,yp xs r u y.1 (λj x H=>by obtain⟨c,z,J⟩:=M j x H;exact⟨c,z,J⟩)⟩
theorem vJ {w:World}{G:Nat->Prop}{E:TypeId}{e:Ty}{xs:List e.den}{v:Value}{flat:List Value}{B:List Nat}(u:Row w E e.cells v xs.length flat)(H:Els w G e xs flat B):OwB w G none E e xs v (v.ownBlock.toList++B):=by
 obtain⟨r,J,y⟩:=H.to;exact⟨flat,r,u,by rw[J],λj x z=>by obtain⟨c,I,M⟩:=y j x z;exact⟨c,I,M⟩⟩
theorem Els.deep {w:World}{G G':Nat->Prop}{e:Ty}(r:e.shy=false):∀ {xs:List e.den} {f:List Value} {B:List Nat},Els w G e xs f B->Els w G' e xs f B
 |[],_,_,h=>h
 |x::xs,_,_,⟨c,b,u,B0,y,H,I,z⟩=>⟨c,b,u,B0,y,H,I.deep r,Els.deep r z⟩
def jo (P:Program)(f:FuncId)(E:TypeId)(s z:Nat):Prop :=
 ∀ (w:World) (H J:Value) (n m i:Nat) (r y:List Value),Row w E s H n r->Row w E s J m y->(∀ u∈r,u.oneCell'=true)->(∀ u∈y,u.oneCell'=true)->0<m->i<=n ->
  (∀ k∈H.ownBlock.toList,k∉J.ownBlock.toList)->(n+m)*z<=140737488355328 ->
  Calls P f #[H,.int .i64 i,J] w λe M=>∃ I,e=.returned I/\Row M E s I (n+m) (r.take (i*s)++y++r.drop (i*s))/\w.grownBy M H.ownBlock/\(I.ownBlock=H.ownBlock\/I.ownBlock=some w.heap.size)
theorem gJ {P:Program}{f:FuncId}{E:TypeId}{e:Ty}{J:Nat}{M:Bool}(hE:fW P f)(hd:e.shy=false\/M=false)(b5:jo P f E e.cells J) :
  bP P ⟨f,[.own (.list true E e),.rd (.int .i64),.own (.list true E e)],[.v (.list true E e)],M,λx=>fV e J x.1 x.2.1 x.2.2.1⟩:=by
 refine⟨hE,?_⟩;intro w ro x vs e1 y ba ad Y z;obtain⟨xs,i,zs,_⟩:=x;obtain⟨v0,dc,b0,e3,rfl,rfl,⟨cp,b3,c2⟩,v1,d1,b1,cy,rfl,rfl,⟨c5,cu,b4,a6⟩,v2,d3,b2,d2,rfl,rfl,⟨cw,b9,c0⟩,rfl,rfl⟩:=ba;have b3:cp=[v0]:=b3;have b4:cu=[v1]:=b4;have b9:cw=[v2]:=b9;subst b3 b4 b9 c5;have a6:[v1]=[Value.int .i64 i]:=a6;simp only[CB,and_true]at a6;subst a6;rw[bJ (by simp)]at c2 c0;obtain⟨u0,e0,H0⟩:=c2;obtain⟨u2,e2,H2⟩:=c0;simp only[CB,and_true]at e0 e2;subst e0 e2;obtain⟨Z,B0,r0,u,l0⟩:=rh H0;obtain⟨c3,B2,r2,a0,l2⟩:=rh H2;have z:fV e J xs i zs=some y:=z;unfold fV at z;split at z
 ·rename_i hc;obtain⟨cb,dd,hm,c6⟩:=hc;simp only[B9]at z;subst z;obtain⟨j,rfl⟩:∃ j:Nat,i=(j:Int):=Int.eq_ofNat_of_zero_le cb;have hj:j<=xs.length:=by omega
  simp only[BU,BV,BW,BX]at Y ad ⊢;have a4:∀ k∈b0,k∉b2:=λk I X=>(BS.1 Y).2.2 k I k X rfl
  refine (b5 w v0 v2 xs.length zs.length j Z c3 r0 r2 l0.one l2.one hm hj (λk I X=>a4 k (by rw[u];exact BQ _ I) (by rw[a0];exact BQ _ X)) (by simpa only[an]using c6)).mono λen w'=>?_
  rintro⟨v',rfl,r',hgr,hown⟩;have hx:xs=xs.take j++xs.drop j:=(B6 j xs).symm;have bb:=l0;rw[hx]at bb;obtain⟨f1,f2,C1,C2,ef,ec,l1,l3⟩:=Els.split bb;have bx:f1.length=j*e.cells:=by rw[l1.len,List.length_take,Nat.min_eq_left hj]
  have et:Z.take (j*e.cells)=f1:=by rw[ef];exact List.take_left' bx
  have ed:Z.drop (j*e.cells)=f2:=by rw[ef];exact List.drop_left' bx
  rw[et,ed]at r';have O:b0.Nodup:=(BS.1 Y).1;have cx:b2.Nodup:=(BS.1 Y).2.1;have a1:∀ k∈b0,k<w.heap.size:=H0.lt;have a9:∀ k∈b2,k<w.heap.size:=H2.lt;have H:∀ k,k<w.heap.size->k∉v0.ownBlock.toList->w'.heap[k]?=w.heap[k]?:=λk r hn=>hgr.block k r (λh=>hn (by rw[<- h];simp))
  have bl:∀ k∈B0,w'.heap[k]?=w.heap[k]?:=λk r=>H k (a1 k (by rw[u];exact BR _ r)) (λh=>by
   rw[u]at O;exact (BS.1 O).2.2 k h k r rfl)
  have c4:∀ k∈B2,w'.heap[k]?=w.heap[k]?:=λk r=>H k (a9 k (by rw[a0];exact BR _ r)) (λh=>a4 k (by rw[u];exact BQ _ h) (by rw[a0];exact BR _ r))
  have b6:∀ k,(λ_:Nat=>False) k->w'.heap[k]?=w.heap[k]?:=λ_ h=>h.elim
  have bn:∀ k,ro k->w'.heap[k]?=w.heap[k]?:=λk r=>H k (ad k r).1 (λh=>(ad k r).2 (BQ _ (by rw[u];exact BQ _ h)))
  have hL:∀ {ys:List e.den} {f:List Value} {B:List Nat},Els w ro e ys f B->(∀ k∈B,w'.heap[k]?=w.heap[k]?)->Els w' (λk=>False\/(M=false/\ro k)) e ys f B:=λh hB=>by
   rcases hd with hd|hf
   ·exact (h.deep (G':=λ_=>False) hd).carry (λ_ h=>h.elim) b6 hB
   ·exact h.carry (λk r=>.inr ⟨hf,r⟩) bn hB
  have L1:=hL l1 λk r=>bl k (by rw[ec];exact BQ _ r)
  have L3:=hL l3 λk r=>bl k (by rw[ec];exact BR _ r)
  have L2:=hL l2 c4;have L:=(L1.append L2).append L3;have c1:(xs.take j++zs++xs.drop j).length=xs.length+zs.length:=by simp;omega
  rw[<- c1]at r';have R:=vJ r' L;have a3:(C1++B2++C2).Perm (B0++B2):=by
   rw[ec,BT,BT];exact List.Perm.append_left C1 List.perm_append_comm
  have cc:(B0++B2).Nodup:=by
   rw[u,a0]at Y;have I:=BS.1 Y;refine BS.2 ⟨(BS.1 I.1).2.1,(BS.1 I.2.1).2.1,λa ha b hb=>I.2.2 a (BR _ ha) b (BR _ hb)⟩
  have a2:∀ k,k∈C1++B2++C2->k∈b0++b2/\k<w.heap.size/\k∉v0.ownBlock.toList:=by
   intro k r;rcases B5.1 (a3.mem_iff.1 r) with h|h
   ·have I:k∈b0:=by rw[u];exact BR _ h
    refine⟨BQ _ I,a1 k I,λX=>?_⟩;rw[u]at O;exact (BS.1 O).2.2 k X k h rfl
   ·have I:k∈b2:=by rw[a0];exact BR _ h
    exact⟨BR _ I,a9 k I,λX=>a4 k (by rw[u];exact BQ _ X) I⟩
  have a5:∀ k∈v'.ownBlock.toList,(k∈v0.ownBlock.toList\/k=w.heap.size):=by
   intro k r;rcases hown with h|h
   ·rw[h]at r;exact .inl r
   ·rw[h]at r;simp at r;exact .inr r
  refine⟨v',[v'],λ_=>False,[[],[],[]],[v'.ownBlock.toList++(C1++B2++C2)],rfl,rfl,hgr.size,hgr.os,hgr.tape,hgr.output,?_,?_,?_,?_,?_,?_⟩
  ·intro k r hn;refine H k r (λh=>hn ?_);simp only[BU,BV,BW,BX];exact BQ _ (by rw[u];exact BQ _ h)
  ·intro k h;exact h.elim
  ·exact⟨rfl,rfl,rfl,trivial⟩
  ·refine⟨v',[],_,[],rfl,rfl,⟨[v'],rfl,?_⟩,rfl,rfl⟩;rw[bJ (by simp)];exact⟨v',rfl,R⟩
  ·simp only[BU,BV,BW,BX];refine BS.2 ⟨?_,a3.nodup_iff.2 cc,λa ha b hb=>?_⟩
   ·cases v'.ownBlock <;> simp
   ·rintro rfl;obtain⟨_,X,h3⟩:=a2 a hb;rcases a5 a ha with h|h
    ·exact h3 h
    ·omega
  ·intro k r;simp only[BU,BV,BW,BX]at r;refine⟨?_,λh=>h⟩;rcases B5.1 r with h|h
   ·rcases a5 k h with X|X
    ·have h3:k∈b0:=by rw[u];exact BQ _ X
     refine⟨B7 (a1 k h3) hgr.size,.inr ?_⟩;simp only[BU,BV,BW,BX];exact BQ _ h3
    ·exact⟨r'.lt k h,.inl (by omega)⟩
   ·obtain⟨I,X,_⟩:=a2 k h;refine⟨B7 X hgr.size,.inr ?_⟩;simp only[BU,BV,BW,BX];exact I
 ·cases z
end Go.Proofs.YtadlacffdemoiaaGreatEv
