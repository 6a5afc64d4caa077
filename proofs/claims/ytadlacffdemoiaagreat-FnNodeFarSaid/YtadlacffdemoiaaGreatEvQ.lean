/- Elements side by side; slices.Insert: from what its walk says to its contract. -/
import Derived.Test.YtadlacffdemoiaaGreatE3
import Derived.Test.YtadlacffdemoiaaGreatE0
set_option linter.unusedVariables false
set_option linter.unusedSimpArgs false
open List renaming mem_append_left->BV,mem_append_right->BW,nodup_append->BX,append_assoc->BY,flatten_cons->BZ,flatten_nil->B3,append_nil->B4,nil_append->B5,length_cons->B6,getElem?_eq_getElem->B7,range_succ_eq_map->B9,mem_append->CA,take_append_drop->CB,flatMap_cons->CD,flatMap_map->CF,range->CH
open List.cons renaming injEq->CG
open Nat renaming succ_mul->B8,lt_of_lt_of_le->CC
open Option.some renaming injEq->CE
namespace Go.Proofs.YtadlacffdemoiaaGreatEv
open Go Go.RowKit
def Els (w:World)(G:Nat->Prop)(e:Ty):List e.den->List Value->List Nat->Prop
 |[],r,B=>r=[]/\B=[]
 |x::z,r,B=>∃ c b u y,r=c++u/\B=b++y/\Mx w G e none 0 x c b/\Els w G e z u y
theorem Els.len {w:World}{G:Nat->Prop}{e:Ty}:∀ {xs:List e.den} {flat:List Value} {B:List Nat},Els w G e xs flat B->flat.length=xs.length*e.cells
 |[],_,_,⟨h,_⟩=>by rw[h];simp
 |x::xs,_,_,⟨c,b,f,z,y,_,r,u⟩=>by
  rw[y,List.length_append,r.len,Els.len u,B6,B8];omega
theorem Els.one {w:World}{G:Nat->Prop}{e:Ty}:∀ {xs:List e.den} {flat:List Value} {B:List Nat},Els w G e xs flat B->∀ u∈flat,u.oneCell'=true
 |[],_,_,⟨h,_⟩=>by rw[h];simp
 |x::xs,_,_,⟨c,b,f,I,H,_,y,z⟩=>by
  rw[H];intro u r;rcases CA.1 r with r|r
  ·exact y.one u r
  ·exact Els.one z u r
theorem Els.append {w:World}{G:Nat->Prop}{e:Ty}:∀ {xs H:List e.den} {f u:List Value} {B r:List Nat},Els w G e xs f B->Els w G e H u r->Els w G e (xs++H) (f++u) (B++r)
 |[],_,_,_,_,_,⟨z,y⟩,h=>by rw[z,y];exact h
 |x::xs,H,_,u,_,r,⟨c,b,J,B0,z,y,I,M⟩,h=>⟨c,b,J++u,B0++r,by rw[z,BY],by rw[y,BY],I,Els.append M h⟩
theorem Els.split {w:World}{G:Nat->Prop}{e:Ty}:∀ {xs H:List e.den} {f:List Value} {B:List Nat},Els w G e (xs++H) f B->∃ u z r y,f=u++z/\B=r++y/\Els w G e xs u r/\Els w G e H z y
 |[],_,f,B,h=>⟨[],f,[],B,rfl,rfl,⟨rfl,rfl⟩,h⟩
 |x::xs,H,_,_,⟨c,b,f0,B0,X,M,O,Y⟩=>by
  obtain⟨u,z,r,y,J,I,Z,R⟩:=Els.split Y;exact⟨c++u,z,b++r,y,by rw[X,J,BY],by rw[M,I,BY],⟨c,b,u,r,rfl,rfl,O,Z⟩,R⟩
theorem Els.carry {w w':World}{G G':Nat->Prop}(H:∀ k,G k->G' k)(z:∀ k,G k->w'.heap[k]?=w.heap[k]?){e:Ty}:∀ {xs:List e.den} {f:List Value} {B:List Nat},(∀ k∈B,w'.heap[k]?=w.heap[k]?)->Els w G e xs f B->Els w' G' e xs f B
 |[],_,_,_,h=>h
 |x::xs,_,_,y,⟨c,b,J,B0,M,r,I,O⟩=>⟨c,b,J,B0,M,r,I.carry H z (λk u=>y k (by rw[r];exact BV _ u)),Els.carry H z (λk u=>y k (by rw[r];exact BW _ u)) O⟩
theorem yy {w:World}{G:Nat->Prop}{e:Ty}:∀ (xs:List e.den) (flat:List Value) (r:Nat->List Nat),flat.length=xs.length*e.cells ->
  (∀ j (x:e.den),xs[j]?=some x->∃ c,Mx w G e none 0 x c (r j)/\∀ i u,c[i]?=some u->flat[j*e.cells+i]?=some u)->Els w G e xs flat ((CH xs.length).flatMap r)
 |[],flat,r,I,_=>⟨List.eq_nil_of_length_eq_zero (by simpa using I),by simp⟩
 |x::xs,flat,r,I,h=>by
  obtain⟨c,M,O⟩:=h 0 x rfl;have hc:=M.len;rw[B6,B8]at I;have J:flat.take e.cells=c:=by
   refine List.ext_getElem? λj=>?_
   rw[List.getElem?_take];split
   ·rename_i H;have z:j<c.length:=by omega
    have:=O j c[j] (B7 z);rw[Nat.zero_mul,Nat.zero_add]at this;rw[this,B7 z]
   ·rename_i H;exact (List.getElem?_eq_none (by omega)).symm
  refine⟨c,r 0,flat.drop e.cells,(CH xs.length).flatMap λj=>r (j+1),by rw[<- J,CB],?_,M,?_⟩
  ·rw[B6,B9,CD,CF]
  ·refine yy xs (flat.drop e.cells) (λj=>r (j+1)) (by rw[List.length_drop];omega) λj y H=>?_
   obtain⟨Y,R,Z⟩:=h (j+1) y (by simpa using H);refine⟨Y,R,λi u X=>?_⟩;rw[List.getElem?_drop,<- Z i u X,B8];congr 1;omega
theorem Els.to {w:World}{G:Nat->Prop}{e:Ty}:∀ {xs:List e.den} {flat:List Value} {B:List Nat},Els w G e xs flat B ->
  ∃ r:Nat->List Nat,B=(CH xs.length).flatMap r/\∀ j (x:e.den),xs[j]?=some x->∃ c,Mx w G e none 0 x c (r j)/\∀ i u,c[i]?=some u->flat[j*e.cells+i]?=some u
 |[],_,_,⟨_,h⟩=>⟨λ_=>[],by rw[h];simp,by simp⟩
 |x::xs,_,_,⟨c,b,f,B',M,O,J,Z⟩=>by
  obtain⟨r,h5,X⟩:=Els.to Z;refine⟨λj=>match j with|0=>b|j+1=>r j,?_,λj y H=>?_⟩
  ·rw[O,h5,B6,B9,CD,CF]
  ·have hc:=J.len;cases j with
   |zero =>
    simp only[List.getElem?_cons_zero,CE]at H;subst H;refine⟨c,J,λi u z=>?_⟩;have I:=(List.getElem?_eq_some_iff.1 z).1;rw[M,Nat.zero_mul,Nat.zero_add,List.getElem?_append_left I];exact z
   |succ j =>
    obtain⟨R,h7,Y⟩:=X j y (by simpa using H);refine⟨R,h7,λi u z=>?_⟩;rw[M,B8,List.getElem?_append_right (by omega),<- Y i u z];congr 1;omega
theorem ra {w:World}{G:Nat->Prop}{E:TypeId}{e:Ty}{xs:List e.den}{v:Value}{bs:List Nat}(h:OwB w G none E e xs v bs):∃ r B,Row w E e.cells v xs.length r/\bs=v.ownBlock.toList++B/\Els w G e xs r B:=by
 obtain⟨r,u,y,z,I⟩:=h;exact⟨r,_,y,z,yy xs r u y.1 (λj x H=>by obtain⟨c,J,M⟩:=I j x H;exact⟨c,J,M⟩)⟩
theorem vH {w:World}{G:Nat->Prop}{E:TypeId}{e:Ty}{xs:List e.den}{v:Value}{flat:List Value}{B:List Nat}(I:Row w E e.cells v xs.length flat)(u:Els w G e xs flat B):OwB w G none E e xs v (v.ownBlock.toList++B):=by
 obtain⟨r,z,J⟩:=u.to;exact⟨flat,r,I,by rw[z],λj x y=>by obtain⟨c,M,H⟩:=J j x y;exact⟨c,M,H⟩⟩
theorem Els.deep {w:World}{G G':Nat->Prop}{e:Ty}(r:e.shy=false):∀ {xs:List e.den} {f:List Value} {B:List Nat},Els w G e xs f B->Els w G' e xs f B
 |[],_,_,h=>h
 |x::xs,_,_,⟨c,b,z,B0,H,u,y,I⟩=>⟨c,b,z,B0,H,u,y.deep r,Els.deep r I⟩
def jq (P:Program)(f:FuncId)(E:TypeId)(s z:Nat):Prop :=
 ∀ (w:World) (H J:Value) (n m i:Nat) (r y:List Value),Row w E s H n r->Row w E s J m y->(∀ u∈r,u.oneCell'=true)->(∀ u∈y,u.oneCell'=true)->0<m->i<=n ->
  (∀ k∈H.ownBlock.toList,k∉J.ownBlock.toList)->(n+m)*z<=140737488355328 ->
  Calls P f #[H,.int .i64 i,J] w λe M=>∃ I,e=.returned I/\Row M E s I (n+m) (r.take (i*s)++y++r.drop (i*s))/\w.grownBy M H.ownBlock/\(I.ownBlock=H.ownBlock\/I.ownBlock=some w.heap.size)
theorem gJ {P:Program}{f:FuncId}{E:TypeId}{e:Ty}{M:Nat}{J:Bool}(hE:fV P f)(hd:e.shy=false\/J=false)(b3:jq P f E e.cells M) :
  bR P ⟨f,[.own (.list true E e),.rd (.int .i64),.own (.list true E e)],[.v (.list true E e)],J,λx=>fU e M x.1 x.2.1 x.2.2.1⟩:=by
 refine⟨hE,?_⟩;intro w ro x vs d3 y ad b4 X u;obtain⟨xs,i,zs,_⟩:=x;obtain⟨v0,dd,b0,e3,rfl,rfl,⟨cc,ba,bx⟩,v1,d1,b1,e1,rfl,rfl,⟨c6,cw,b5,a6⟩,v2,dc,b2,d2,rfl,rfl,⟨cb,b9,c3⟩,rfl,rfl⟩:=ad;have ba:cc=[v0]:=ba;have b5:cw=[v1]:=b5;have b9:cb=[v2]:=b9;subst ba b5 b9 c6;have a6:[v1]=[Value.int .i64 i]:=a6;simp only[CG,and_true]at a6;subst a6;rw[bJ (by simp)]at bx c3;obtain⟨u0,e0,H0⟩:=bx;obtain⟨u2,e2,H2⟩:=c3;simp only[CG,and_true]at e0 e2;subst e0 e2;obtain⟨a1,B0,r0,z,l0⟩:=ra H0;obtain⟨c0,B2,r2,a3,l2⟩:=ra H2;have u:fU e M xs i zs=some y:=u;unfold fU at u;split at u
 ·rename_i hc;obtain⟨cu,e4,hm,cx⟩:=hc;simp only[CE]at u;subst u;obtain⟨j,rfl⟩:∃ j:Nat,i=(j:Int):=Int.eq_ofNat_of_zero_le cu;have hj:j<=xs.length:=by omega
  simp only[BZ,B3,B4,B5]at X b4 ⊢;have a4:∀ k∈b0,k∉b2:=λk I Y=>(BX.1 X).2.2 k I k Y rfl
  refine (b3 w v0 v2 xs.length zs.length j a1 c0 r0 r2 l0.one l2.one hm hj (λk I Y=>a4 k (by rw[z];exact BV _ I) (by rw[a3];exact BV _ Y)) (by simpa only[an]using cx)).mono λen w'=>?_
  rintro⟨v',rfl,r',hgr,hown⟩;have hx:xs=xs.take j++xs.drop j:=(CB j xs).symm;have bn:=l0;rw[hx]at bn;obtain⟨f1,f2,C1,C2,ef,ec,l1,l3⟩:=Els.split bn;have c1:f1.length=j*e.cells:=by rw[l1.len,List.length_take,Nat.min_eq_left hj]
  have et:a1.take (j*e.cells)=f1:=by rw[ef];exact List.take_left' c1
  have ed:a1.drop (j*e.cells)=f2:=by rw[ef];exact List.drop_left' c1
  rw[et,ed]at r';have O:b0.Nodup:=(BX.1 X).1;have cy:b2.Nodup:=(BX.1 X).2.1;have a2:∀ k∈b0,k<w.heap.size:=H0.lt;have a9:∀ k∈b2,k<w.heap.size:=H2.lt;have H:∀ k,k<w.heap.size->k∉v0.ownBlock.toList->w'.heap[k]?=w.heap[k]?:=λk r hn=>hgr.block k r (λh=>hn (by rw[<- h];simp))
  have c2:∀ k∈B0,w'.heap[k]?=w.heap[k]?:=λk r=>H k (a2 k (by rw[z];exact BW _ r)) (λh=>by
   rw[z]at O;exact (BX.1 O).2.2 k h k r rfl)
  have c5:∀ k∈B2,w'.heap[k]?=w.heap[k]?:=λk r=>H k (a9 k (by rw[a3];exact BW _ r)) (λh=>a4 k (by rw[z];exact BV _ h) (by rw[a3];exact BW _ r))
  have bb:∀ k,(λ_:Nat=>False) k->w'.heap[k]?=w.heap[k]?:=λ_ h=>h.elim
  have bl:∀ k,ro k->w'.heap[k]?=w.heap[k]?:=λk r=>H k (b4 k r).1 (λh=>(b4 k r).2 (BV _ (by rw[z];exact BV _ h)))
  have hL:∀ {ys:List e.den} {f:List Value} {B:List Nat},Els w ro e ys f B->(∀ k∈B,w'.heap[k]?=w.heap[k]?)->Els w' (λk=>False\/(J=false/\ro k)) e ys f B:=λh hB=>by
   rcases hd with hd|hf
   ·exact (h.deep (G':=λ_=>False) hd).carry (λ_ h=>h.elim) bb hB
   ·exact h.carry (λk r=>.inr ⟨hf,r⟩) bl hB
  have L1:=hL l1 λk r=>c2 k (by rw[ec];exact BV _ r)
  have L3:=hL l3 λk r=>c2 k (by rw[ec];exact BW _ r)
  have L2:=hL l2 c5;have L:=(L1.append L2).append L3;have c4:(xs.take j++zs++xs.drop j).length=xs.length+zs.length:=by simp;omega
  rw[<- c4]at r';have R:=vH r' L;have a0:(C1++B2++C2).Perm (B0++B2):=by
   rw[ec,BY,BY];exact List.Perm.append_left C1 List.perm_append_comm
  have cp:(B0++B2).Nodup:=by
   rw[z,a3]at X;have I:=BX.1 X;refine BX.2 ⟨(BX.1 I.1).2.1,(BX.1 I.2.1).2.1,λa ha b hb=>I.2.2 a (BW _ ha) b (BW _ hb)⟩
  have a5:∀ k,k∈C1++B2++C2->k∈b0++b2/\k<w.heap.size/\k∉v0.ownBlock.toList:=by
   intro k r;rcases CA.1 (a0.mem_iff.1 r) with h|h
   ·have I:k∈b0:=by rw[z];exact BW _ h
    refine⟨BV _ I,a2 k I,λY=>?_⟩;rw[z]at O;exact (BX.1 O).2.2 k Y k h rfl
   ·have I:k∈b2:=by rw[a3];exact BW _ h
    exact⟨BW _ I,a9 k I,λY=>a4 k (by rw[z];exact BV _ Y) I⟩
  have Z:∀ k∈v'.ownBlock.toList,(k∈v0.ownBlock.toList\/k=w.heap.size):=by
   intro k r;rcases hown with h|h
   ·rw[h]at r;exact .inl r
   ·rw[h]at r;simp at r;exact .inr r
  refine⟨v',[v'],λ_=>False,[[],[],[]],[v'.ownBlock.toList++(C1++B2++C2)],rfl,rfl,hgr.size,hgr.os,hgr.tape,hgr.output,?_,?_,?_,?_,?_,?_⟩
  ·intro k r hn;refine H k r (λh=>hn ?_);simp only[BZ,B3,B4,B5];exact BV _ (by rw[z];exact BV _ h)
  ·intro k h;exact h.elim
  ·exact⟨rfl,rfl,rfl,trivial⟩
  ·refine⟨v',[],_,[],rfl,rfl,⟨[v'],rfl,?_⟩,rfl,rfl⟩;rw[bJ (by simp)];exact⟨v',rfl,R⟩
  ·simp only[BZ,B3,B4,B5];refine BX.2 ⟨?_,a0.nodup_iff.2 cp,λa ha b hb=>?_⟩
   ·cases v'.ownBlock <;> simp
   ·rintro rfl;obtain⟨_,Y,h3⟩:=a5 a hb;rcases Z a ha with h|h
    ·exact h3 h
    ·omega
  ·intro k r;simp only[BZ,B3,B4,B5]at r;refine⟨?_,λh=>h⟩;rcases CA.1 r with h|h
   ·rcases Z k h with Y|Y
    ·have h3:k∈b0:=by rw[z];exact BV _ Y
     refine⟨CC (a2 k h3) hgr.size,.inr ?_⟩;simp only[BZ,B3,B4,B5];exact BV _ h3
    ·exact⟨r'.lt k h,.inl (by omega)⟩
   ·obtain⟨I,Y,_⟩:=a5 k h;refine⟨CC Y hgr.size,.inr ?_⟩;simp only[BZ,B3,B4,B5];exact I
 ·cases u
end Go.Proofs.YtadlacffdemoiaaGreatEv
