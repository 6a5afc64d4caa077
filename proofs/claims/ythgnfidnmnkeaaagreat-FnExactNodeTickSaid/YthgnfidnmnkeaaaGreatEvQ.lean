/- Elements side by side; slices.Insert: from what its walk says to its contract. -/
import Derived.Test.YthgnfidnmnkeaaaGreatE4
import Derived.Test.YthgnfidnmnkeaaaGreatE0
namespace Go.Proofs.YthgnfidnmnkeaaaGreatEv
open Go Go.RowKit
def Els (w:World)(G:Nat→Prop)(e:Ty):List e.den→List Value→List Nat→Prop
 |[],flat,B=>flat=[]∧B=[]
 |x::xs,flat,B=>∃ c b flat' B',flat=c++flat'∧B=b++B'∧Mx w G e none 0 x c b∧Els w G e xs flat' B'
theorem Els.len {w:World}{G:Nat→Prop}{e:Ty}:∀ {xs:List e.den} {flat:List Value} {B:List Nat},Els w G e xs flat B→flat.length=xs.length*e.cells
 |[],_,_,⟨h,_⟩=>by rw[h];simp
 |x::xs,_,_,⟨c,b,f,B',h1,_,h2,h3⟩=>by
  rw[h1,List.length_append,h2.len,Els.len h3,List.length_cons,Nat.succ_mul]
  omega
theorem Els.one {w:World}{G:Nat→Prop}{e:Ty}:∀ {xs:List e.den} {flat:List Value} {B:List Nat},Els w G e xs flat B→∀ u∈flat,u.oneCell'=true
 |[],_,_,⟨h,_⟩=>by rw[h];simp
 |x::xs,_,_,⟨c,b,f,B',h1,_,h2,h3⟩=>by
  rw[h1];intro u hu
  rcases List.mem_append.1 hu with hu|hu
  ·exact h2.one u hu
  ·exact Els.one h3 u hu
theorem Els.append {w:World}{G:Nat→Prop}{e:Ty}:∀ {xs ys:List e.den} {f f':List Value} {B B':List Nat},Els w G e xs f B→Els w G e ys f' B'→Els w G e (xs++ys) (f++f') (B++B')
 |[],_,_,_,_,_,⟨h1,h2⟩,h=>by rw[h1,h2];exact h
 |x::xs,ys,_,f',_,B',⟨c,b,f0,B0,h1,h2,h3,h4⟩,h=>⟨c,b,f0++f',B0++B',by rw[h1,List.append_assoc],by rw[h2,List.append_assoc],h3,Els.append h4 h⟩
theorem Els.split {w:World}{G:Nat→Prop}{e:Ty}:∀ {xs ys:List e.den} {f:List Value} {B:List Nat},Els w G e (xs++ys) f B→∃ f1 f2 B1 B2,f=f1++f2∧B=B1++B2∧Els w G e xs f1 B1∧Els w G e ys f2 B2
 |[],_,f,B,h=>⟨[],f,[],B,rfl,rfl,⟨rfl,rfl⟩,h⟩
 |x::xs,ys,_,_,⟨c,b,f0,B0,h1,h2,h3,h4⟩=>by
  obtain⟨f1,f2,B1,B2,e1,e2,h5,h6⟩:=Els.split h4
  exact⟨c++f1,f2,b++B1,B2,by rw[h1,e1,List.append_assoc],by rw[h2,e2,List.append_assoc],⟨c,b,f1,B1,rfl,rfl,h3,h5⟩,h6⟩
theorem Els.carry {w w':World}{G G':Nat→Prop}(hG:∀ k,G k→G' k)(hw:∀ k,G k→w'.heap[k]?=w.heap[k]?){e:Ty}:∀ {xs:List e.den} {f:List Value} {B:List Nat},(∀ k∈B,w'.heap[k]?=w.heap[k]?)→Els w G e xs f B→Els w' G' e xs f B
 |[],_,_,_,h=>h
 |x::xs,_,_,hb,⟨c,b,f0,B0,h1,h2,h3,h4⟩=>⟨c,b,f0,B0,h1,h2,h3.carry hG hw (fun k hk=>hb k (by rw[h2];exact List.mem_append_left _ hk)),Els.carry hG hw (fun k hk=>hb k (by rw[h2];exact List.mem_append_right _ hk)) h4⟩
theorem vp {w:World}{G:Nat→Prop}{e:Ty}:∀ (xs:List e.den) (flat:List Value) (bss:Nat→List Nat),flat.length=xs.length*e.cells →
  (∀ j (x:e.den),xs[j]?=some x→∃ c,Mx w G e none 0 x c (bss j)∧∀ i u,c[i]?=some u→flat[j*e.cells+i]?=some u)→Els w G e xs flat ((List.range xs.length).flatMap bss)
 |[],flat,bss,hl,_=>⟨List.eq_nil_of_length_eq_zero (by simpa using hl),by simp⟩
 |x::xs,flat,bss,hl,h=>by
  obtain⟨c,h1,h2⟩:=h 0 x rfl
  have hc:=h1.len
  rw[List.length_cons,Nat.succ_mul]at hl
  have hct:flat.take e.cells=c:=by
   refine List.ext_getElem? fun j=>?_
   rw[List.getElem?_take]
   split
   ·rename_i hj
    have hj':j<c.length:=by omega
    have:=h2 j c[j] (List.getElem?_eq_getElem hj')
    rw[Nat.zero_mul,Nat.zero_add]at this
    rw[this,List.getElem?_eq_getElem hj']
   ·rename_i hj
    exact (List.getElem?_eq_none (by omega)).symm
  refine⟨c,bss 0,flat.drop e.cells,(List.range xs.length).flatMap fun j=>bss (j+1),by rw[← hct,List.take_append_drop],?_,h1,?_⟩
  ·rw[List.length_cons,List.range_succ_eq_map,List.flatMap_cons,List.flatMap_map]
  ·refine vp xs (flat.drop e.cells) (fun j=>bss (j+1)) (by rw[List.length_drop];omega) fun j y hj=>?_
   obtain⟨c',h3,h4⟩:=h (j+1) y (by simpa using hj)
   refine⟨c',h3,fun i u hi=>?_⟩
   rw[List.getElem?_drop,← h4 i u hi,Nat.succ_mul]
   congr 1
   omega
theorem Els.to {w:World}{G:Nat→Prop}{e:Ty}:∀ {xs:List e.den} {flat:List Value} {B:List Nat},Els w G e xs flat B →
  ∃ bss:Nat→List Nat,B=(List.range xs.length).flatMap bss∧∀ j (x:e.den),xs[j]?=some x→∃ c,Mx w G e none 0 x c (bss j)∧∀ i u,c[i]?=some u→flat[j*e.cells+i]?=some u
 |[],_,_,⟨_,h⟩=>⟨fun _=>[],by rw[h];simp,by simp⟩
 |x::xs,_,_,⟨c,b,f,B',h1,h2,h3,h4⟩=>by
  obtain⟨bss,h5,h6⟩:=Els.to h4
  refine⟨fun j=>match j with|0=>b|j+1=>bss j,?_,fun j y hj=>?_⟩
  ·rw[h2,h5,List.length_cons,List.range_succ_eq_map,List.flatMap_cons,List.flatMap_map]
  ·have hc:=h3.len
   cases j with
   |zero =>
    simp only[List.getElem?_cons_zero,Option.some.injEq]at hj
    subst hj
    refine⟨c,h3,fun i u hi=>?_⟩
    have hil:=(List.getElem?_eq_some_iff.1 hi).1
    rw[h1,Nat.zero_mul,Nat.zero_add,List.getElem?_append_left hil]
    exact hi
   |succ j =>
    obtain⟨c',h7,h8⟩:=h6 j y (by simpa using hj)
    refine⟨c',h7,fun i u hi=>?_⟩
    rw[h1,Nat.succ_mul,List.getElem?_append_right (by omega),← h8 i u hi]
    congr 1
    omega
theorem oY {w:World}{G:Nat→Prop}{E:TypeId}{e:Ty}{xs:List e.den}{v:Value}{bs:List Nat}(h:OwB w G none E e xs v bs):∃ flat B,Row w E e.cells v xs.length flat∧bs=v.ownBlock.toList++B∧Els w G e xs flat B:=by
 obtain⟨flat,bss,h1,h2,h3⟩:=h
 exact⟨flat,_,h1,h2,vp xs flat bss h1.1 (fun j x hj=>by obtain⟨c,h4,h5⟩:=h3 j x hj;exact⟨c,h4,h5⟩)⟩
theorem td {w:World}{G:Nat→Prop}{E:TypeId}{e:Ty}{xs:List e.den}{v:Value}{flat:List Value}{B:List Nat}(h1:Row w E e.cells v xs.length flat)(h2:Els w G e xs flat B):OwB w G none E e xs v (v.ownBlock.toList++B):=by
 obtain⟨bss,h3,h4⟩:=h2.to
 exact⟨flat,bss,h1,by rw[h3],fun j x hj=>by obtain⟨c,h5,h6⟩:=h4 j x hj;exact⟨c,h5,h6⟩⟩
theorem Els.deep {w:World}{G G':Nat→Prop}{e:Ty}(hd:e.shy=false):∀ {xs:List e.den} {f:List Value} {B:List Nat},Els w G e xs f B→Els w G' e xs f B
 |[],_,_,h=>h
 |x::xs,_,_,⟨c,b,f0,B0,h1,h2,h3,h4⟩=>⟨c,b,f0,B0,h1,h2,h3.deep hd,Els.deep hd h4⟩
def mv (P:Program)(f:FuncId)(E:TypeId)(s bytes:Nat):Prop :=
 ∀ (w:World) (v0 v2:Value) (n m i:Nat) (flat news:List Value),Row w E s v0 n flat→Row w E s v2 m news→(∀ u∈flat,u.oneCell'=true)→(∀ u∈news,u.oneCell'=true)→0<m→i≤n →
  (∀ k∈v0.ownBlock.toList,k∉v2.ownBlock.toList)→(n+m)*bytes≤140737488355328 →
  Calls P f #[v0,.int .i64 i,v2] w fun e w'=>∃ v',e=.returned v'∧Row w' E s v' (n+m) (flat.take (i*s)++news++flat.drop (i*s))∧w.grownBy w' v0.ownBlock∧(v'.ownBlock=v0.ownBlock∨v'.ownBlock=some w.heap.size)
theorem jz {P:Program}{f:FuncId}{E:TypeId}{e:Ty}{bytes:Nat}{fresh:Bool}(hE:fb P f)(hd:e.shy=false)(hwalk:mv P f E e.cells bytes) :
  af P ⟨f,[.own (.list true E e),.rd (.int .i64),.own (.list true E e)],[.v (.list true E e)],fresh,fun x=>gw e bytes x.1 x.2.1 x.2.2.1⟩:=by
 refine⟨hE,?_⟩
 intro w ro x vs bss y hargs hro hnd hden
 obtain⟨xs,i,zs,_⟩:=x
 obtain⟨v0,vs1,b0,bs1,rfl,rfl,⟨cs0,ho0,hm0⟩,v1,vs2,b1,bs2,rfl,rfl,⟨hb1,cs1,ho1,hm1⟩,v2,vs3,b2,bs3,rfl,rfl,⟨cs2,ho2,hm2⟩,rfl,rfl⟩:=hargs
 have ho0:cs0=[v0]:=ho0
 have ho1:cs1=[v1]:=ho1
 have ho2:cs2=[v2]:=ho2
 subst ho0 ho1 ho2 hb1
 have hm1:[v1]=[Value.int .i64 i]:=hm1
 simp only[List.cons.injEq,and_true]at hm1
 subst hm1
 rw[bG (by simp)]at hm0 hm2
 obtain⟨u0,e0,H0⟩:=hm0
 obtain⟨u2,e2,H2⟩:=hm2
 simp only[List.cons.injEq,and_true]at e0 e2
 subst e0 e2
 obtain⟨flat,B0,r0,eb0,l0⟩:=oY H0
 obtain⟨news,B2,r2,eb2,l2⟩:=oY H2
 have hden:gw e bytes xs i zs=some y:=hden
 unfold gw at hden
 split at hden
 ·rename_i hc
  obtain⟨hi0,hin,hm,hsz⟩:=hc
  simp only[Option.some.injEq]at hden
  subst hden
  obtain⟨j,rfl⟩:∃ j:Nat,i=(j:Int):=Int.eq_ofNat_of_zero_le hi0
  have hj:j≤xs.length:=by omega
  simp only[List.flatten_cons,List.flatten_nil,List.append_nil,List.nil_append]at hnd hro ⊢
  have hdis:∀ k∈b0,k∉b2:=fun k h1 h2=>(List.nodup_append.1 hnd).2.2 k h1 k h2 rfl
  refine (hwalk w v0 v2 xs.length zs.length j flat news r0 r2 l0.one l2.one hm hj (fun k h1 h2=>hdis k (by rw[eb0];exact List.mem_append_left _ h1) (by rw[eb2];exact List.mem_append_left _ h2)) (by simpa only[an]using hsz)).mono fun en w'=>?_
  rintro⟨v',rfl,r',hgr,hown⟩
  have hx:xs=xs.take j++xs.drop j:=(List.take_append_drop j xs).symm
  have l0':=l0
  rw[hx]at l0'
  obtain⟨f1,f2,C1,C2,ef,ec,l1,l3⟩:=Els.split l0'
  have hf1:f1.length=j*e.cells:=by rw[l1.len,List.length_take,Nat.min_eq_left hj]
  have et:flat.take (j*e.cells)=f1:=by rw[ef];exact List.take_left' hf1
  have ed:flat.drop (j*e.cells)=f2:=by rw[ef];exact List.drop_left' hf1
  rw[et,ed]at r'
  have hnd0:b0.Nodup:=(List.nodup_append.1 hnd).1
  have hnd2:b2.Nodup:=(List.nodup_append.1 hnd).2.1
  have hlt0:∀ k∈b0,k<w.heap.size:=H0.lt
  have hlt2:∀ k∈b2,k<w.heap.size:=H2.lt
  have hkeep:∀ k,k<w.heap.size→k∉v0.ownBlock.toList→w'.heap[k]?=w.heap[k]?:=fun k hk hn=>hgr.block k hk (fun h=>hn (by rw[← h];simp))
  have hB0:∀ k∈B0,w'.heap[k]?=w.heap[k]?:=fun k hk=>hkeep k (hlt0 k (by rw[eb0];exact List.mem_append_right _ hk)) (fun h=>by
   rw[eb0]at hnd0
   exact (List.nodup_append.1 hnd0).2.2 k h k hk rfl)
  have hB2:∀ k∈B2,w'.heap[k]?=w.heap[k]?:=fun k hk=>hkeep k (hlt2 k (by rw[eb2];exact List.mem_append_right _ hk)) (fun h=>hdis k (by rw[eb0];exact List.mem_append_left _ h) (by rw[eb2];exact List.mem_append_right _ hk))
  have hnone:∀ k,(fun _:Nat=>False) k→w'.heap[k]?=w.heap[k]?:=fun _ h=>h.elim
  have L1:Els w' (fun k=>False∨(fresh=false∧ro k)) e (xs.take j) f1 C1:=((l1.deep (G':=fun _=>False) hd).carry (fun _ h=>h.elim) hnone (fun k hk=>hB0 k (by rw[ec];exact List.mem_append_left _ hk)))
  have L3:Els w' (fun k=>False∨(fresh=false∧ro k)) e (xs.drop j) f2 C2:=((l3.deep (G':=fun _=>False) hd).carry (fun _ h=>h.elim) hnone (fun k hk=>hB0 k (by rw[ec];exact List.mem_append_right _ hk)))
  have L2:Els w' (fun k=>False∨(fresh=false∧ro k)) e zs news B2:=((l2.deep (G':=fun _=>False) hd).carry (fun _ h=>h.elim) hnone hB2)
  have L:=(L1.append L2).append L3
  have hlen:(xs.take j++zs++xs.drop j).length=xs.length+zs.length:=by simp;omega
  rw[← hlen]at r'
  have R:=td r' L
  have hperm:(C1++B2++C2).Perm (B0++B2):=by
   rw[ec,List.append_assoc,List.append_assoc]
   exact List.Perm.append_left C1 List.perm_append_comm
  have hnB:(B0++B2).Nodup:=by
   rw[eb0,eb2]at hnd
   have h1:=List.nodup_append.1 hnd
   refine List.nodup_append.2 ⟨(List.nodup_append.1 h1.1).2.1,(List.nodup_append.1 h1.2.1).2.1,fun a ha b hb=>h1.2.2 a (List.mem_append_right _ ha) b (List.mem_append_right _ hb)⟩
  have hmemB:∀ k,k∈C1++B2++C2→k∈b0++b2∧k<w.heap.size∧k∉v0.ownBlock.toList:=by
   intro k hk
   rcases List.mem_append.1 (hperm.mem_iff.1 hk) with h|h
   ·have h1:k∈b0:=by rw[eb0];exact List.mem_append_right _ h
    refine⟨List.mem_append_left _ h1,hlt0 k h1,fun h2=>?_⟩
    rw[eb0]at hnd0
    exact (List.nodup_append.1 hnd0).2.2 k h2 k h rfl
   ·have h1:k∈b2:=by rw[eb2];exact List.mem_append_right _ h
    exact⟨List.mem_append_right _ h1,hlt2 k h1,fun h2=>hdis k (by rw[eb0];exact List.mem_append_left _ h2) h1⟩
  have hownm:∀ k∈v'.ownBlock.toList,(k∈v0.ownBlock.toList∨k=w.heap.size):=by
   intro k hk
   rcases hown with h|h
   ·rw[h]at hk;exact .inl hk
   ·rw[h]at hk;simp at hk;exact .inr hk
  refine⟨v',[v'],fun _=>False,[[],[],[]],[v'.ownBlock.toList++(C1++B2++C2)],rfl,rfl,hgr.size,hgr.os,hgr.tape,hgr.output,?_,?_,?_,?_,?_,?_⟩
  ·intro k hk hn
   refine hkeep k hk (fun h=>hn ?_)
   simp only[List.flatten_cons,List.flatten_nil,List.append_nil,List.nil_append]
   exact List.mem_append_left _ (by rw[eb0];exact List.mem_append_left _ h)
  ·intro k h;exact h.elim
  ·exact⟨rfl,rfl,rfl,trivial⟩
  ·refine⟨v',[],_,[],rfl,rfl,⟨[v'],rfl,?_⟩,rfl,rfl⟩
   rw[bG (by simp)]
   exact⟨v',rfl,R⟩
  ·simp only[List.flatten_cons,List.flatten_nil,List.append_nil,List.nil_append]
   refine List.nodup_append.2 ⟨?_,hperm.nodup_iff.2 hnB,fun a ha b hb=>?_⟩
   ·cases v'.ownBlock <;> simp
   ·rintro rfl
    obtain⟨_,h2,h3⟩:=hmemB a hb
    rcases hownm a ha with h|h
    ·exact h3 h
    ·omega
  ·intro k hk
   simp only[List.flatten_cons,List.flatten_nil,List.append_nil,List.nil_append]at hk
   refine⟨?_,fun h=>h⟩
   rcases List.mem_append.1 hk with h|h
   ·rcases hownm k h with h2|h2
    ·have h3:k∈b0:=by rw[eb0];exact List.mem_append_left _ h2
     refine⟨Nat.lt_of_lt_of_le (hlt0 k h3) hgr.size,.inr ?_⟩
     simp only[List.flatten_cons,List.flatten_nil,List.append_nil,List.nil_append]
     exact List.mem_append_left _ h3
    ·exact⟨r'.lt k h,.inl (by omega)⟩
   ·obtain⟨h1,h2,_⟩:=hmemB k h
    refine⟨Nat.lt_of_lt_of_le h2 hgr.size,.inr ?_⟩
    simp only[List.flatten_cons,List.flatten_nil,List.append_nil,List.nil_append]
    exact h1
 ·cases hden
end Go.Proofs.YthgnfidnmnkeaaaGreatEv
