/- One operation looks at some slots alone. -/
import Derived.Test.YtadlacffdemoiaaGreatE3
import Derived.Laws.StructEq
import Derived.Lib.SliceRun
import Derived.ProofKit
set_option linter.unusedVariables false
set_option linter.unusedSimpArgs false
open Array renaming getElem?_eq_getElem->CA,getD_eq_getD_getElem?->CB,replicate->CX,all_eq_true_iff_forall_mem->Ci,getElem?_eq_some_iff->Cr,getElem?_append_left->Cs,getElem?_replicate->Cy,mem_of_getElem?->C5,length_toList->DB,mem_append->DN
open Bool renaming and_eq_true->BX,not_eq_true'->CZ,or_eq_true->Cm,false_eq_true->Cp,and_false->Cq,and_true->Cx,true_and->DF,not_false->DV
open Classical renaming byContradiction->CQ
open Go.ByteArray renaming toList_eq->DD
open Go.Result renaming andThen_ok->Cd
open Go.Sem renaming run_bind->Cj,run_pure->DK
open Go.Value renaming okWide->DX
open List renaming mem_append->BW,mem_append_left->BY,mem_append_right->BZ,mem_cons_of_mem->B3,mem_cons_self->B4,getElem?_eq_some_iff->B8,mem_map->B9,mem_cons->CC,getD_eq_getElem?_getD->CD,flatten_cons->CE,getElem?_eq_getElem->CF,mem_flatMap->CH,count_append->CI,mem_singleton_self->CJ,count_pos_iff->CK,all_eq_true->CL,map_cons->CM,getElem?_append_right->CN,getElem?_append_left->CP,append_assoc->CS,nil_append->CU,mem_singleton->CV,nodup_cons->CW,length_cons->Cb,nodup_append->Cc,mem_filter->Cg,any_eq_true->Cl,map_append->Cn,count_cons->Co,nodup_nil->Ct,count_eq_zero->Cu,any_eq_false->Cv,all_cons->Cw,getElem?_cons_succ->Cz,getElem?_eq_none->C4,drop_drop->C6,mapM_cons->C8,map_congr_left->DA,countP_eq_zero->DC,getElem_of_mem->DE,set_cons_succ->DG,find?_eq_none->DI,getElem?_map->DJ,size_toArray->DL,mem_toArray->DM,countP_cons->DO,foldl_cons->DS,range->DU,map_nil->DW
open List.cons renaming injEq->C3
open Nat renaming eq_of_beq_eq_true->B5,beq->B7,le_of_ble_eq_true->CR,lt_succ_self->Ce,zero_add->Cf,blt_eq->Ch,blt->C0,le_refl->C7,ble->C9,lt_of_lt_of_le->DH,zero_le->DQ,strongRecOn->DT
open Option renaming map_eq_some_iff->B6,map_some->CO,bind_eq_some_iff->CT,bind_assoc->CY,bind_some->Ca,bind_none->Ck,getD_some->DP
open Option.some renaming injEq->BV,inj->DR
open Prod.mk renaming injEq->CG
namespace Go.Proofs.YtadlacffdemoiaaGreatEv
open Go Go.RowKit
section
variable {P:Program} {V:Env} {Γ:List Ctr} {T:TypeId->TI} {st st':St} {o:Oper} {R:Type} {κ:Upd->Option R} {r:R}
theorem gH {α β:Type}(b:Bool)(x y:Option α)(f:α->Option β):(bif b then x else y).bind f=bif b then x.bind f else y.bind f:=by cases b <;> rfl
theorem wN {b:Option (Bool×Nat×Nat)}{U:Upd}:jU st b U κ=(jU st b U some).bind κ:=by
 unfold jU;split
 ·split
  ·simp only[CY];congr 1;funext y;split <;> rfl
  ·rfl
 ·rfl
theorem wO {d:Nat}{f:FuncId}{xs:List (aG×List Leaf)}:js Γ st d f xs κ=(js Γ st d f xs some).bind κ:=by
 unfold js;cases lS Γ f with
 |none=>rfl
 |some c =>
  simp only[gG,CY];congr 1;funext u;cases oW Γ (ac u.1 st) c.ps u.2.1 with
  |none=>rfl
  |some g =>
   simp only[gH,CY,Ck];congr 2;funext y;exact wN
theorem mO {z:St}{H:Upd}{d:Nat}{E:TypeId}{e:Ty}{u:Nat}{p:Bool}{xs:List e.den}{ks:List (Nat×Nat)}{y:Leaf}:dW st z H d E e u p xs ks y κ=(dW st z H d E e u p xs ks y some).bind κ:=by
 unfold dW;split
 ·simp only[gH,Ck,Ca]
 ·rfl
theorem tQ {z:Upd}{d:Nat}{E:TypeId}{e:Ty}{u:Nat}{x y:Leaf}:ew st z d E e u x y κ=(ew st z d E e u x y some).bind κ:=by
 unfold ew;split
 ·split
  ·rw[gH,<- mO];rfl
  ·rfl
 ·exact mO
 ·rfl
theorem tR {d:Nat}{E:TypeId}{e:Ty}{u:Nat}{x y:Leaf}:iB st d E e u x y κ=(iB st d E e u x y some).bind κ:=by
 unfold iB;simp only[hY,gH,CY,<- tQ]
theorem nD {r j i off n:Nat}{p:Bool}{E:TypeId}{e:Ty}{xs:List e.den}{h:Option (Nat×Nat)}{ls:List Leaf}:gM st r j i off n p E e xs h ls κ=(gM st r j i off n p E e xs h ls some).bind κ:=by
 unfold gM;simp only[CY];congr 1;funext u;split
 ·rw[gH];congr 1;split
  ·rfl
  ·simp only[gH,Ca,Ck]
 ·rfl
theorem tS:act Γ T o st κ=(act Γ T o st some).bind κ:=by
 cases u:o.op <;> simp only[act,wrU,u] <;> (repeat' split) <;>
  (try simp only[gH,CY,Ck,Ca]) <;> (try rfl) <;> (try exact wO) <;> (try (rw[tR];done)) <;> (try (rw[nD];done)) <;> (try (rw[<- nD];done))
theorem bo {q:Nat}(h:st' q=st q):∀ (U:Upd),ac U st' q=ac U st q
 |[]=>h
 |(r,c)::U=>by simp only[ac,bo h U]
theorem dV {x:Operand}(h:∀ t,x=.tmp t->st' t=st t):au st' x=au st x:=by
 cases x with
 |tmp t=>simp only[au,h t rfl]
 |_=>rfl
theorem dF {x:Operand}(h:∀ t,x=.tmp t->st' t=st t):one st' x=one st x:=by
 unfold one;rw[dV h]
theorem lk:∀ (y u:List Leaf),ax (y++u)=ax y++ax u
 |[],_=>rfl
 |l::y,u=>by cases l <;> simp[ax,lk y u]
theorem aK (l:Leaf)(ls:List Leaf):ax (l::ls)=ax [l]++ax ls:=lk [l] ls
theorem fE:∀ (n:Nat) (ls:List Leaf) (q:Nat),q∈ax (ls.drop n)->q∈ax ls
 |0,_,_,h=>h
 |n+1,[],_,h=>h
 |n+1,l::ls,q,h=>by rw[aK];exact BZ _ (fE n ls q h)
theorem rO:∀ (n:Nat) (ls:List Leaf) (q:Nat),q∈ax (ls.take n)->q∈ax ls
 |0,_,_,h=>by simp[ax]at h
 |n+1,[],_,h=>by simp[ax]at h
 |n+1,l::ls,q,h=>by
  rw[List.take_succ_cons,aK,BW]at h;rw[aK,BW];exact h.imp id (rO n ls q)
theorem qT:∀ {ls:List Leaf} {k:Nat} {l:Leaf},ls[k]?=some l->∀ q∈ax [l],q∈ax ls
 |[],_,_,h,_,_=>by simp at h
 |y::ls,0,l,h,q,u=>by simp at h;subst h;rw[aK];exact BY _ u
 |y::ls,k+1,l,h,q,u=>by rw[aK];exact BZ _ (qT (by simpa using h) q u)
theorem jI {ks:List (Nat×Nat×Nat)}{ep:Nat}(h:∀ q∈EPO::ks.map (·.1),st' q=st q):br st' ks ep=br st ks ep:=by
 unfold br;rw[h EPO (B4 ..)];congr 1;induction ks with
 |nil=>rfl
 |cons k ks y =>
  rw[Cw,Cw,y (λq u=>h q (by simp at u ⊢;rcases u with u|u;exact .inl u;exact .inr (.inr u))),h k.1 (by simp)]
theorem iw {p:Bool}{ks:List (Nat×Nat×Nat)}{ep:Nat}{u:Option (Nat×Nat×Nat)}{E:TypeId}{e:Ty}{xs:List e.den}:ax [.nal p ks ep u E e xs]=EPO::ks.map (·.1):=by simp[ax]
theorem vv {p:Bool}{ks:List (Nat×Nat×Nat)}{ep:Nat}{a:Ty}{x:a.den}{off:Nat}:ax [.np p ks ep a x off]=EPO::ks.map (·.1):=by simp[ax]
theorem cj {l:Leaf}(h:∀ q∈ax [l],st' q=st q):aD st' l=aD st l:=by
 cases l with
 |al r j v=>simp only[aD,h r (by simp[ax])]
 |nal p z ep u E e y=>rw[iw]at h;simp only[aD,jI h]
 |_=>rfl
theorem jS:∀ (a:Ty) (ls:List Leaf) (p:Bool) (x:a.den) (u:List Leaf),bc st a ls=some (p,x,u)->∃ J,ls=J++u
 |.int k,ls,p,x,u,h=>by
  simp only[bc]at h;split at h
  ·split at h
   ·simp at h;exact⟨[_],by rw[<- h.2.2];rfl⟩
   ·cases h
  ·cases h
 |.bool,ls,p,x,u,h=>by
  simp only[bc]at h;split at h
  ·simp at h;exact⟨[_],by rw[<- h.2.2];rfl⟩
  ·cases h
 |.str,ls,p,x,u,h=>by
  simp only[bc]at h;split at h
  ·simp at h;exact⟨[_],by rw[<- h.2.2];rfl⟩
  ·cases h
 |.unit,ls,p,x,u,h=>by
  simp only[bc,BV,CG]at h;exact⟨[],by rw[h.2.2];rfl⟩
 |.hdr,ls,p,x,u,h=>by
  simp only[bc]at h;split at h
  ·split at h
   ·simp at h;exact⟨[_],by rw[<- h.2.2];rfl⟩
   ·cases h
  ·cases h
 |.pair a b,ls,p,x,u,h=>by
  simp only[bc]at h;split at h
  ·rename_i q y H X;split at h
   ·rename_i q' z I Z;simp at h;obtain⟨J,O⟩:=jS a ls q y H X;obtain⟨Y,M⟩:=jS b H q' z I Z;exact⟨J++Y,by rw[O,M,h.2.2,CS]⟩
   ·cases h
  ·cases h
 |.list m E e,ls,p,x,u,h=>by
  simp only[bc]at h;split at h
  ·split at h
   ·simp at h;exact⟨[_],by rw[<- h.2.2];rfl⟩
   ·cases h
  ·cases h
theorem gI:∀ (a:Ty) (ls:List Leaf),(∀ q∈ax ls,st' q=st q)->bc st' a ls=bc st a ls
 |.int k,ls,h=>rfl
 |.bool,ls,h=>rfl
 |.str,ls,h=>rfl
 |.unit,ls,h=>rfl
 |.hdr,ls,h=>by
  cases ls with
  |nil=>rfl
  |cons l ls =>
   simp only[bc];rw[cj (l:=l) (λq z=>h q (by rw[aK];exact BY _ z))]
 |.pair a b,ls,h=>by
  simp only[bc,gI a ls h];cases I:bc st a ls with
  |none=>rfl
  |some x =>
   obtain⟨p,y,u⟩:=x;obtain⟨J,H⟩:=jS a ls p y u I;simp only;rw[gI b u (λq z=>h q (by rw[H,lk];exact BZ _ z))]
 |.list m E e,ls,h=>by
  cases ls with
  |nil=>rfl
  |cons l ls =>
   simp only[bc];rw[cj (l:=l) (λq z=>h q (by rw[aK];exact BY _ z))]
theorem eK {a:Ty}{ls:List Leaf}(h:∀ q∈ax ls,st' q=st q):cO st' a ls=cO st a ls:=by
 unfold cO;rw[gI a ls h]
theorem nE {e:Ty}:∀ (n:Nat) (ls:List Leaf),(∀ q∈ax ls,st' q=st q)->fC st' e n ls=fC st e n ls
 |0,_,_=>rfl
 |n+1,ls,h=>by
  simp only[fC,eK (ls:=ls.take e.cells) (λq u=>h q (rO _ _ q u)),nE n (ls.drop e.cells) (λq u=>h q (fE _ _ q u))]
theorem jl:∀ {ls:List Leaf},(∀ q∈ax ls,st' q=st q)->bz st' ls=bz st ls
 |[],_=>rfl
 |l::ls,h=>by
  have z:=jl (ls:=ls) (λq u=>h q (by rw[aK];exact BZ _ u));cases l with
  |al r j v=>simp only[bz,z,cj (l:=.al r j v) (λq u=>h q (by rw[aK];exact BY _ u))]
  |nal p I ep y E e H=>simp only[bz,z,cj (l:=.nal p I ep y E e H) (λq u=>h q (by rw[aK];exact BY _ u))]
  |_=>simpa[bz]using z
theorem pq:∀ {ls:List Leaf},(∀ q∈ax ls,st' q=st q)->b7 st' ls=b7 st ls
 |[],_=>rfl
 |l::ls,h=>by
  have y:=pq (ls:=ls) (λq u=>h q (by rw[aK];exact BZ _ u));cases l with
  |al r j v=>simp only[b7,y,cj (l:=.al r j v) (λq u=>h q (by rw[aK];exact BY _ u))]
  |_=>simpa[b7]using y
theorem qU:∀ {ls:List Leaf},(∀ q∈ax ls,st' q=st q)->dy st' ls=dy st ls
 |[],_=>rfl
 |l::ls,h=>by
  have z:=qU (ls:=ls) (λq y=>h q (by rw[aK];exact BZ _ y));cases l with
  |nal p I ep u E e H =>
   cases u with
   |none=>simp only[dy,z,cj (l:=.nal p I ep none E e H) (λq y=>h q (by rw[aK];exact BY _ y))]
   |some x=>simpa[dy]using z
  |_=>simpa[dy]using z
theorem pt {ls:List Leaf}(h:∀ q∈ax ls,st' q=st q):dJ st' ls=dJ st ls:=by
 unfold dJ;induction ls with
 |nil=>rfl
 |cons l ls y =>
  rw[CM,CM,y (λq u=>h q (by rw[aK];exact BZ _ u))];unfold gq;rw[cj (λq u=>h q (by rw[aK];exact BY _ u))]
theorem eC:∀ {ls:List Leaf} {x:Nat×Nat},x∈bz st ls->x.1∈ax ls
 |[],_,h=>by simp[bz]at h
 |l::ls,x,h=>by
  cases l with
  |al r j v =>
   simp only[bz,BW]at h;rcases h with h|h
   ·split at h
    ·simp at h;subst h;simp[ax]
    ·simp at h
   ·rw[aK];exact BZ _ (eC h)
  |nal p H ep u E e z =>
   simp only[bz,BW]at h;rcases h with h|h
   ·split at h
    ·obtain⟨k,y,rfl⟩:=B9.1 h;rw[aK,iw];exact BY _ (B3 _ (B9.2 ⟨k,y,rfl⟩))
    ·simp at h
   ·rw[aK];exact BZ _ (eC h)
  |_=>(simp only[bz]at h;rw[aK];exact BZ _ (eC h))
theorem jm:∀ {ls:List Leaf} {x:Nat×Nat},x∈b7 st ls->x.1∈ax ls
 |[],_,h=>by simp[b7]at h
 |l::ls,x,h=>by
  cases l with
  |al r j v =>
   simp only[b7,BW]at h;rcases h with h|h
   ·split at h
    ·simp at h;subst h;simp[ax]
    ·simp at h
   ·rw[aK];exact BZ _ (jm h)
  |_=>(simp only[b7]at h;rw[aK];exact BZ _ (jm h))
theorem ig:∀ {ls:List Leaf} {x:Nat×Nat},x∈dy st ls->x.1∈ax ls
 |[],_,h=>by simp[dy]at h
 |l::ls,x,h=>by
  cases l with
  |nal p I ep u E e H =>
   cases u with
   |none =>
    simp only[dy,BW]at h;rcases h with h|h
    ·split at h
     ·obtain⟨k,z,rfl⟩:=B9.1 h;rw[aK,iw];exact BY _ (B3 _ (B9.2 ⟨k,z,rfl⟩))
     ·simp at h
    ·rw[aK];exact BZ _ (ig h)
   |some y=>(simp only[dy]at h;rw[aK];exact BZ _ (ig h))
  |_=>(simp only[dy]at h;rw[aK];exact BZ _ (ig h))
theorem iy:∀ {ks:List (Nat×Nat)},(∀ x∈ks,st' x.1=st x.1)->aM st' ks=aM st ks
 |[],_=>rfl
 |(r,j)::ks,h=>by
  simp only[aM,iy (ks:=ks) (λx u=>h x (B3 _ u)),bo (h (r,j) (B4 ..))]
theorem kj:∀ {ks:List (Nat×Nat)},(∀ x∈ks,st' x.1=st x.1)->aE st' ks=aE st ks
 |[],_=>rfl
 |(r,j)::ks,h=>by
  simp only[aE,kj (ks:=ks) (λx u=>h x (B3 _ u)),bo (h (r,j) (B4 ..))]
theorem tT {ls:List Leaf}(h:∀ q∈ax ls,st' q=st q):mvU st' ls=mvU st ls:=by
 unfold mvU;rw[qU h,pq h,kj (λx u=>h _ (ig u))];simp only;rw[iy (λx u=>bo (h _ (jm u)) _)]
theorem qW {ls:List Leaf}(h:∀ q∈ax ls,st' q=st q):ii st' ls=ii st ls:=by
 unfold ii;rw[qU h,pq h]
theorem jn:∀ (a:Ty) (ls:List Leaf),(∀ q∈ax ls,st' q=st q)->take st' a ls=take st a ls
 |.int k,ls,h=>by simp only[take,gI (.int k) ls h]
 |.bool,ls,h=>by simp only[take,gI .bool ls h]
 |.str,ls,h=>by simp only[take,gI .str ls h]
 |.unit,ls,h=>rfl
 |.hdr,ls,h=>by simp only[take,gI .hdr ls h]
 |.pair a b,ls,h=>by
  simp only[take,jn a ls h];cases H:take st a ls with
  |none=>rfl
  |some x =>
   have z:=ki.take_rest a ls x H;simp only;rw[jn b x.rest (λq u=>h q (fE a.cells ls q (by rw[<- z];exact u)))]
 |.list m E e,ls,h=>by
  cases ls with
  |nil=>rfl
  |cons l ls =>
   have y:∀ q∈ax [l],st' q=st q:=λq u=>h q (by rw[aK];exact BY _ u)
   simp only[take,cj y,jl y];congr 1;split
   ·rename_i r j v;rw[cj y]
   ·rfl
   ·rfl
theorem gV {a:Ty}{ls:List Leaf}(h:∀ q∈ax ls,st' q=st q):ch st' a ls=ch st a ls:=by
 unfold ch;rw[jn a ls h]
theorem oj:∀ (a:Ty) (ls:List Leaf) (t:cK a.den),take st a ls=some t->(∀ z∈t.frz,z.1∈ax ls)/\∀ z∈t.kill,z.1∈ax ls
 |.int k,ls,t,h=>by simp only[take,B6]at h;obtain⟨_,_,rfl⟩:=h;exact⟨by simp,by simp⟩
 |.bool,ls,t,h=>by simp only[take,B6]at h;obtain⟨_,_,rfl⟩:=h;exact⟨by simp,by simp⟩
 |.str,ls,t,h=>by simp only[take,B6]at h;obtain⟨_,_,rfl⟩:=h;exact⟨by simp,by simp⟩
 |.hdr,ls,t,h=>by simp only[take,B6]at h;obtain⟨_,_,rfl⟩:=h;exact⟨by simp,by simp⟩
 |.unit,ls,t,h=>by simp only[take,BV]at h;subst h;exact⟨by simp,by simp⟩
 |.pair a b,ls,t,h=>by
  simp only[take]at h;split at h
  ·rename_i x J;split at h
   ·rename_i y Z;simp only[BV]at h;subst h;have Y:=ki.take_rest a ls x J;obtain⟨h1,O⟩:=oj a ls x J;obtain⟨I,M⟩:=oj b x.rest y Z;rw[Y]at I M;exact⟨λz u=>(BW.1 u).elim (h1 z) (λu=>fE _ _ _ (I z u)),λz u=>(BW.1 u).elim (O z) (λu=>fE _ _ _ (M z u))⟩
   ·cases h
  ·cases h
 |.list m E e,ls,t,h=>by
  cases ls with
  |nil=>simp[take]at h
  |cons l ls =>
   have H:∀ q∈ax [l],q∈ax (l::ls):=λq X=>by rw[aK];exact BY _ X
   cases m with
   |false =>
    simp only[take,cond_false]at h;split at h
    ·simp only[BV]at h;subst h;exact⟨λz u=>H _ (eC u),by simp⟩
    ·cases h
   |true =>
    simp only[take,cond_true]at h;split at h
    ·split at h
     ·simp only[B6]at h;obtain⟨_,_,rfl⟩:=h;exact⟨by simp,λz u=>by simp at u;subst u;exact H _ (by simp[ax])⟩
     ·cases h
    ·simp only[BV]at h;subst h;exact⟨by simp,by simp⟩
    ·cases h
theorem ja {a:Ty}{ls:List Leaf}{t:cK a.den}(h:ch st a ls=some t):(∀ z∈t.frz,z.1∈ax ls)/\∀ z∈t.kill,z.1∈ax ls:=by
 unfold ch at h;split at h
 ·rename_i p x f k u;simp only[BV]at h;subst h;exact oj a ls _ u
 ·cases h
theorem kb:∀ {off n:Nat} (a:Ty) (pos:Nat) (x:a.den) (ls:List Leaf) (t:cK a.den),da st off n a pos x ls=some t->∃ k,t.rest=ls.drop k
 |off,n,.pair a b,pos,x,ls,t,h=>by
  simp only[da]at h;split at h
  ·rename_i u I;split at h
   ·rename_i v J;simp only[BV]at h;subst h;obtain⟨H,z⟩:=kb a pos x.1 ls u I;obtain⟨M,y⟩:=kb b (pos+a.cells) x.2 u.rest v J;exact⟨H+M,by show v.rest=_;rw[y,z,C6]⟩
   ·cases h
  ·cases h
 |off,n,.unit,pos,x,ls,t,h=>by simp only[da,BV]at h;subst h;exact⟨0,rfl⟩
 |off,n,.hdr,pos,x,ls,t,h=>by simp[da]at h
 |off,n,.int k,pos,x,ls,t,h=>sc (a:=.int k) h
 |off,n,.bool,pos,x,ls,t,h=>sc (a:=.bool) h
 |off,n,.str,pos,x,ls,t,h=>sc (a:=.str) h
 |off,n,.list m E e,pos,x,ls,t,h=>sc (a:=.list m E e) h
where
 sc {a:Ty} {b:Bool} {x:a.den} {ls:List Leaf} {t:cK a.den} (h:(bif b then take st a ls else some ⟨false,x,[],[],ls⟩)=some t):∃ k,t.rest=ls.drop k:=by
  cases b with
  |true=>exact⟨_,ki.take_rest a ls t h⟩
  |false=>simp only[cond_false,BV]at h;subst h;exact⟨0,rfl⟩
theorem pu:∀ {off n:Nat} (a:Ty) (pos:Nat) (x:a.den) (ls:List Leaf),(∀ q∈ax ls,st' q=st q)->da st' off n a pos x ls=da st off n a pos x ls
 |off,n,.pair a b,pos,x,ls,h=>by
  simp only[da,pu a pos x.1 ls h];cases y:da st off n a pos x.1 ls with
  |none=>rfl
  |some u =>
   obtain⟨k,e⟩:=kb a pos x.1 ls u y;simp only;rw[pu b (pos+a.cells) x.2 u.rest (λq z=>h q (fE k ls q (by rw[<- e];exact z)))]
 |off,n,.unit,pos,x,ls,h=>rfl
 |off,n,.hdr,pos,x,ls,h=>rfl
 |off,n,.int k,pos,x,ls,h=>by simp only[da,jn (.int k) ls h]
 |off,n,.bool,pos,x,ls,h=>by simp only[da,jn .bool ls h]
 |off,n,.str,pos,x,ls,h=>by simp only[da,jn .str ls h]
 |off,n,.list m E e,pos,x,ls,h=>by simp only[da,jn (.list m E e) ls h]
theorem pv:∀ {off n:Nat} (a:Ty) (pos:Nat) (x:a.den) (ls:List Leaf) (t:cK a.den),da st off n a pos x ls=some t->(∀ z∈t.frz,z.1∈ax ls)/\∀ z∈t.kill,z.1∈ax ls
 |off,n,.pair a b,pos,x,ls,t,h=>by
  simp only[da]at h;split at h
  ·rename_i u I;split at h
   ·rename_i v O;simp only[BV]at h;subst h;obtain⟨k,e⟩:=kb a pos x.1 ls u I;obtain⟨X,M⟩:=pv a pos x.1 ls u I;obtain⟨H,J⟩:=pv b (pos+a.cells) x.2 u.rest v O;rw[e]at H J;exact⟨λz y=>(BW.1 y).elim (X z) (λy=>fE _ _ _ (H z y)),λz y=>(BW.1 y).elim (M z) (λy=>fE _ _ _ (J z y))⟩
   ·cases h
  ·cases h
 |off,n,.unit,pos,x,ls,t,h=>by simp only[da,BV]at h;subst h;exact⟨by simp,by simp⟩
 |off,n,.hdr,pos,x,ls,t,h=>by simp[da]at h
 |off,n,.int k,pos,x,ls,t,h=>sc (a:=.int k) h
 |off,n,.bool,pos,x,ls,t,h=>sc (a:=.bool) h
 |off,n,.str,pos,x,ls,t,h=>sc (a:=.str) h
 |off,n,.list m E e,pos,x,ls,t,h=>sc (a:=.list m E e) h
where
 sc {a:Ty} {b:Bool} {x:a.den} {ls:List Leaf} {t:cK a.den} (h:(bif b then take st a ls else some ⟨false,x,[],[],ls⟩)=some t):(∀ z∈t.frz,z.1∈ax ls)/\∀ z∈t.kill,z.1∈ax ls:=by
  cases b with
  |true=>exact oj a ls t h
  |false=>simp only[cond_false,BV]at h;subst h;exact⟨by simp,by simp⟩
theorem vw {U:Upd}{d:Nat}{sh:aG}{ls:List Leaf}(h:st' d=st d):ck st' U d sh ls=ck st U d sh ls:=by
 simp only[ck,bo h]
theorem rP:∀ {xs:List Operand} {t:Nat},Operand.tmp t∈xs->t∈iC xs
 |[],_,h=>by simp at h
 |x::xs,t,h=>by
  rcases CC.1 h with rfl|h
  ·simp[iC]
  ·have u:=rP h;cases x <;> simp[iC,u]
theorem nF (t n:Nat):∀ (j:Nat) (ls:List Leaf) (q:Nat),q∈ax (bG t n j ls)->q=t\/q∈ax ls
 |_,[],_,h=>by simp[bG,ax]at h
 |j,l::ls,q,h=>by
  simp only[bG]at h;rw[aK,BW]at h;rw[aK,BW];rcases h with h|h
  ·cases l with
   |own p y E e u=>simp[lP,ax]at h;exact .inl h
   |_=>exact .inr (.inl h)
  ·exact (nF t n (j+1) ls q h).imp id .inr
theorem ll:∀ (y u:List Leaf),az (y++u)=az y++az u
 |[],_=>rfl
 |l::y,u=>by cases l <;> simp[az,ll y u]
theorem dw (l:Leaf)(ls:List Leaf):az (l::ls)=az [l]++az ls:=ll [l] ls
theorem fF:∀ {ls:List Leaf} {q:Nat},q∈ax ls->q∈az ls
 |[],_,h=>by simp[ax]at h
 |l::ls,q,h=>by
  rw[aK,BW]at h;rw[dw,BW];rcases h with h|h
  ·left;cases l with
   |nal p y ep u E e z=>simp[ax]at h;simpa[az]using h
   |np p y ep a x off=>simp[ax]at h;simpa[az]using h
   |_=>simp[ax]at h <;> simp[az,h]
  ·exact .inr (fF h)
theorem nG (t n:Nat):∀ (j:Nat) (ls:List Leaf) (q:Nat),q∈az (bG t n j ls)->q=t\/q∈az ls
 |_,[],_,h=>by simp[bG,az]at h
 |j,l::ls,q,h=>by
  simp only[bG]at h;rw[dw,BW]at h;rw[dw,BW];rcases h with h|h
  ·cases l with
   |own p y E e u=>simp[lP,az]at h;exact .inl h
   |_=>exact .inr (.inl h)
  ·exact (nG t n (j+1) ls q h).imp id .inr
theorem rQ {x:Operand}{q:Nat}(h:q∈ax (au st x).2):∃ t,x=.tmp t/\(q=t\/q∈ax (st t).ls):=by
 cases x with
 |tmp t =>
  simp only[au]at h;cases y:C0 t GH with
  |false=>simp[y,ax]at h
  |true=>simp only[y,cond_true]at h;exact⟨t,rfl,nF _ _ _ _ _ h⟩
 |const v =>
  simp only[au]at h;split at h
  ·rename_i l u;unfold iz at u;split at u <;> simp at u <;> subst u <;> simp[ax]at h
  ·simp[ax]at h
 |func f=>simp[au,ax]at h
 |global g=>simp[au,ax]at h
theorem rR {x:Operand}{q:Nat}(h:q∈az (au st x).2):∃ t,x=.tmp t/\(q=t\/q∈az (st t).ls):=by
 cases x with
 |tmp t =>
  simp only[au]at h;cases y:C0 t GH with
  |false=>simp[y,az]at h
  |true=>simp only[y,cond_true]at h;exact⟨t,rfl,nG _ _ _ _ _ h⟩
 |const v =>
  simp only[au]at h;split at h
  ·rename_i l u;unfold iz at u;split at u <;> simp at u <;> subst u <;> simp[az]at h
  ·simp[az]at h
 |func f=>simp[au,az]at h
 |global g=>simp[au,az]at h
theorem qX {x:Operand}{l:Leaf}(h:one st x=l)(u:l≠.dead):(au st x).2=[l]:=by
 unfold one at h;split at h
 ·rename_i z y;rw[y,h]
 ·exact absurd h.symm u
theorem jo {x:Operand}{q:Nat}(h:q∈ax [one st x]):q∈ax (au st x).2:=by
 by_cases u:one st x=.dead
 ·rw[u]at h;simp[ax]at h
 ·rw[qX rfl u];exact h
theorem tU {x:Operand}{q:Nat}(h:q∈az [one st x]):q∈az (au st x).2:=by
 by_cases u:one st x=.dead
 ·rw[u]at h;simp[az]at h
 ·rw[qX rfl u];exact h
def jx:Leaf->Bool×Leaf
 |.own _ _ _ e u=>(true,.ep 0 0 0 e.cells u.length 0)
 |l=>(false,l)
def bL (c:bU):Nat×aG×List (Bool×Leaf):=(c.ver,c.sh,c.ls.map jx)
theorem tV {l l':Leaf}(h:jx l'=jx l):l'=l\/∃ (p p':Bool) (z y:Option (Nat×Nat)) (E E':TypeId) (e e':Ty) (xs:List e.den) (u:List e'.den),l=.own p z E e xs/\l'=.own p' y E' e' u/\e'.cells=e.cells/\u.length=xs.length:=by
 cases l <;> cases l' <;> simp only[jx,CG,Cp,reduceCtorEq,false_and,and_false,true_and,Leaf.ep.injEq,Bool.true_eq_false]at h <;>
  first
  |exact .inr ⟨_,_,_,_,_,_,_,_,_,_,rfl,rfl,h.1,h.2.1⟩
  |exact .inr ⟨_,_,_,_,_,_,_,_,_,_,rfl,rfl,h.1,h.2⟩
  |exact .inl rfl
  |exact .inl (by rw[h])
  |exact .inl h
  |(obtain⟨rfl,rfl,rfl,rfl,rfl,rfl⟩:=h;exact .inl rfl)
theorem qn (t n:Nat):∀ (j:Nat) (ls u:List Leaf),u.map jx=ls.map jx->bG t n j u=bG t n j ls
 |_,[],[],_=>rfl
 |_,[],_::_,h=>by simp at h
 |_,_::_,[],h=>by simp at h
 |j,l::ls,X::u,h=>by
  simp only[CM,C3]at h;simp only[bG,qn t n (j+1) ls u h.2];rcases tV h.1 with e|⟨p,O,Y,I,E,J,e,M,Z,H,z,y,_,_⟩
  ·rw[e]
  ·rw[z,y];rfl
theorem yk {x:Operand}(h:∀ t,x=.tmp t->bL (st' t)=bL (st t)):au st' x=au st x:=by
 cases x with
 |tmp t =>
  have:=h t rfl;simp only[bL,CG]at this;simp only[au,this.1,this.2.1,qn _ _ _ _ _ this.2.2]
 |_=>rfl
theorem zW {x:Operand}(h:∀ t,x=.tmp t->bL (st' t)=bL (st t)):one st' x=one st x:=by
 unfold one;rw[yk h]
theorem yl {c u:bU}(h:bL u=bL c)(j:Nat):jx (u.ls.getD j .dead)=jx (c.ls.getD j .dead):=by
 simp only[bL,CG]at h;have:=congrArg (λl=>l[j]?) h.2.2;simp only[DJ]at this;rw[CD,CD];generalize u.ls[j]?=a at this;generalize c.ls[j]?=b at this
 match a,b,this with
 |none,none,_=>rfl
 |some x,some y,h=>exact DR h
theorem rS (l:Leaf):lv l=(jx l).1:=by cases l <;> rfl
theorem zC {ks:List (Nat×Nat×Nat)}{ep:Nat}(h:∀ q∈EPO::ks.map (·.1),bL (st' q)=bL (st q)):br st' ks ep=br st ks ep:=by
 unfold br;have z:=h EPO (B4 ..);simp only[bL,CG]at z;rw[z.1];congr 1;induction ks with
 |nil=>rfl
 |cons k ks I =>
  have y:=h k.1 (by simp);have H:(st' k.1).ver=(st k.1).ver:=by simp only[bL,CG]at y;exact y.1
  rw[Cw,Cw,I (λq u=>h q (by simp at u ⊢;rcases u with u|u;exact .inl u;exact .inr (.inr u))),rS,rS,yl y,H]
end
section
variable {P:Program} {V:Env} {Γ:List Ctr} {T:TypeId->TI} {st st':St} {o:Oper} {R:Type} {κ:Upd->Option R} {r:R}
theorem tW {d:Nat}(u:o.dst=some d)(h:∀ q∈fp st o,st' q=st q):st' d=st d/\st' (B0+d)=st (B0+d):=by
 refine⟨h d ?_,h (B0+d) ?_⟩ <;> simp[fp,zK,u]
theorem lm {ls:List Leaf}(h:∀ q∈ax ls,st' q=st q):∀ x∈bz st ls,st' x.1=st x.1:=λx u=>h _ (eC u)
theorem qo {u:List (Nat×Nat×Bool)}:∀ (ps:List (Nat×Operand)) (ls:List Leaf),(∀ x∈ps,∀ t,x.2=.tmp t->st' t=st t)->fm st' u ps ls=fm st u ps ls
 |[],_,_=>rfl
 |(i,x)::ps,ls,h=>by
  simp only[fm,dV (h (i,x) (B4 ..))];split
  ·rw[qo ps _ (λy z=>h y (B3 _ z))]
  ·rfl
theorem oN {e:Ty}:∀ (ps:List (Nat×Operand)) (k:Nat),(∀ x∈ps,(∀ t,x.2=.tmp t->st' t=st t)/\∀ q∈ax (au st x.2).2,st' q=st q)->eD st' e k ps=eD st e k ps
 |[],_,_=>rfl
 |(i,x)::ps,k,h=>by
  have u:=h (i,x) (B4 ..);simp only[eD,dV u.1,gV u.2,oN ps (k+1) (λy z=>h y (B3 _ z))]
theorem oO {e:Ty}:∀ (ps:List (Nat×Operand)) (k:Nat) (u:cK (List e.den)),eD st e k ps=some u->∀ z,z∈u.frz\/z∈u.kill->∃ x∈ps,z.1∈ax (au st x.2).2
 |[],_,_,h=>by simp only[eD,BV]at h;subst h;simp
 |(i,x)::ps,k,u,h=>by
  simp only[eD]at h;cases O:B7 i k&&decide ((au st x).1=bk e.isAgg) with
  |false=>simp[O]at h
  |true =>
   simp only[O,cond_true]at h;split at h
   ·rename_i t1 J Z M;simp only[BV]at h;subst h;intro z H;obtain⟨p1,p2⟩:=ja Z;have I:(z∈t1.frz\/z∈t1.kill)\/(z∈J.frz\/z∈J.kill):=by
     rcases H with H|H <;> rcases BW.1 H with H|H
     ·exact .inl (.inl H)
     ·exact .inr (.inl H)
     ·exact .inl (.inr H)
     ·exact .inr (.inr H)
    rcases I with H|H
    ·exact⟨(i,x),B4 ..,H.elim (p1 z) (p2 z)⟩
    ·obtain⟨y,Y,X⟩:=oO ps (k+1) J M z H;exact⟨y,B3 _ Y,X⟩
   ·cases h
theorem nH {x:Option Operand}{n:Int}(h:∀ y,x=some y->∀ t,y=.tmp t->st' t=st t):di st' x n=di st x n:=by
 cases x with
 |none=>rfl
 |some y=>simp only[di,dF (h y rfl)]
theorem vz:∀ (xs:List Operand) (u:Option (List Nat)),(∀ x∈xs,∀ t,x=.tmp t->st' t=st t) ->
  xs.foldl (λ (u:Option (List Nat)) x=>u.bind λl=>match one st' x with|.bp b 0=>some (l++[b])|_=>none) u =
  xs.foldl (λ (u:Option (List Nat)) x=>u.bind λl=>match one st x with|.bp b 0=>some (l++[b])|_=>none) u
 |[],_,_=>rfl
 |x::xs,u,h=>by
  simp only[DS,dF (h x (B4 ..))];exact vz xs _ (λy z=>h y (B3 _ z))
theorem qp {l:Leaf}(I:st' TMP=st TMP)(z:st' EPO=st EPO)(h:∀ q∈ax [l],st' q=st q):cl st' l=cl st l:=by
 cases l with
 |nal p H ep u E e M =>
  rw[iw]at h;simp only[cl,jI h,I,z];congr 1
  match H,u,h with
  |[(r,j,n)],some (i,J,off),h =>
   have y:=h r (by simp);simp only[y]
  |[(r,j,n)],none,_=>rfl
  |[],_,_=>rfl
  |_::_::_,_,_=>rfl
 |_=>rfl
theorem oP {l l':Leaf}{U:Upd}(h:cl st l=some (U,l')):∃ n,l'=.al TMP 0 n/\∀ q,q≠TMP->∀ z∈az (ac U st q).ls,z∈az (st q).ls:=by
 cases l with
 |nal p ks ep a0 E e xs =>
  simp only[cl]at h;cases H:br st ks ep with
  |false=>simp[H]at h
  |true =>
   rw[H]at h;simp only[cond_true]at h;split at h
   ·rename_i r j n0 i sz off;split at h
    ·rename_i Y E' M O hg;cases Z:!B7 r TMP&&!B7 r EPO&&B7 sz M.cells with
     |false=>simp[Z]at h
     |true =>
      rw[Z]at h;simp only[cond_true]at h;split at h
      ·split at h
       ·rename_i y _ _ _ _ _;simp only[BV,CG]at h;obtain⟨rfl,rfl⟩:=h;refine⟨_,rfl,λq hq z u=>?_⟩;rw[aQ]at u;rcases am r q ⟨(st r).ver,(st r).sh,aT (st r).ls j (.own Y (some (i,off)) E' M O)⟩ (ac [(TMP,⟨(st TMP).ver+1,.one,[.own (Y&&M.shy) none _ _ _]⟩),(EPO,bX (st EPO))] st) with ⟨rfl,J⟩|⟨_,J⟩
        ·rw[J]at u;exact refs_set u
        ·rw[J,aQ,aH hq]at u;rcases am EPO q (bX (st EPO)) st with ⟨rfl,X⟩|⟨_,X⟩ <;> rw[X]at u <;> exact u
       ·cases h
      ·cases h
    ·cases h
   ·cases h
 |_=>simp[cl]at h
where
 refs_set {I:List Leaf} {j z:Nat} {p:Bool} {hh:Option (Nat×Nat)} {E:TypeId} {e:Ty} {xs:List e.den} (h:z∈az (aT I j (.own p hh E e xs))):z∈az I:=by
  unfold aT at h;induction I generalizing j with
  |nil=>simpa using h
  |cons l I ih =>
   cases j with
   |zero =>
    rw[List.set_cons_zero,dw,BW]at h;rw[dw,BW];rcases h with h|h
    ·simp[az]at h
    ·exact .inr h
   |succ j =>
    rw[DG,dw,BW]at h;rw[dw,BW];exact h.imp id ih
theorem uQ {l l':Leaf}{U:Upd}(h:cl st l=some (U,l')):az (ac U st TMP).ls=[]:=by
 cases l with
 |nal p O ep M E e xs =>
  simp only[cl]at h;cases u:br st O ep with
  |false=>simp[u]at h
  |true =>
   rw[u]at h;simp only[cond_true]at h;split at h
   ·rename_i r j Y i I off;split at h
    ·rename_i Z X H J hg;cases z:!B7 r TMP&&!B7 r EPO&&B7 I H.cells with
     |false=>simp[z]at h
     |true =>
      rw[z]at h;simp only[cond_true]at h;have y:TMP≠r:=λe=>by subst e;simp at z
      split at h
      ·split at h
       ·simp only[BV,CG]at h;obtain⟨rfl,rfl⟩:=h;rw[aQ,aH y,aQ,bm];rfl
       ·cases h
      ·cases h
    ·cases h
   ·cases h
 |_=>simp[cl]at h
theorem wP {E:TypeId}{e:Ty}{y:Leaf}(u:∀ q∈ax [y],st' q=st q):fT st' E e y=fT st E e y:=by
 unfold fT;rw[cj u,jl u,gV u]
theorem wQ {E:TypeId}{e:Ty}{y:Leaf}{t:cK (List e.den)}(h:fT st E e y=some t):(∀ z∈t.frz,z.1∈ax [y])/\∀ z∈t.kill,z.1∈ax [y]:=by
 unfold fT at h;cases u:e.flat with
 |true =>
  rw[u]at h;simp only[cond_true,B6]at h;obtain⟨_,_,rfl⟩:=h;exact⟨by simp,by simp⟩
 |false =>
  rw[u]at h;simp only[cond_false]at h;cases H:decide (e.sh=e) with
  |true =>
   rw[H]at h;simp only[cond_true,B6]at h;obtain⟨_,_,rfl⟩:=h;exact⟨λz I=>eC I,by simp⟩
  |false =>
   rw[H]at h;simp only[cond_false,B6]at h;obtain⟨M,J,rfl⟩:=h;exact ja J
theorem ln {u:Upd}{d:Nat}{E:TypeId}{e:Ty}{H:Nat}{p:Bool}{xs:List e.den}{ks:List (Nat×Nat)}{y:Leaf}(J:∀ z∈ks,st' z.1=st z.1)(M:∀ q∈ax [y],st' q=st q)(hd:st' d=st d) :
  dW st' (ac u st') u d E e H p xs ks y κ=dW st (ac u st) u d E e H p xs ks y κ:=by
 unfold dW;have O:∀ q,st' q=st q->ac u st' q=ac u st q:=λq h=>bo h u
 rw[wP (st:=ac u st) (st':=ac u st') (λq Z=>O q (M q Z))];split
 ·rename_i t ht;obtain⟨p1,p2⟩:=wQ ht;have Y:aE (ac u st') t.frz=aE (ac u st) t.frz:=kj (λz I=>O _ (M _ (p1 z I)));have X:∀ U:Upd,aM (ac U (ac u st')) (t.kill++ks)=aM (ac U (ac u st)) (t.kill++ks):=λU=>iy (λz I=>bo (O _ ((BW.1 I).elim (λI=>M _ (p2 z I)) (J z))) U)
  simp only[Y,X,vw hd]
 ·rfl
theorem wR {H:Upd}{d:Nat}{E:TypeId}{e:Ty}{u:Nat}{x y:Leaf}(I:∀ q∈ax [x],st' q=st q)(J:∀ q∈ax [y],st' q=st q)(M:st' d=st d):ew st' H d E e u x y κ=ew st H d E e u x y κ:=by
 unfold ew;cases x with
 |al r j v =>
  have Y:st' r=st r:=I r (by simp[ax]);simp only;rw[cj (st:=ac H st) (st':=ac H st') (l:=.al r j v) (λq X=>bo (I q X) H)];split
  ·rw[ln (λz O=>by simp at O;subst O;exact Y) J M]
  ·rfl
 |nil=>exact ln (by simp) J M
 |_=>rfl
theorem wS {d:Nat}{E:TypeId}{e:Ty}{H:Nat}{x y:Leaf}(M:st' TMP=st TMP)(J:∀ q∈ax [x],st' q=st q)(X:∀ q∈ax [y],st' q=st q)(Y:st' d=st d):iB st' d E e H x y κ=iB st d E e H x y κ:=by
 unfold iB;rw[wR J X Y,hY,hY];cases hn:jr x with
 |false=>rfl
 |true =>
  simp only[cond_true];have hE:st' EPO=st EPO:=by
   cases x with
   |nal p ks ep a0 E e xs=>exact J EPO (by rw[iw];exact B4 ..)
   |_=>simp[jr]at hn
  rw[qp M hE J];cases hu:cl st x with
  |none=>rfl
  |some u =>
   obtain⟨n,e1,_⟩:=oP (U:=u.1) (l':=u.2) hu;simp only[Ca];rw[e1];unfold ew;simp only;have Z:∀ q,q=TMP->ac u.1 st' q=ac u.1 st q:=λq I=>by rw[I];exact bo M u.1
   rw[cj (st:=ac u.1 st) (st':=ac u.1 st') (l:=.al TMP 0 n) (λq I=>Z q (by simpa[ax]using I))];split
   ·rw[ln (λz O=>by simp at O;subst O;exact M) X Y]
   ·rfl
structure eQ (st st':St) (ls:List Leaf):Prop where
 d1:∀ q∈az ls,st' q=st q
 d2:∀ r∈az ls,∀ q∈az (st r).ls,st' q=st q
 d3:∀ r∈az ls,∀ r2∈az (st r).ls,∀ q∈az (st r2).ls,st' q=st q
theorem ky (p:Bool):∀ (a:Ty) (x:a.den),az (cJ p a x)=[]
 |.int _,_=>rfl
 |.bool,_=>rfl
 |.str,_=>rfl
 |.unit,_=>rfl
 |.hdr,_=>rfl
 |.pair a b,x=>by simp[cJ,ll,ky p a,ky p b]
 |.list _ _ _,_=>rfl
theorem rT {l:Leaf}(h:∀ q∈az [l],st' q=st q):target st' l=target st l:=by
 unfold target;cases l with
 |bp b off =>
  have u:=h b (by simp[az]);cases off with
  |zero=>simp only[u]
  |succ n=>rfl
 |rp p a x off=>cases off <;> rfl
 |_=>rfl
theorem lp {l:Leaf}{ls:List Leaf}(h:target st l=some ls):∀ q∈az ls,q∈az [l]\/∃ r∈az [l],q∈az (st r).ls:=by
 unfold target at h;split at h
 ·rename_i b;cases y:decide ((st b).sh=.agg) with
  |false=>simp[y]at h
  |true =>
   simp only[y,cond_true,BV]at h;subst h;intro q u;rcases nG _ _ _ _ _ u with rfl|u
   ·exact .inl (by simp[az])
   ·exact .inr ⟨b,by simp[az],u⟩
 ·simp only[BV]at h;subst h;intro q u;rw[ky]at u;simp at u
 ·simp only[BV]at h;subst h;intro q u;simp[az]at u
 ·cases h
theorem jb {x:aG×List Leaf}{q:Nat}(h:q∈az [cm x]):q∈az x.2:=by
 unfold cm at h;split at h
 ·exact h
 ·simp[az]at h
theorem eQ.target {l:Leaf}{ls:List Leaf}(h:eQ st st' [l])(H:Go.Proofs.YtadlacffdemoiaaGreatEv.target st l=some ls):(∀ q∈az ls,st' q=st q)/\∀ r∈az ls,∀ q∈az (st r).ls,st' q=st q:=by
 constructor
 ·intro q y;rcases lp H q y with u|⟨r,u,z⟩
  ·exact h.d1 q u
  ·exact h.d2 r u q z
 ·intro r I q y;rcases lp H r I with u|⟨J,u,z⟩
  ·exact h.d2 r u q y
  ·exact h.d3 J u r z q y
theorem eQ.one {x:aG×List Leaf}(h:eQ st st' x.2):eQ st st' [cm x] :=
 ⟨λq y=>h.d1 q (jb y),λr u=>h.d2 r (jb u),λr u=>h.d3 r (jb u)⟩
def nI {α:Type}(st st':St)(g:Got α):Prop:=(∀ z∈g.frz,st' z.1=st z.1)/\(∀ z∈g.kill,st' z.1=st z.1)
theorem nJ {c:Bool×Ty}{l:Leaf}(Y:eQ st st' [l]):fk st' c l=fk st c l/\∀ g,fk st c l=some g->nI st st' g:=by
 unfold fk;rw[rT Y.d1];cases J:target st l with
 |none=>cases c.1 <;> exact⟨rfl,by simp⟩
 |some X =>
  have y:=Y.target J;cases hc:c.1 with
  |false =>
   have u:∀ q∈ax X,st' q=st q:=λq H=>y.1 q (fF H)
   simp only[cond_false,eK u,jl u,true_and];intro g z;simp only[B6]at z;obtain⟨_,_,rfl⟩:=z;exact⟨lm u,by simp[Got.ofRd]⟩
  |true =>
   simp only[cond_true]
   match X,y,J with
   |[],_,_=>exact⟨rfl,by simp⟩
   |_::_::_,_,_=>exact⟨rfl,by simp⟩
   |[Z],y,J =>
    simp only[rT y.1];cases I:target st Z with
    |none=>exact⟨rfl,by simp⟩
    |some O =>
     have u:∀ q∈ax O,st' q=st q:=by
      intro q H;rcases lp I q (fF H) with M|⟨r,M,h5⟩
      ·exact y.1 q M
      ·exact y.2 r M q h5
     simp only[eK u,jl u,true_and];intro g z;simp only[B6]at z;obtain⟨_,_,rfl⟩:=z;exact⟨lm u,by simp[Got.ofRd]⟩
theorem mE:∀ (cs:List (Bool×Ty)) (ls:List Leaf),(∀ l∈ls,eQ st st' [l])->cA st' cs ls=cA st cs ls/\∀ g,cA st cs ls=some g->nI st st' g
 |[],[],_=>⟨rfl,λg u=>by simp only[cA,BV]at u;subst u;exact⟨by simp,by simp⟩⟩
 |[],_::_,_=>⟨rfl,λg u=>by simp[cA]at u⟩
 |_::_,[],_=>⟨rfl,λg u=>by simp[cA]at u⟩
 |c::cs,l::ls,h=>by
  obtain⟨Y,J⟩:=nJ (c:=c) (h l (B4 ..));obtain⟨O,Z⟩:=mE cs ls (λy X=>h y (B3 _ X));simp only[cA,Y,O,true_and];intro g u;split at u
  ·rename_i g1 I;split at u
   ·rename_i g2 H;simp only[BV]at u;subst u;exact⟨λz M=>(BW.1 M).elim ((J g1 I).1 z) ((Z g2 H).1 z),by simp⟩
   ·cases u
  ·cases u
theorem oQ {c:Nat}{q:Nat}:∀ {ls:List Leaf} {c:Nat},q∈ax (aT ls c .nil)->q∈ax ls
 |[],_,h=>h
 |l::ls,0,h=>by
  rw[show aT (l::ls) 0 .nil=.nil::ls from rfl,aK,BW]at h;rw[aK,BW];rcases h with h|h
  ·simp[ax]at h
  ·exact .inr h
 |l::ls,c+1,h=>by
  rw[show aT (l::ls) (c+1) .nil=l::aT ls c .nil from rfl,aK,BW]at h;rw[aK,BW];exact h.imp id (oQ (c:=c))
theorem pw {caps:List Nat}{f:FuncId}(H:eQ st st' [.clo f caps]):∀ l∈caps.map (λb=>Leaf.bp b 0),eQ st st' [l]:=by
 intro l M;obtain⟨b,I,rfl⟩:=B9.1 M;have u:b∈az [Leaf.clo f caps]:=by simp[az,I]
 have y:∀ r∈az [Leaf.bp b 0],r=b:=λr z=>by simpa[az]using z
 exact⟨λq J=>H.d1 q (by rw[y q J];exact u),λr z=>H.d2 r (by rw[y r z];exact u),λr z=>H.d3 r (by rw[y r z];exact u)⟩
theorem nK {caps:List (Bool×Bool×(a:Ty)×a.den)}:∀ l∈caps.map eR,eQ st st' [l]:=by
 intro l z;obtain⟨c,H,rfl⟩:=B9.1 z;have:∀ q,q∉az [eR c]:=by
  intro q u;unfold eR at u;cases y:c.2.1 <;> rw[y]at u <;> simp[az]at u
 exact⟨λq u=>absurd u (this q),λq u=>absurd u (this q),λq u=>absurd u (this q)⟩
theorem eu {pk:PK}{x:aG×List Leaf}(h:eQ st st' x.2):bi st' pk x=bi st pk x/\∀ g,bi st pk x=some g->nI st st' g:=by
 have Z:∀ q∈ax x.2,st' q=st q:=λq M=>h.d1 q (fF M)
 have h1:=h.one;have H:∀ {b:Bool} {a:Ty} {g:Got a.den},(bif b then (ch st a x.2).map (λt=>(⟨t.p,t.val,t.frz,t.kill,[],[]⟩:Got a.den)) else none)=some g->nI st st' g:=by
  intro b a g u;cases b with
  |false=>simp at u
  |true =>
   simp only[cond_true,B6]at u;obtain⟨t,ht,rfl⟩:=u;obtain⟨p1,p2⟩:=ja ht;exact⟨λz I=>Z _ (p1 z I),λz I=>Z _ (p2 z I)⟩
 cases pk with
 |rd a =>
  simp only[bi,eK Z,jl Z,true_and];intro g u;cases O:decide (x.1=bk a.isAgg) with
  |false=>simp[O]at u
  |true =>
   simp only[O,cond_true,B6]at u;obtain⟨y,_,rfl⟩:=u;exact⟨lm Z,by simp[Got.ofRd]⟩
 |own a =>
  simp only[bi,gV Z,true_and];exact λg u=>H u
 |io a =>
  simp only[bi,gV Z,true_and];exact λg u=>H u
 |rref a=>exact nJ (c:=(false,a)) h1
 |rref2 a=>exact nJ (c:=(true,a)) h1
 |iop a =>
  simp only[bi];split
  ·rename_i b Y;rw[Y]at h1;have O:=h1.d1 b (by simp[az]);have h3:∀ q∈ax (bG b (st b).ver 0 (st b).ls),st' q=st q:=by
    intro q M;rcases nF _ _ _ _ _ M with rfl|M
    ·exact O
    ·exact h1.d2 b (by simp[az]) q (fF M)
   simp only[O,gV h3,true_and];intro g u;cases a0:decide ((st b).sh=.agg) with
   |false=>simp[a0]at u
   |true =>
    simp only[a0,cond_true,B6]at u;obtain⟨t,ht,rfl⟩:=u;obtain⟨p1,p2⟩:=ja ht;exact⟨λz I=>h3 _ (p1 z I),λz I=>h3 _ (p2 z I)⟩
  ·exact⟨rfl,by simp⟩
 |fn As B =>
  simp only[bi,true_and];intro g u;split at u
  ·split at u
   ·simp only[BV]at u;subst u;exact⟨by simp,by simp⟩
   ·cases u
  ·cases u
 |clo f cs =>
  simp only[bi];split
  ·rename_i f' caps Y;rw[Y]at h1;have:=mE cs _ (pw h1);rw[this.1];refine⟨rfl,λg u=>?_⟩;cases O:B7 f' f with
   |false=>simp[O]at u
   |true=>rw[O]at u;exact this.2 g u
  ·rename_i f' caps Y;have:=mE (st:=st) (st':=st') cs _ (nK (caps:=caps));rw[this.1];refine⟨rfl,λg u=>?_⟩;cases O:B7 f' f with
   |false=>simp[O]at u
   |true=>rw[O]at u;exact this.2 g u
  ·exact⟨rfl,by simp⟩
 |hol a c off =>
  simp only[bi];have X:∀ q∈ax (aT x.2 c .nil),st' q=st q:=λq M=>Z q (oQ (c:=c) M)
  rw[gV X];cases O:decide (x.1=bk a.isAgg) with
  |false=>exact⟨rfl,by simp⟩
  |true =>
   simp only[cond_true];split
   ·rename_i r j v J;have a2:x.2[c]?=some (.al r j v):=by
     rw[CD]at J;cases M:x.2[c]? with
     |none=>rw[M]at J;simp at J
     |some l0=>rw[M]at J;simp at J;rw[J]
    have hr:=λq M=>Z q (qT a2 q M)
    rw[cj hr];refine⟨rfl,λg u=>?_⟩;split at u
    ·rename_i p i o' E e xs _;cases a1:B7 o' off with
     |false=>simp[a1]at u
     |true =>
      rw[a1]at u;simp only[cond_true]at u;split at u
      ·rename_i t ht;split at u
       ·simp only[BV]at u;subst u;obtain⟨p1,p2⟩:=ja ht;refine⟨λz I=>X _ (p1 z I),λz I=>?_⟩;rcases CC.1 I with rfl|I
        ·exact hr r (by simp[ax])
        ·exact X _ (p2 z I)
       ·cases u
      ·cases u
    ·cases u
   ·exact⟨rfl,by simp⟩
theorem kz {ga ga':(pk:PK)->aG×List Leaf->Option (Got pk.den)}:∀ (ps:List PK) (xs:List (aG×List Leaf)),
  (∀ x∈xs,∀ pk,ga' pk x=ga pk x/\∀ g,ga pk x=some g->nI st st' g) ->
  bd ga' ps xs=bd ga ps xs/\∀ g,bd ga ps xs=some g->nI st st' g
 |[],[],_=>⟨rfl,λg u=>by simp only[bd,BV]at u;subst u;exact⟨by simp,by simp⟩⟩
 |[],_::_,_=>⟨rfl,λg u=>by simp[bd]at u⟩
 |_::_,[],_=>⟨rfl,λg u=>by simp[bd]at u⟩
 |p::ps,x::xs,h=>by
  obtain⟨h1,M⟩:=h x (B4 ..) p;obtain⟨Z,O⟩:=kz ps xs (λy hy=>h y (B3 _ hy));simp only[bd,h1,Z,true_and];intro g u;split at u
  ·rename_i Y I;split at u
   ·rename_i X H;simp only[BV]at u;subst u;exact⟨λz J=>(BW.1 J).elim ((M Y I).1 z) ((O X H).1 z),λz J=>(BW.1 J).elim ((M Y I).2 z) ((O X H).2 z)⟩
   ·cases u
  ·cases u
theorem tX {H:List Ty}{B:Ty}{f:FuncId}{ls:List Leaf}(h:∀ l∈ls,eQ st st' [l]):kA Γ st' H B f ls=kA Γ st H B f ls/\∀ g,kA Γ st H B f ls=some g->nI st st' g:=by
 have u:=λ (q:List PK)=>kz (st:=st) (st':=st') (ga:=bi st) (ga':=bi st') q (ls.map λl=>(aG.one,[l])) (λy O X=>by
  obtain⟨l,M,rfl⟩:=B9.1 O;exact eu (h l M))
 unfold kA;split
 ·rename_i c Y;unfold sk;simp only[uT,(u _).1,true_and];intro g z;split at z
  ·cases J:(c.ps.drop H.length).all PK.reads&&B.flat&&c.fresh with
   |false=>simp[J]at z
   |true =>
    simp only[J,cond_true]at z;split at z
    ·rename_i g0 I;simp only[BV]at z;subst z;exact⟨((u _).2 g0 I).1,by simp⟩
    ·cases z
  ·cases z
 ·exact⟨rfl,by simp⟩
theorem wT {pk:PK}{x:aG×List Leaf}(h:eQ st st' x.2):cd Γ st' pk x=cd Γ st pk x/\∀ g,cd Γ st pk x=some g->nI st st' g:=by
 cases pk with
 |fn O B =>
  simp only[cd];split
  ·rename_i z y;have H:(∃ u,cm x=.clo z.1 u/\z.2=u.map λb=>Leaf.bp b 0)\/∃ u,cm x=.clr z.1 u/\z.2=u.map eR:=by
    generalize cm x=l at y;cases l <;> simp only[vI,BV,reduceCtorEq]at y
    ·subst y;exact .inl ⟨_,rfl,rfl⟩
    ·subst y;exact .inr ⟨_,rfl,rfl⟩
   have J:=h.one;rcases H with ⟨u,H,I⟩|⟨u,H,I⟩
   ·rw[H]at J;rw[I];exact tX (pw J)
   ·rw[I];exact tX nK
  ·exact eu h
 |rd a=>exact eu (pk:=.rd a) h
 |own a=>exact eu (pk:=.own a) h
 |io a=>exact eu (pk:=.io a) h
 |rref a=>exact eu (pk:=.rref a) h
 |rref2 a=>exact eu (pk:=.rref2 a) h
 |iop a=>exact eu (pk:=.iop a) h
 |clo f M=>exact eu (pk:=.clo f M) h
 |hol a c off=>exact eu (pk:=.hol a c off) h
theorem tY:∀ (u ls:List Leaf),st' EPO=st EPO->(∀ q∈az u,st' q=st q)->b8 st' u ls=b8 st u ls
 |[],_,_,_=>by simp[b8]
 |x::u,[],_,_=>by cases x <;> simp[b8]
 |x::u,l::ls,y,h=>by
  have z:=tY u ls y (λq H=>h q (by rw[dw];exact BZ _ H));cases x with
  |al r j v =>
   have I:st' r=st r:=h r (by simp[az]);simp only[b8,z,bo I,bo y]
  |_=>simp only[b8,z]
theorem qq {p:Bool}:∀ (ps:List PK) (xs:List (aG×List Leaf)) (y:ah ps),st' EPO=st EPO->(∀ x∈xs,∀ q∈az x.2,st' q=st q)->aF st' p ps xs y=aF st p ps xs y
 |[],_,_,_,_=>by simp[aF]
 |I::ps,[],y,_,h=>by cases I <;> simp[aF]
 |I::ps,x::xs,y,O,h=>by
  have J:=λ (y:ah ps)=>qq (p:=p) ps xs y O (λz Y=>h z (B3 _ Y))
  have X:=h x (B4 ..);cases I with
  |io a =>
   simp only[aF,J];rw[tY x.2 _ (bo O _) (λq u=>bo (X q u) _)]
  |iop a =>
   simp only[aF,J];have M:∀ q∈az [cm x],st' q=st q:=λq u=>X q (jb u)
   congr 1;split
   ·rename_i b v H;rw[H]at M;rw[bo (M b (by simp[az]))]
   ·rfl
  |_=>exact J _
theorem qr {n q:Nat}:∀ {ls:List Leaf} {k:Nat},q∈az (aT ls k (.al TMP 0 n))->q∈az ls\/q=TMP
 |[],_,h=>.inl h
 |l::ls,0,h=>by
  rw[show aT (l::ls) 0 (.al TMP 0 n)=.al TMP 0 n::ls from rfl,dw,BW]at h;rw[dw,BW];rcases h with h|h
  ·simp[az]at h;exact .inr h
  ·exact .inl (.inr h)
 |l::ls,k+1,h=>by
  rw[show aT (l::ls) (k+1) (.al TMP 0 n)=l::aT ls k (.al TMP 0 n) from rfl,dw,BW]at h;rw[dw,BW];rcases h with h|h
  ·exact .inl (.inl h)
  ·exact (qr h).imp .inr id
theorem pz {U:Upd}{J ls:List Leaf}(hT:st' TMP=st TMP)(u:∀ q,q≠TMP->∀ z∈az (ac U st q).ls,z∈az (st q).ls)(Y:az (ac U st TMP).ls=[])(hx:eQ st st' J)(I:∀ q∈az ls,q∈az J\/q=TMP) :
  eQ (ac U st) (ac U st') ls:=by
 have H:∀ r z,z∈az (ac U st r).ls->r≠TMP:=λr z hz e=>by subst e;rw[Y]at hz;simp at hz
 refine⟨λq y=>?_,λr Z q y=>?_,λr Z M X q y=>?_⟩
 ·rcases I q y with h|h
  ·exact bo (hx.d1 q h) U
  ·subst h;exact bo hT U
 ·have O:=H r q y;exact bo (hx.d2 r ((I r Z).resolve_right O) q (u r O q y)) U
 ·have O:=H r M X;have h2:=H M q y;exact bo (hx.d3 r ((I r Z).resolve_right O) M (u r O M X) q (u M h2 q y)) U
theorem oR (hT:st' TMP=st TMP)(hE:st' EPO=st EPO):∀ (ps:List PK) (xs:List (aG×List Leaf)),(∀ x∈xs,eQ st st' x.2)->cY st' ps xs=cY st ps xs /\
  ∀ (U:Upd) (X:List (aG×List Leaf)) (b:Option (Bool×Nat×Nat)),cY st ps xs=some (U,X,b)->(∀ y∈X,eQ (ac U st) (ac U st') y.2)/\(∀ f r j,b=some (f,r,j)->st' r=st r)/\∀ ls,eQ st st' ls->eQ (ac U st) (ac U st') ls
 |[],xs,h=>⟨rfl,λU X b z=>by
   simp only[cY,BV,CG]at z;obtain⟨rfl,rfl,rfl⟩:=z;exact⟨h,(λ_ _ _ h=>by cases h),λ_ h=>h⟩⟩
 |_::_,[],h=>⟨rfl,λU X b z=>by
   simp only[cY,BV,CG]at z;obtain⟨rfl,rfl,rfl⟩:=z;exact⟨h,(λ_ _ _ h=>by cases h),λ_ h=>h⟩⟩
 |p::ps,x::xs,h=>by
  have hx:=h x (B4 ..);obtain⟨i1,i2⟩:=oR hT hE ps xs (λy M=>h y (B3 _ M));simp only[cY];cases hk:p.nest x.2 with
  |none =>
   simp only[i1,true_and];intro U X b z;simp only[B6]at z;obtain⟨u,O,z⟩:=z;simp only[CG]at z;obtain⟨rfl,rfl,rfl⟩:=z;obtain⟨j1,j2,j3⟩:=i2 u.1 u.2.1 u.2.2 O;refine⟨λy M=>?_,j2,j3⟩;rcases CC.1 M with rfl|M
   ·exact j3 _ hx
   ·exact j1 y M
  |some k =>
   obtain⟨l,Y,a0⟩:=rL hk;have hg:x.2.getD k .dead=l:=by rw[CD,Y];rfl
   have Z:∀ q∈ax [l],st' q=st q:=λq J=>hx.d1 q (fF (qT Y q J))
   simp only[hg,qp hT hE Z,true_and];intro U X b z;simp only[B6]at z;obtain⟨u,O,z⟩:=z;simp only[CG]at z;obtain⟨rfl,rfl,rfl⟩:=z;obtain⟨n,e1,H⟩:=oP (U:=u.1) (l':=u.2) O;have I:=uQ (U:=u.1) (l':=u.2) O;refine⟨λy M=>?_,λf r j hb=>?_,λls a1=>pz hT H I a1 (λq J=>.inl J)⟩
   ·rcases CC.1 M with rfl|M
    ·refine pz hT H I hx λq J=>?_
     have J:q∈az (aT x.2 k u.2):=J;rw[e1]at J;exact qr J
    ·exact pz hT H I (h y (B3 _ M)) (λq J=>.inl J)
   ·simp only[BV,CG]at hb;have hr:r=(ke l).1:=by rw[hb.2]
    rw[hr];refine Z _ ?_;cases l with
    |nal p ks ep a2 E e xs =>
     cases ks with
     |nil =>
      exfalso;simp only[cl]at O;cases hv:br st [] ep <;> simp[hv]at O
     |cons k ks=>rw[iw];simp[ke]
    |_=>simp[jr]at a0
theorem zD {b:Option (Bool×Nat×Nat)}{U:Upd}(z:st' TMP=st TMP)(u:st' EPO=st EPO)(y:∀ f r j,b=some (f,r,j)->st' r=st r):jU st' b U κ=jU st b U κ:=by
 unfold jU;split
 ·rename_i r j;rw[bo (y true r j rfl),bo z,bo u]
 ·rfl
theorem tZ {d:Nat}{f:FuncId}{xs:List (aG×List Leaf)}(hT:st' TMP=st TMP)(X:st' EPO=st EPO)(hx:∀ x∈xs,eQ st st' x.2)(hd:st' d=st d)(hB:st' (B0+d)=st (B0+d)):js Γ st' d f xs κ=js Γ st d f xs κ:=by
 unfold js;split
 ·rename_i c hc;obtain⟨n1,n2⟩:=oR hT X c.ps xs hx;rw[gG,gG,n1];cases hn:cY st c.ps xs with
  |none=>rfl
  |some u =>
   obtain⟨H,O,b⟩:=u;obtain⟨m1,m2,_⟩:=n2 H O b hn;simp only[Ca];have hg:=kz (st:=ac H st) (st':=ac H st') (ga:=cd Γ (ac H st)) (ga':=cd Γ (ac H st')) c.ps O (λx I pk=>wT (m1 x I));simp only[oW,hg.1];split
   ·rename_i g a3;obtain⟨h1,h2⟩:=hg.2 g a3;have J:gL st' d c.rs=gL st d c.rs:=by
     unfold gL;split
     ·rw[hB]
     ·rfl
    have hL:∀ q,ac H st' q=ac H st q->∀ U,ac (U++H) st' q=ac (U++H) st q:=λq h U=>by rw[bB,bB];exact bo h U
    have a0:(bif c.fresh then [] else aE (ac H st') g.frz)=(bif c.fresh then [] else aE (ac H st) g.frz):=by rw[kj h1]
    have hk:∀ (U:Upd),aM (ac U (ac H st')) g.kill=aM (ac U (ac H st)) g.kill:=λU=>iy (λz Y=>bo (h2 z Y) U)
    have ho:∀ (U:Upd) (p:Bool) (y:ah c.ps),aF (ac (U++H) st') p c.ps O y=aF (ac (U++H) st) p c.ps O y:=λU p y =>
     qq c.ps O y (hL _ (bo X H) U) (λx I q hq=>hL _ ((m1 x I).d1 q hq) U)
    have M:∀ (U:Upd),(g.frz.map λk=>(k.1,k.2,(ac (U++H) st' k.1).ver))=g.frz.map λk=>(k.1,k.2,(ac (U++H) st k.1).ver):=λU=>DA λz Y=>by rw[hL _ (h1 z Y) U]
    have Z:∀ U,ac U st' d=ac U st d:=λU=>bo hd U
    have a2:∀ U,ac U st' (B0+d)=ac U st (B0+d):=λU=>bo hB U
    have a1:∀ U,ac U st' EPO=ac U st EPO:=λU=>bo X U
    simp only[J,a0,hk,ho,Z,a2,a1,<- CS,M,zD hT X m2]
   ·rfl
 ·rfl
theorem rU:∀ (u:List Ty) (xs:List (aG×List Leaf)),(∀ x∈xs,∀ q∈ax x.2,st' q=st q)->iQ st' u xs=iQ st u xs
 |[],[],_=>rfl
 |[],_::_,_=>rfl
 |_::_,[],_=>rfl
 |a::u,x::xs,h=>by
  simp only[iQ,eK (h x (B4 ..)),rU u xs (λy z=>h y (B3 _ z))]
theorem wU {r j i off n:Nat}{p:Bool}{E:TypeId}{e:Ty}{xs:List e.den}{h:Option (Nat×Nat)}{ls:List Leaf}(M:st' r=st r)(O:st' EPO=st EPO)(H:∀ q∈ax ls,st' q=st q):gM st' r j i off n p E e xs h ls κ=gM st r j i off n p E e xs h ls κ:=by
 unfold gM;congr 1;funext u;rw[pu e 0 u ls H];split
 ·rename_i t X;obtain⟨Z,Y⟩:=pv e 0 u ls t X;have J:aE st' t.frz=aE st t.frz:=kj (λz y=>H _ (Z z y));have I:∀ U:Upd,aM (ac U st') t.kill=aM (ac U st) t.kill:=λU=>iy (λz y=>bo (H _ (Y z y)) U)
  simp only[J,I,M,bo O]
 ·rfl
end
section
variable {P:Program} {V:Env} {Γ:List Ctr} {T:TypeId->TI} {st st':St} {o:Oper} {R:Type} {κ:Upd->Option R} {r:R}
theorem dx {H:List Nat}(h:∀ q∈H++H.flatMap (λt=>ax (st t).ls),st' q=st q){x:Operand}(z:∀ t,x=.tmp t->t∈H):(∀ t,x=.tmp t->st' t=st t)/\∀ q∈ax (au st x).2,st' q=st q:=by
 refine⟨λt y=>h t (BY _ (z t y)),λq u=>?_⟩;obtain⟨t,y,u⟩:=rQ u;rcases u with rfl|u
 ·exact h q (BY _ (z q y))
 ·exact h q (BZ _ (CH.2 ⟨t,z t y,u⟩))
theorem nL {H:List Nat}(h:∀ q∈H++H.flatMap (λt=>az (st t).ls),st' q=st q){x:Operand}(z:∀ t,x=.tmp t->t∈H):(∀ t,x=.tmp t->st' t=st t)/\∀ q∈az (au st x).2,st' q=st q:=by
 refine⟨λt y=>h t (BY _ (z t y)),λq u=>?_⟩;obtain⟨t,y,u⟩:=rR u;rcases u with rfl|u
 ·exact h q (BY _ (z q y))
 ·exact h q (BZ _ (CH.2 ⟨t,z t y,u⟩))
theorem qs {y:List Nat}(h:∀ q∈kE st y,st' q=st q){x:Operand}(Z:∀ t,x=.tmp t->t∈y):eQ st st' (au st x).2:=by
 have J:∀ q,q∈y->st' q=st q:=λq u=>h q (by simp[kE];exact .inl u)
 have X:∀ q,q∈y.flatMap (λt=>az (st t).ls)->st' q=st q:=λq u=>h q (by
  unfold kE;exact BY _ (BY _ (BZ _ u)))
 have hb:∀ q,q∈(y.flatMap (λt=>az (st t).ls)).flatMap (λt=>az (st t).ls)->st' q=st q:=λq u=>h q (by
  unfold kE;exact BY _ (BZ _ u))
 have hc:∀ q,q∈((y.flatMap (λt=>az (st t).ls)).flatMap (λt=>az (st t).ls)).flatMap (λt=>az (st t).ls)->st' q=st q:=λq u=>h q (by
  unfold kE;exact BZ _ u)
 have l1:∀ r∈az (au st x).2,r∈y\/r∈y.flatMap (λt=>az (st t).ls):=by
  intro r z;obtain⟨t,O,u⟩:=rR z;rcases u with rfl|u
  ·exact .inl (Z r O)
  ·exact .inr (CH.2 ⟨t,Z t O,u⟩)
 have Y:∀ r∈az (au st x).2,∀ q∈az (st r).ls,q∈y.flatMap (λt=>az (st t).ls)\/q∈(y.flatMap (λt=>az (st t).ls)).flatMap (λt=>az (st t).ls):=by
  intro r z q u;rcases l1 r z with H|H
  ·exact .inl (CH.2 ⟨r,H,u⟩)
  ·exact .inr (CH.2 ⟨r,H,u⟩)
 refine⟨λq u=>(l1 q u).elim (J q) (X q),λr z q u=>(Y r z q u).elim (X q) (hb q),λr z I M q u=>?_⟩;rcases Y r z I M with H|H
 ·exact hb q (CH.2 ⟨I,H,u⟩)
 ·exact hc q (CH.2 ⟨I,H,u⟩)
theorem bh {xs:Array Operand}{x:Operand}(h:x∈xs):∀ t,x=.tmp t->t∈iC xs.toList:=λt e=>rP (by rw[<- e];simpa using h)
theorem op_fr (h:∀ q∈fp st o,st' q=st q)(z:∀ x,o.op≠.move x)(H:∀ t x i,o.op≠.indexAddr t x i):∀ q∈cn st o.op,st' q=st q:=λq y=>h q (by
 unfold fp;refine BY _ ?_;cases u:o.op with
 |move x=>exact absurd u (z x)
 |indexAddr t x i=>exact absurd u (H t x i)
 |_=>rw[u]at y;exact y)
theorem AT {α β:Type}{xs:List α}{n:Int}{K:Option β}:((idx xs n).bind λ_=>K)=if 0<=n/\n<xs.length then K else none:=by
 unfold idx;by_cases u:n<0
 ·rw[if_pos u,if_neg (by omega)];rfl
 ·rw[if_neg u];by_cases y:n.toNat<xs.length
  ·rw[CF y,if_pos (by omega)];rfl
  ·rw[C4 (by omega),if_neg (by omega)];rfl
theorem BK (h:∀ q∈fp st o,st' q=st q)(hh:∀ q∈eX st o.op,bL (st' q)=bL (st q)):act Γ T o st' κ=act Γ T o st κ:=by
 have M:=op_fr h;have a0:∀ (U:Upd) (d:Nat) (sh:aG) (ls:List Leaf),o.dst=some d->ck st' U d sh ls=ck st U d sh ls:=λU d sh ls hd=>vw (tW hd h).1
 have hB:∀ d,o.dst=some d->st' (B0+d)=st (B0+d):=λd hd=>(tW hd h).2
 have hw:∀ (sh:aG) (ls:List Leaf),wrU o st' κ sh ls=wrU o st κ sh ls:=by
  intro sh ls;unfold wrU;split
  ·rename_i d hd;rw[a0 _ _ _ _ hd]
  ·rfl
 cases I:o.op with
 |move x =>
  simp only[I,eX]at hh;have e:au st' x=au st x:=yk λt Y=>hh t (bh (by simp[Op.operands]) t Y)
  simp only[act,I,e,hw]
 |assign x =>
  have H:=M (by simp[I]) (by simp[I]);simp only[I,cn]at H;have J:=dx H (x:=x) (bh (by simp[Op.operands]));have e:au st' x=au st x:=dV J.1;simp only[act,I,e,qW J.2,pt J.2,tT J.2];split
  ·rename_i d hd;rw[a0 _ _ _ _ hd]
  ·rfl
 |pick c x y =>
  have H:=M (by simp[I]) (by simp[I]);simp only[I,cn]at H;have e1:one st' c=one st c:=dF λt Y=>H t (bh (by simp[Op.operands]) t Y)
  have e2:au st' x=au st x:=dV λt Y=>H t (bh (by simp[Op.operands]) t Y)
  have e3:au st' y=au st y:=dV λt Y=>H t (bh (by simp[Op.operands]) t Y)
  simp only[act,I,e1,e2,e3,hw]
 |alloc t =>
  simp only[act,I];split
  ·rename_i d hd;rw[a0 _ _ _ _ hd,hB d hd]
  ·rfl
 |box t x =>
  have H:=M (by simp[I]) (by simp[I]);simp only[I,cn]at H;have J:=dx H (x:=x) (bh (by simp[Op.operands]));have e:au st' x=au st x:=dV J.1;have b1:sA st' x=sA st x:=by cases x <;> first|rfl|(simp only[sA];rw[J.1 _ rfl])
  simp only[act,I,e,qW J.2,pt J.2,tT J.2,b1];split
  ·rename_i d hd;simp only[a0 _ _ _ _ hd,hB d hd,bo (hB d hd)]
  ·rfl
 |build t a2 =>
  have H:=M (by simp[I]) (by simp[I]);simp only[I,cn]at H;have hb:∀ a5 ls,fm st' a5 a2.toList ls=fm st a5 a2.toList ls:=λa5 ls=>qo _ _ (λx J t Y=>H t (bh (by simp only[Op.operands,DM,B9];exact⟨x,J,rfl⟩) t Y))
  simp only[act,I,hw,hb]
 |buildSlice t n a2 =>
  have H:=M (by simp[I]) (by simp[I]);simp only[I,cn]at H;have J:∀ x∈a2.toList,(∀ t,x.2=.tmp t->st' t=st t)/\∀ q∈ax (au st x.2).2,st' q=st q:=λx J =>
   dx H (bh (by simp only[Op.operands,DM,B9];exact⟨x,J,rfl⟩))
  simp only[act,I];split
  ·rw[oN _ _ J];split
   ·rename_i u c0;have c1:=oO _ _ _ c0;have b2:∀ z,z∈u.frz\/z∈u.kill->st' z.1=st z.1:=λz hz=>by
     obtain⟨x,bl,bx⟩:=c1 z hz;exact (J x bl).2 _ bx
    have e1:aE st' u.frz=aE st u.frz:=kj λz hz=>b2 z (.inl hz)
    have e2:∀ U:Upd,aM (ac U st') u.kill=aM (ac U st) u.kill:=λU=>iy (λz hz=>bo (b2 z (.inr hz)) U)
    simp only[e1,e2];congr 1;split
    ·rename_i d hd;rw[a0 _ _ _ _ hd]
    ·rfl
   ·rfl
  ·rfl
 |load t x =>
  have H:=M (by simp[I]) (by simp[I]);simp only[I,cn]at H;have J:=nL H (x:=x) (bh (by simp[Op.operands]));have e:one st' x=one st x:=dF J.1;have X:∀ q∈az [one st x],st' q=st q:=λq O=>J.2 q (tU O)
  simp only[act,I,e,hw];congr 1;split
  ·rfl
  ·rename_i b off Z;rw[Z]at X;rw[X b (by simp[az])]
  ·rfl
  ·rename_i p ks ep a y off Z;rw[Z]at X;rw[jI (λq O=>X q (by simpa[az]using O))]
  ·rename_i r j v i sz off Z;rw[Z]at X;rw[cj (l:=.al r j v) (λq O=>X q (by simp[ax]at O;simp[az,O])),X EPO (by simp[az])]
  ·rfl
 |store t x y =>
  have H:=M (by simp[I]) (by simp[I]);simp only[I,cn]at H;have J:=nL H (x:=x) (bh (by simp[Op.operands]));have hy:=nL H (x:=y) (bh (by simp[Op.operands]));have e:one st' x=one st x:=dF J.1;have e2:au st' y=au st y:=dV hy.1;have X:∀ q∈az [one st x],st' q=st q:=λq O=>J.2 q (tU O)
  have a9:∀ q∈ax (au st y).2,st' q=st q:=λq O=>hy.2 q (fF O)
  simp only[act,I,e,e2,qW a9,pt a9,tT a9];split
  ·rfl
  ·congr 1;split
   ·rename_i b off Z;rw[Z]at X;have hb:=X b (by simp[az]);simp only[hb,bo hb]
   ·rename_i r j v i sz off Z;rw[Z]at X;have b9:=X r (by simp[az]);rw[cj (l:=.al r j v) (λq O=>X q (by simp[ax]at O;simp[az,O]))];split
    ·rw[wU b9 (X EPO (by simp[az])) a9]
    ·rfl
   ·rfl
 |nilCheck x =>
  have H:=M (by simp[I]) (by simp[I]);simp only[I,cn]at H;have J:=dx H (x:=x) (bh (by simp[Op.operands]));have e:one st' x=one st x:=dF J.1;have X:∀ q∈ax [one st x],st' q=st q:=λq O=>J.2 q (jo O)
  simp only[act,I,e,hw];split
  ·rfl
  ·rfl
  ·rename_i r j v i sz off Z;rw[Z]at X;rw[X r (by simp[ax])]
  ·rfl
  ·rename_i p ks ep a y off Z;rw[Z,vv]at X;rw[jI X]
  ·rfl
 |binOp op t x y t' =>
  have H:=M (by simp[I]) (by simp[I]);simp only[I,cn]at H;have J:=dx H (x:=x) (bh (by simp[Op.operands]));have hy:=dx H (x:=y) (bh (by simp[Op.operands]));have e1:one st' x=one st x:=dF J.1;have e2:one st' y=one st y:=dF hy.1;have e3:au st' x=au st x:=dV J.1;have e4:au st' y=au st y:=dV hy.1;simp only[act,I,e1,e2,e3,e4,hw,eK J.2,eK hy.2]
 |unOp op t x =>
  have H:=M (by simp[I]) (by simp[I]);simp only[I,cn]at H;have e1:one st' x=one st x:=dF λt Y=>H t (bh (by simp[Op.operands]) t Y)
  simp only[act,I,e1,hw]
 |convert s t x =>
  have H:=M (by simp[I]) (by simp[I]);simp only[I,cn]at H;have J:=dx H (x:=x) (bh (by simp[Op.operands]));have e1:one st' x=one st x:=dF J.1;have X:∀ q∈ax [one st x],st' q=st q:=λq O=>J.2 q (jo O)
  simp only[act,I,e1,hw];split
  ·rfl
  ·rw[cj X]
  ·rfl
  ·rfl
 |makeSlice t n c =>
  have H:=M (by simp[I]) (by simp[I]);simp only[I,cn]at H;have e1:one st' n=one st n:=dF λt Y=>H t (bh (by simp[Op.operands]) t Y)
  have e2:one st' c=one st c:=dF λt Y=>H t (bh (by simp[Op.operands]) t Y)
  simp only[act,I,e1,e2,hw]
 |slice t x lo hi mx =>
  have H:=M (by simp[I]) (by simp[I]);simp only[I,cn]at H;have hE:=H EPO (B4 ..);have H:=λq O=>H q (B3 _ O)
  have J:=dx H (x:=x) (bh (by simp[Op.operands]));have c3:∀ n,di st' lo n=di st lo n:=λn=>nH λy hy t Y=>H t (BY _ (bh (by simp[Op.operands,hy]) t Y))
  have c2:∀ n,di st' hi n=di st hi n:=λn=>nH λy hy t Y=>H t (BY _ (bh (by simp[Op.operands,hy]) t Y))
  have e:one st' x=one st x:=dF J.1;have X:∀ q∈ax [one st x],st' q=st q:=λq O=>J.2 q (jo O)
  have ba:∀ m,mx=some m->di st' (some m) 0=di st (some m) 0:=λm hm=>nH λy hy t Y=>H t (BY _ (bh (by simp[Op.operands,hm,DR hy]) t Y))
  simp only[act,I,e,c3,c2,cj X,hE];cases hd:o.dst with
  |none=>cases mx <;> rfl
  |some d =>
   cases mx with
   |none=>simp only[a0 _ _ _ _ hd]
   |some m =>
    simp only[ba m rfl];split
    ·rename_i r j v _ Z _;rw[Z]at X;rw[cj X,iy (st:=st) (st':=st') (λz hz=>by simp at hz;subst hz;exact X _ (by simp[ax]))];simp only[a0 _ _ _ _ hd]
    ·rfl
 |fieldAddr t x f =>
  have H:=M (by simp[I]) (by simp[I]);simp only[I,cn]at H;have J:=dx H (x:=x) (bh (by simp[Op.operands]));have e:one st' x=one st x:=dF J.1;have X:∀ q∈ax [one st x],st' q=st q:=λq O=>J.2 q (jo O)
  simp only[act,I,e,hw];split
  ·split
   ·split
    ·rfl
    ·rfl
    ·rename_i r j v i sz off Z;rw[Z]at X;rw[X r (by simp[ax])]
    ·rename_i p ks ep a y o' Z;rw[Z,vv]at X;rw[jI X]
    ·rfl
   ·rfl
  ·rfl
 |field t x f =>
  have H:=M (by simp[I]) (by simp[I]);simp only[I,cn]at H;have e1:au st' x=au st x:=dV λt Y=>H t (bh (by simp[Op.operands]) t Y)
  simp only[act,I,e1,hw]
 |indexAddr t x i =>
  simp only[I,eX]at hh;have b5:∀ y∈(Op.indexAddr t x i).operands,∀ t,y=.tmp t->bL (st' t)=bL (st t):=λy hy t Y=>hh t (BY _ (bh hy t Y))
  have e:one st' x=one st x:=zW (b5 x (by simp[Op.operands]));have e2:one st' i=one st i:=zW (b5 i (by simp[Op.operands]));have X:∀ q∈ax [one st x],bL (st' q)=bL (st q):=λq O=>by
   obtain⟨t',bb,O⟩:=rQ (jo O);have a6:=bh (xs:=(Op.indexAddr t x i).operands) (x:=x) (by simp[Op.operands]) t' bb;rcases O with rfl|O
   ·exact hh q (BY _ a6)
   ·exact hh q (BZ _ (CH.2 ⟨t',a6,O⟩))
  simp only[act,I,e,e2,hw];split
  ·split
   ·rfl
   ·split
    ·rename_i r j v Z;rw[Z]at X;have O:=X r (by simp[ax]);have hv:(st' r).ver=(st r).ver:=by simp only[bL,CG]at O;exact O.1
     simp only[aD,hv];cases B7 (st r).ver v with
     |false=>rfl
     |true =>
      simp only[cond_true];rcases tV (yl O j) with e3|⟨p,p',h1,h2,E1,E2,e',c5,xs,c6,e3,e4,e5,e6⟩
      ·rw[e3]
      ·rw[e3,e4];simp only[pG,e5,AT,e6]
    ·rfl
    ·rename_i p ks ep c4 E' e' xs Z;rw[Z,iw]at X;rw[zC X]
    ·rfl
   ·rfl
  ·rfl
 |index t x i =>
  have H:=M (by simp[I]) (by simp[I]);simp only[I,cn]at H;have J:=dx H (x:=x) (bh (by simp[Op.operands]));have e1:one st' x=one st x:=dF J.1;have e2:one st' i=one st i:=dF (dx H (x:=i) (bh (by simp[Op.operands]))).1;have e3:au st' x=au st x:=dV J.1;simp only[act,I,e1,e2,e3,hw,λe n=>nE (e:=e) n _ J.2]
 |extract x i =>
  have H:=M (by simp[I]) (by simp[I]);simp only[I,cn]at H;have e1:au st' x=au st x:=dV λt Y=>H t (bh (by simp[Op.operands]) t Y)
  simp only[act,I,e1,hw]
 |makeFunc fn first a3 =>
  have H:=M (by simp[I]) (by simp[I]);simp only[I,cn]at H;cases fn with
  |func f =>
   have:sD st' a3.toList=sD st a3.toList:=vz (st:=st) (st':=st') a3.toList (some []) (λx J t Y=>H t (bh (by simp[Op.operands];exact .inr (by simpa using J)) t Y));simp only[act,I,hw,this]
  |_=>simp only[act,I]
 |call c =>
  have H:=M (by simp[I]) (by simp[I]);simp only[I,cn]at H;simp only[act,I];split
  ·rfl
  ·rename_i d hd;obtain⟨b0,b4⟩:=tW hd h;cases hc:c.callee with
   |value f =>
    simp only[hc]at H;have hT:=H TMP (B4 ..);have hE:=H EPO (B3 _ (B4 ..));have H:=λq O=>H q (B3 _ (B3 _ O))
    have b3:f∈(Op.call c).operands:=by simp[Op.operands,Call.operands,hc]
    have ad:∀ x∈c.args.toList,x∈(Op.call c).operands:=λx J=>by
     simp only[Op.operands,Call.operands,hc,DN];exact .inr (by simpa using J)
    have a6:∀ x∈(Op.call c).operands,∀ t,x=.tmp t->st' t=st t:=λx J t Y=>H t (by
     unfold kE;exact BY _ (BY _ (BY _ (bh J t Y))))
    have e1:one st' f=one st f:=dF (a6 f b3);have e2:c.args.toList.map (au st')=c.args.toList.map (au st):=DA λx J=>dV (a6 x (ad x J))
    have a4:∀ x∈c.args.toList.map (au st),eQ st st' x.2:=by
     intro x J;obtain⟨y,hy,rfl⟩:=B9.1 J;exact qs H (bh (ad y hy))
    simp only[e1,e2];split
    ·rename_i g a3 Z;refine tZ hT hE ?_ b0 b4;intro x J;rcases BW.1 J with J|J
     ·exact a4 x J
     ·obtain⟨b,hb,rfl⟩:=B9.1 J;have hf:=qs H (bh b3);rw[qX Z (by simp)]at hf;exact pw hf _ (B9.2 ⟨b,hb,rfl⟩)
    ·rename_i g a3 Z;refine tZ hT hE ?_ b0 b4;intro x J;rcases BW.1 J with J|J
     ·exact a4 x J
     ·obtain⟨cp,bn,rfl⟩:=B9.1 J;exact nK _ (B9.2 ⟨cp,bn,rfl⟩)
    ·rename_i As B φ Z;rw[rU As _ (λx J q O=>(a4 x J).d1 q (fF O))];simp only[hw]
    ·rfl
   |builtin b =>
    simp only[hc]at H;have hT:=H TMP (B4 ..);have H:=λq O=>H q (B3 _ O)
    have ad:∀ x∈c.args.toList,x∈(Op.call c).operands:=λx J=>by
     simp only[Op.operands,Call.operands,hc,DN];exact .inr (by simpa using J)
    have J:∀ x∈c.args.toList,one st' x=one st x/\∀ q∈ax [one st x],st' q=st q:=λx J=>by
     have:=dx H (bh (ad x J));exact⟨dF this.1,λq O=>this.2 q (jo O)⟩
    cases b with
    |len =>
     dsimp only;split
     ·rename_i x a1;have h1:=J x (by rw[a1];simp);simp only[h1.1,cj h1.2,hw]
     ·rfl
    |append =>
     dsimp only;split
     ·rename_i x y t u a1 _;have h1:=J x (by rw[a1];simp);have h2:=J y (by rw[a1];simp);split
      ·rw[h1.1,h2.1,wS hT h1.2 h2.2 b0]
      ·rfl
     ·rfl
    |min =>
     dsimp only;split
     ·rename_i x y a1;rw[(J x (by rw[a1];simp)).1,(J y (by rw[a1];simp)).1];simp only[hw]
     ·rfl
    |max =>
     dsimp only;split
     ·rename_i x y a1;rw[(J x (by rw[a1];simp)).1,(J y (by rw[a1];simp)).1];simp only[hw]
     ·rfl
    |_=>rfl
   |invoke x n=>rfl
 |_=>simp only[act,I]
end
section
variable {P:Program} {V:Env} {Γ:List Ctr} {T:TypeId->TI} {st st':St} {o:Oper} {R:Type} {all:Array Oper}
def mF (Γ:List Ctr)(T:TypeId->TI)(all:Array Oper)(o:Oper)(st:St)(U:Upd):Prop :=
 match o.guard with
 |none=>act Γ T o st some=some U
 |some (j,r)=>∃ t,(all[j]?).bind (·.dst)=some t /\
  ((∃ b,(st t).sh=.one/\(st t).ls=[.bool b]/\((b=r/\act Γ T o st some=some U)\/(b≠r/\U=eM st o)))\/((st t).sh=.und/\U=eM st o))
def jJ (Γ:List Ctr)(T:TypeId->TI)(all:Array Oper)(o:Oper)(st:St)(U:Upd)(t:cL):Prop :=
 ((∀ q∈U.map (·.1),q∈t.wr\/q∈t.cw)/\(∀ q∈t.wr,q∈U.map (·.1))/\∀ q,q∈U.map (·.1)->q∉t.wr->bL (ac U st q)=bL (st q))/\match o.guard with
 |none=>act Γ T o st some=some U/\(∀ q∈fp st o,q∈t.rd)/\∀ q∈eX st o.op,q∈t.hd
 |some (j,r)=>∃ s,(all[j]?).bind (·.dst)=some s/\s∈t.rd /\
  ((∃ b,(st s).sh=.one/\(st s).ls=[.bool b]/\((b=r/\act Γ T o st some=some U/\(∀ q∈fp st o,q∈t.rd)/\∀ q∈eX st o.op,q∈t.hd)\/(b≠r/\U=eM st o/\∀ d,o.dst=some d->d∈t.wr))) \/
   ((st s).sh=.und/\U=eM st o/\∀ d,o.dst=some d->d∈t.wr))
theorem ua {α:Type}:∀ {l:List α} {j:Nat} {x:α},l[j]?=some x->l.set j x=l
 |[],_,_,h=>by simp at h
 |y::l,0,x,h=>by simp at h;subst h;rfl
 |y::l,j+1,x,h=>by rw[DG,ua (by simpa using h)]
theorem AU {U:Upd}(h:act Γ T o st some=some U):∀ q∈d6 st o,bL (ac U st q)=bL (st q):=by
  intro q u;unfold d6 at u;split at u
  · rename_i t x y J
    split at u
    · rename_i r j a1 i sz off hx
      simp only[CV]at u;subst u;simp only[act,wrU,J]at h;split at h
      · cases h
      · cases hb:B7 (au st y).2.length (T t).cells&&decide ((au st y).1=bk (T t).agg)&&!decide ((T t).cells=0) with
        |false=>simp[hb]at h
        |true =>
          simp only[hb,cond_true,hx]at h;split at h
          · rename_i p hh E e xs hd
            cases hc:B7 sz e.cells&&decide (off+(au st y).2.length<=e.cells)&&sl q with
            |false=>simp[hc]at h
            |true =>
              simp only[hc,cond_true]at h;obtain⟨_,hl⟩:=fa hd (by simp);have z:∀ (Y:Bool) (I:Option (Nat×Nat)) (v:e.den) (X:Upd),bL (ac ((q,⟨(st q).ver,(st q).sh,aT (st q).ls j (.own Y I E e (xs.set i v))⟩)::X) st q)=bL (st q):=by
                intro Y I v X;rw[aQ,bm];simp only[bL,aT];rw[List.map_set,ua];rw[DJ,hl];simp[jx]
              unfold gM at h;obtain⟨a0,_,h⟩:=CT.1 h;split at h
              · rename_i t _
                cases H:t.rest.isEmpty&&a8 t.kill&&dE t.frz t.kill&&!((t.kill++t.frz).any λk=>B7 k.1 q) with
                |false=>rw[H]at h;cases h
                |true =>
                  simp only[H,cond_true]at h;cases hh with
                  |none =>
                    simp only[BV]at h;rw[<- h];exact z _ _ _ _
                  |some hp =>
                    obtain⟨hi,O⟩:=hp;simp only at h;cases Z:C9 off O&&C0 O (off+(au st y).2.length) with
                    |false =>
                      rw[Z]at h;simp only[cond_false,BV]at h;rw[<- h];exact z _ _ _ _
                    |true =>
                      rw[Z]at h;simp only[cond_true]at h;cases M:B7 i hi with
                      |false=>rw[M]at h;cases h
                      |true =>
                        rw[M]at h;simp only[cond_true,BV]at h;rw[<- h];exact z _ _ _ _
              · cases h
          · cases h
    · simp at u
  · simp at u
theorem pA {t:Nat}{b:Bool}(u:(st t).sh=.one)(r:(st t).ls=[.bool b]):lit st t b=st:=by
 funext q;unfold lit;rcases am t q ⟨(st t).ver,.one,[.bool b]⟩ st with ⟨rfl,e⟩|⟨_,e⟩
 ·rw[e,<- u,<- r]
 ·exact e
theorem wV {U:Upd}(h:act Γ T o st some=some U):(∀ q∈U.map (·.1),q∈(U.map (·.1)).filter (λq=>!((d6 st o).any (B7 q)))\/q∈d6 st o)/\(∀ q∈(U.map (·.1)).filter (λq=>!((d6 st o).any (B7 q))),q∈U.map (·.1)) /\
  ∀ q,q∈U.map (·.1)->q∉(U.map (·.1)).filter (λq=>!((d6 st o).any (B7 q)))->bL (ac U st q)=bL (st q):=by
 have r:∀ q,(d6 st o).any (B7 q)=true->q∈d6 st o:=λq u=>by
  obtain⟨x,z,H⟩:=Cl.1 u;rw[B5 H];exact z
 refine⟨λq u=>?_,λq u=>(Cg.1 u).1,λq u I=>?_⟩
 ·cases y:(d6 st o).any (B7 q) with
  |true=>exact .inr (r q y)
  |false=>exact .inl (Cg.2 ⟨u,by rw[y];rfl⟩)
 ·refine AU h q (r q ?_);cases y:(d6 st o).any (B7 q) with
  |true=>rfl
  |false=>exact absurd (Cg.2 ⟨u,by rw[y];rfl⟩) I
theorem AV {κ:St->cL->Option R}{r:R}(h:opK Γ T all o st κ=some r):∃ U t,jJ Γ T all o st U t/\κ (ac U st) t=some r:=by
 have Y:∀ (H:List Nat),act Γ T o st (λU=>κ (ac U st) ⟨H++fp st o,eX st o.op,(U.map (·.1)).filter (λq=>!((d6 st o).any (B7 q))),d6 st o⟩)=some r ->
   ∃ U,act Γ T o st some=some U/\κ (ac U st) ⟨H++fp st o,eX st o.op,(U.map (·.1)).filter (λq=>!((d6 st o).any (B7 q))),d6 st o⟩=some r:=by
  intro H h;rw[tS]at h;obtain⟨U,M,X⟩:=CT.1 h;exact⟨U,M,X⟩
 have u:((∀ q∈(eM st o).map (·.1),q∈o.dst.toList\/q∈([]:List Nat))/\(∀ q∈o.dst.toList,q∈(eM st o).map (·.1))/\∀ q,q∈(eM st o).map (·.1)->q∉o.dst.toList->bL (ac (eM st o) st q)=bL (st q)):=by
  unfold eM;cases o.dst with
  |none=>simp
  |some d=>simp
 unfold opK at h;unfold jJ;cases hg:o.guard with
 |none =>
  simp only[hg]at h;obtain⟨U,M,X⟩:=Y [] h;exact⟨U,_,⟨wV M,M,λq z=>by simpa using z,λq z=>z⟩,X⟩
 |some jw =>
  obtain⟨j,O⟩:=jw;simp only[hg]at h;split at h
  ·rename_i t Z;have J:∀ d,o.dst=some d->d∈o.dst.toList:=λd hd=>by simp[hd]
   split at h
   ·rename_i b y I;have hl:∀ b',b'=b->lit st t b'=st:=λb' e=>pA y (by rw[I,e])
    cases b with
    |true =>
     simp only[cond_true,hl true rfl]at h;cases O with
     |true =>
      simp only[cond_true]at h;obtain⟨U,M,X⟩:=Y [t] h;exact⟨U,_,⟨wV M,t,Z,by simp,.inl ⟨true,y,I,.inl ⟨rfl,M,λq z=>BZ _ z,λq z=>z⟩⟩⟩,X⟩
     |false =>
      simp only[cond_false]at h;exact⟨eM st o,_,⟨u,t,Z,by simp,.inl ⟨true,y,I,.inr ⟨by simp,rfl,J⟩⟩⟩,h⟩
    |false =>
     simp only[cond_false,hl false rfl]at h;cases O with
     |true =>
      simp only[cond_true]at h;exact⟨eM st o,_,⟨u,t,Z,by simp,.inl ⟨false,y,I,.inr ⟨by simp,rfl,J⟩⟩⟩,h⟩
     |false =>
      simp only[cond_false]at h;obtain⟨U,M,X⟩:=Y [t] h;exact⟨U,_,⟨wV M,t,Z,by simp,.inl ⟨false,y,I,.inl ⟨rfl,M,λq z=>BZ _ z,λq z=>z⟩⟩⟩,X⟩
   ·rename_i y;exact⟨eM st o,_,⟨u,t,Z,by simp,.inr ⟨y,rfl,J⟩⟩,h⟩
   ·cases h
  ·cases h
theorem vA {U:Upd}(e:U=eM st o)(u:∀ d,o.dst=some d->st' d=st d):U=eM st' o:=by
 rw[e];unfold eM;cases r:o.dst with
 |none=>rfl
 |some d=>simp only[u d r]
theorem jJ.frame {U:Upd}{t:cL}(h:jJ Γ T all o st U t)(u:∀ q,q∈t.rd\/q∈t.wr->st' q=st q)(hh:∀ q∈t.hd,bL (st' q)=bL (st q)):mF Γ T all o st' U:=by
 obtain⟨_,h⟩:=h;have r:act Γ T o st some=some U->(∀ q∈fp st o,q∈t.rd)->(∀ q∈eX st o.op,q∈t.hd)->act Γ T o st' some=some U:=by
  intro M y H;rw[BK (λq z=>u q (.inl (y q z))) (λq z=>hh q (H q z))];exact M
 unfold mF;cases hg:o.guard with
 |none =>
  rw[hg]at h;exact r h.1 h.2.1 h.2.2
 |some jw =>
  obtain⟨j,a0⟩:=jw;rw[hg]at h;obtain⟨s,M,y,H⟩:=h;have Z:=u s (.inl y);refine⟨s,M,?_⟩;rw[Z];rcases H with ⟨b,O,h5,I⟩|⟨O,h5,I⟩
  ·refine .inl ⟨b,O,h5,?_⟩;rcases I with ⟨h7,J,h9,Y⟩|⟨h7,J,h9⟩
   ·exact .inl ⟨h7,r J h9 Y⟩
   ·exact .inr ⟨h7,vA J (λd X=>u d (.inr (h9 d X)))⟩
  ·exact .inr ⟨O,vA h5 (λd X=>u d (.inr (I d X)))⟩
theorem wW (hV:ay V)(hT:TOk P T)(hΓ:∀ c∈Γ,bR P c){ops:Array Oper}{i:Nat}(hi:ops[i]?=some o)(M:bP V o)(H:∀ j u,o.guard=some (j,u)->∀ s,(ops[j]?).bind (·.dst)=some s->s<V.nt)
  {U:Upd} (h:mF Γ T ops o st U) {a:Act} {w:World} (z:Rel P V st a w) {K:Act->World->Prop} {Q:Exit->Act->World->Prop} (hK:∀ a' w',Rel P V (ac U st) a' w'->K a' w'):wpOp P ops Q i K a w:=by
 obtain⟨W,z⟩:=z;unfold wpOp;simp only[hi];have a0:act Γ T o st some=some U->o.wp P a w K Q:=by
  intro Z;obtain⟨U',h2,X⟩:=BJ hV hT hΓ M Z;cases h2;exact X W a w z K Q hK
 have y:U=eM st o->K (a.put o.dst undef) w:=by
  intro e;refine hK _ _ ?_;subst e;unfold eM;cases hd:o.dst with
  |none=>exact⟨W,z⟩
  |some d=>exact z.putLs hV d (M d hd).1 (M d hd).2 _ .und [] undef [] (Ce _) ⟨rfl,rfl⟩ trivial
 unfold mF at h;cases J:o.guard with
 |none =>
  rw[J]at h;have O:Region.wanted o (yielded ops a.tmps)=true:=by simp[Region.wanted,J]
  rw[if_pos O];exact .inl (a0 h)
 |some jw =>
  obtain⟨j,u⟩:=jw;rw[J]at h;obtain⟨s,Z,h2⟩:=h;have a1:=H j u J s Z;have a4:s<GH:=DH a1 hV.nt;have r:=z.slots s a4;have a3:s<a.tmps.size:=by rw[z.nt];exact a1
  have I:a.tmps[s]?=some (a.tmps.getD s undef):=by
   rw[CB,CA a3];rfl
  rcases h2 with ⟨b,X,h4,h5⟩|⟨X,h5⟩
  ·have a2:=z.len s;rw[h4]at a2;rw[X]at r;have r:W.cs s=[a.tmps.getD s undef]:=r;have Y:=z.leaf s 0 (.bool b) (a.tmps.getD s undef) (by rw[h4];rfl) (by rw[r];rfl);have Y:a.tmps.getD s undef=.bool b:=Y;have hy:yielded ops a.tmps j=some b:=by simp[yielded,Z,I,Y]
   rcases h5 with ⟨rfl,h6⟩|⟨h6,h7⟩
   ·have O:Region.wanted o (yielded ops a.tmps)=true:=by simp[Region.wanted,J,hy]
    rw[if_pos O];exact .inl (a0 h6)
   ·have O:Region.wanted o (yielded ops a.tmps)=false:=by
     simp only[Region.wanted,J,hy];cases b <;> cases u <;> simp at h6 <;> rfl
    rw[O];exact y h7
  ·rw[X]at r;obtain⟨Y,_⟩:=r;have hy:yielded ops a.tmps j=none:=by
    unfold yielded;rw[Z,Ca,I,Y];rfl
   have O:Region.wanted o (yielded ops a.tmps)=false:=by simp[Region.wanted,J,hy]
   rw[O];exact y h5
def Run (Γ:List Ctr)(T:TypeId->TI)(all:Array Oper):St->List Oper->List Upd->List cL->St->Prop
 |st,[],[],[],st'=>st'=st
 |st,o::u,U::r,t::y,st'=>jJ Γ T all o st U t/\Run Γ T all (ac U st) u r y st'
 |_,_,_,_,_=>False
theorem pB:∀ (H:List Oper) (st:St) (z:List cL) (y:St->List cL->Option R) (r:R),qx Γ T all H st z y=some r ->
  ∃ I u st',Run Γ T all st H I u st'/\y st' (z++u)=some r
 |[],st,z,y,r,h=>⟨[],[],st,rfl,by simpa[qx]using h⟩
 |o::H,st,z,y,r,h=>by
  simp only[qx]at h;obtain⟨U,t,M,O⟩:=AV h;obtain⟨I,u,st',X,J⟩:=pB H (ac U st) (z++[t]) y r O;exact⟨U::I,t::u,st',⟨M,X⟩,by rw[CS]at J;exact J⟩
theorem jJ.res {U:Upd}{t:cL}(h:jJ Γ T all o st U t):mF Γ T all o st U:=h.frame (λ_ _=>rfl) (λ_ _=>rfl)
theorem vB (Y:ay V)(Z:TOk P T)(hΓ:∀ c∈Γ,bR P c){ops:Array Oper}(z:∀ (i:Nat) (o:Oper),ops[i]?=some o->bP V o)
  (r:∀ (i:Nat) (o:Oper),ops[i]?=some o->∀ j y,o.guard=some (j,y)->∀ s,(ops[j]?).bind (·.dst)=some s->s<V.nt) {Q:Exit->Act->World->Prop} :
  ∀ (u:List Oper) (k:Nat) (st:St) (us:List Upd) (J:List cL) (st':St),ops.toList.drop k=u->Run Γ T ops st u us J st'->(∀ a w,Rel P V st' a w->Q .normal a w) ->
   ∀ a w,Rel P V st a w->wpOps P ops Q (List.range' k u.length) a w
 |[],k,st,[],[],st',_,h,O,a,w,H=>by
  have h:st'=st:=h;subst h;exact O a w H
 |o::u,k,st,U::us,t::J,st',X,h,O,a,w,H=>by
  obtain⟨h1,h2⟩:=h;have I:ops[k]?=some o:=by
   have:(ops.toList.drop k)[0]?=some o:=by rw[X];rfl
   rw[List.getElem?_drop]at this;simpa using this
  rw[Cb,List.range'_succ,wpOps_cons];refine wW Y Z hΓ I (z k o I) (r k o I) h1.res H (λa' w' M=>?_);exact vB Y Z hΓ z r u (k+1) (ac U st) us J st' (by rw[<- C6,X];rfl) h2 O a' w' M
end
section
variable {P:Program} {V:Env} {Γ:List Ctr} {T:TypeId->TI} {st st':St} {o:Oper} {R:Type} {all:Array Oper}
def dg (D:Nat->Bool):List Upd->St->St
 |[],st=>st
 |U::r,st=>dg (λj=>D (j+1)) r (bif D 0 then ac U st else st)
theorem jp {q:Nat}:∀ {U:Upd} (s u:St),q∈U.map (·.1)->ac U s q=ac U u q
 |[],_,_,h=>by simp at h
 |(r,c)::U,s,u,h=>by
  simp only[ac];cases y:B7 q r with
  |true=>rfl
  |false =>
   simp only[cond_false];refine jp s u ?_;simp only[CM,CC]at h;rcases h with rfl|h
   ·simp at y
   ·exact h
theorem eL {q:Nat}:∀ {U:Upd} (s:St),q∉U.map (·.1)->ac U s q=s q
 |[],_,_=>rfl
 |(r,c)::U,s,h=>by
  simp only[CM,CC,not_or]at h;have u:B7 q r=false:=by
   cases u:B7 q r with
   |false=>rfl
   |true=>exact absurd (B5 u) h.1
  simp only[ac,u,cond_false];exact eL s h.2
theorem ym {U r:Upd}(h:∀ q,q∈U.map (·.1)->q∉r.map (·.1))(s:St):ac r (ac U s)=ac U (ac r s):=by
 funext q;by_cases u:q∈U.map (·.1)
 ·rw[eL _ (h q u)];exact jp _ _ u
 ·rw[eL (U:=U) _ u];by_cases y:q∈r.map (·.1)
  ·exact jp _ _ y
  ·rw[eL _ y,eL _ y,eL _ u]
theorem mG:∀ {us:List Upd} {D D':Nat->Bool} {s:St},(∀ j,j<us.length->D j=D' j)->dg D us s=dg D' us s
 |[],_,_,_,_=>rfl
 |U::us,D,D',s,h=>by
  simp only[dg];rw[h 0 (by simp)];exact mG (λj r=>h (j+1) (by simpa using r))
theorem nM:∀ {us:List Upd} {D:Nat->Bool} {s:St},(∀ j,D j=false)->dg D us s=s
 |[],_,_,_=>rfl
 |U::us,D,s,h=>by
  simp only[dg,h 0,cond_false];exact nM (λj=>h (j+1))
theorem mH {q:Nat}:∀ {us:List Upd} {D D':Nat->Bool} {s r:St},s q=r q->(∀ (j:Nat) (U:Upd),us[j]?=some U->q∈U.map (·.1)->D j=D' j)->dg D us s q=dg D' us r q
 |[],_,_,_,_,h,_=>h
 |U::us,D,D',s,r,h,H=>by
  simp only[dg];refine mH ?_ (λj J M I=>H (j+1) J (by simpa using M) I);by_cases u:q∈U.map (·.1)
  ·rw[H 0 U rfl u];cases D' 0 with
   |true=>exact jp _ _ u
   |false=>exact h
  ·have z:∀ b:Bool,(bif b then ac U s else s) q=s q:=by intro b;cases b <;> simp[eL _ u]
   have y:∀ b:Bool,(bif b then ac U r else r) q=r q:=by intro b;cases b <;> simp[eL _ u]
   rw[z,y,h]
theorem nN {U:Upd}:∀ {us:List Upd} {D:Nat->Bool} {s:St},(∀ (j:Nat) (u:Upd),us[j]?=some u->D j=true->∀ q,q∈U.map (·.1)->q∉u.map (·.1))->dg D us (ac U s)=ac U (dg D us s)
 |[],_,_,_=>rfl
 |u::us,D,s,h=>by
  simp only[dg];cases H:D 0 with
  |true =>
   simp only[cond_true];rw[ym (h 0 u rfl H)];exact nN (λj r z y=>h (j+1) r (by simpa using z) y)
  |false =>
   simp only[cond_false];exact nN (λj r z y=>h (j+1) r (by simpa using z) y)
theorem oS {U:Upd}:∀ {us:List Upd} {i:Nat} {D D':Nat->Bool} {s:St},us[i]?=some U->D i=false->(∀ j,D' j=(D j||B7 j i)) ->
  (∀ (j:Nat) (u:Upd),us[j]?=some u->i<j->D j=true->∀ q,q∈U.map (·.1)->q∉u.map (·.1))->dg D' us s=ac U (dg D us s)
 |[],i,_,_,_,h,_,_,_=>by simp at h
 |V::us,0,D,D',s,h,y,r,H=>by
  simp at h;subst h;simp only[dg];have I:D' 0=true:=by rw[r 0];simp
  rw[I,y];simp only[cond_true,cond_false];have e:dg (λj=>D' (j+1)) us (ac V s)=dg (λj=>D (j+1)) us (ac V s):=mG (λj _=>by rw[r (j+1)];simp[B7]);rw[e];exact nN (λj u z J=>H (j+1) u (by simpa using z) (by omega) J)
 |V::us,i+1,D,D',s,h,y,r,H=>by
  simp only[dg];have I:D' 0=D 0:=by rw[r 0];simp[B7]
  rw[I];exact oS (i:=i) (by simpa using h) y (λj=>by rw[r (j+1)];simp[B7]) (λj u z J M=>H (j+1) u (by simpa using z) (by omega) M)
theorem qY:∀ {r:List Oper} {us:List Upd} {y:List cL} {s H:St},Run Γ T all s r us y H->∀ (i:Nat) (o:Oper),r[i]?=some o ->
  ∃ U t,us[i]?=some U/\y[i]?=some t/\jJ Γ T all o (dg (λj=>decide (j<i)) us s) U t
 |[],_,_,_,_,_,i,o,h=>by simp at h
 |z::r,[],_,_,_,h,_,_,_=>h.elim
 |z::r,_::_,[],_,_,h,_,_,_=>h.elim
 |z::r,U::us,t::y,s,H,h,0,o,u=>by
  simp at u;subst u;exact⟨U,t,rfl,rfl,by rw[nM (λj=>by simp)];exact h.1⟩
 |z::r,U::us,t::y,s,H,h,i+1,o,u=>by
  obtain⟨M,X,O,I,J⟩:=qY h.2 i o (by simpa using u);refine⟨M,X,by simpa using O,by simpa using I,?_⟩;simp only[dg];have e:(λj=>decide (j+1<i+1))=λj=>decide (j<i):=by funext j;simp
  rw[e];simpa using J
theorem vC:∀ {r:List Oper} {us:List Upd} {y:List cL} {s u:St},Run Γ T all s r us y u->us.length=r.length/\y.length=r.length/\u=dg (λ_=>true) us s
 |[],[],[],_,_,h=>⟨rfl,rfl,h⟩
 |[],_::_,_,_,_,h=>h.elim
 |[],[],_::_,_,_,h=>h.elim
 |_::_,[],_,_,_,h=>h.elim
 |_::_,_::_,[],_,_,h=>h.elim
 |o::r,U::us,t::y,s,u,h=>by
  obtain⟨I,z,H⟩:=vC h.2;exact⟨by simp[I],by simp[z],by simpa[dg]using H⟩
theorem qZ {q:Nat}:∀ {os:List Oper} {us:List Upd} {O:List cL} {I s':St} {D:Nat->Bool} {F:Nat->Bool} {s sF:St} {B:Prop},Run Γ T all I os us O s'->(∀ (j:Nat) (t:cL),O[j]?=some t->F j=decide (q∈t.wr)) ->
  bL (s q)=bL (sF q)->(B->bL (sF q)=bL (I q)) ->
  (∀ (j:Nat) (t:cL) (U:Upd),O[j]?=some t->us[j]?=some U->D j=true->q∉t.wr->q∈U.map (·.1)->B/\∀ (k:Nat) (t':cL),k<j->O[k]?=some t'->q∈t'.wr->D k=true) ->
  bL (dg D us s q)=bL (dg (λj=>D j&&F j) us sF q)
 |[],[],[],_,_,_,_,_,_,_,_,_,J,_,_=>J
 |[],_::_,_,_,_,_,_,_,_,_,h,_,_,_,_=>h.elim
 |[],[],_::_,_,_,_,_,_,_,_,h,_,_,_,_=>h.elim
 |_::_,[],_,_,_,_,_,_,_,_,h,_,_,_,_=>h.elim
 |_::_,_::_,[],_,_,_,_,_,_,_,h,_,_,_,_=>h.elim
 |o::os,U::us,t::O,I,s',D,F,s,sF,B,h,hF,J,X,H=>by
  obtain⟨⟨⟨k1,k2,k3⟩,_⟩,M⟩:=h;have y:=hF 0 t rfl;simp only[dg];refine qZ (F:=λj=>F (j+1)) (B:=B/\(q∈t.wr->D 0=true)) M (λj t' Z=>hF (j+1) t' (by simpa using Z)) ?_ ?_ ?_
  ·by_cases r:q∈U.map (·.1)
   ·by_cases u:q∈t.wr
    ·rw[y,decide_eq_true u,Cx];cases D 0 with
     |true=>simp only[cond_true];rw[jp s sF r]
     |false=>exact J
    ·rw[y,decide_eq_false u,Cq];simp only[cond_false];cases z:D 0 with
     |true =>
      simp only[cond_true];rw[jp s I r,k3 q r u];exact (X (H 0 t U rfl rfl z u r).1).symm
     |false=>exact J
   ·have e:∀ (b:Bool) (x:St),(bif b then ac U x else x) q=x q:=by intro b x;cases b <;> simp[eL _ r]
    rw[e,e];exact J
  ·rintro⟨hB,z⟩;by_cases r:q∈U.map (·.1)
   ·by_cases u:q∈t.wr
    ·rw[y,decide_eq_true u,Cx,z u];simp only[cond_true];rw[jp sF I r]
    ·rw[y,decide_eq_false u,Cq];simp only[cond_false];rw[k3 q r u];exact X hB
   ·have e:∀ (b:Bool) (x:St),(bif b then ac U x else x) q=x q:=by intro b x;cases b <;> simp[eL _ r]
    rw[e,eL _ r];exact X hB
  ·intro j t' U' Z hU z u r;obtain⟨g1,g2⟩:=H (j+1) t' U' (by simpa using Z) (by simpa using hU) z u r;exact⟨⟨g1,λa1=>g2 0 t (by omega) rfl a1⟩,λk t2 hk a0 Y=>g2 (k+1) t2 (by omega) (by simpa using a0) Y⟩
theorem rV {f:Nat->Nat}{i:Nat}:∀ (l:List Edge) (s:Nat),(l.foldl (λs e=>bif Region.binds .any e then s ||| 2 ^ e.on ||| f e.on else s) s).testBit i=true ->
  s.testBit i=true\/∃ e∈l,Region.binds .any e=true/\(i=e.on\/(f e.on).testBit i=true)
 |[],s,h=>.inl h
 |e::l,s,h=>by
  simp only[DS]at h;rcases rV l _ h with h|⟨u,z,y⟩
  ·cases r:Region.binds .any e with
   |false=>rw[r]at h;exact .inl h
   |true =>
    rw[r]at h;simp only[cond_true,Nat.testBit_or,Cm]at h;rcases h with (h|h)|h
    ·exact .inl h
    ·refine .inr ⟨e,B4 ..,r,.inl ?_⟩;rw[Nat.testBit_two_pow]at h;exact (of_decide_eq_true h).symm
    ·exact .inr ⟨e,B4 ..,r,.inr h⟩
  ·exact .inr ⟨u,B3 _ z,y⟩
theorem ub:∀ (z:List Oper) (r:List Nat),(∀ j,j<r.length->(jK z r).getD j 0=r.getD j 0) /\
  ∀ (k:Nat) (o:Oper),z[k]?=some o->∃ u:List Nat,u.length=r.length+k/\(∀ j,j<u.length->u.getD j 0=(jK z r).getD j 0) /\
   (jK z r).getD (r.length+k) 0=o.after.toList.foldl (λs e=>bif Region.binds .any e then s ||| 2 ^ e.on ||| u.getD e.on 0 else s) 0
 |[],r=>⟨λ_ _=>rfl,λk o h=>by simp at h⟩
 |o::z,r=>by
  obtain⟨I,O⟩:=ub z (r++[o.after.toList.foldl (λs e=>bif Region.binds .any e then s ||| 2 ^ e.on ||| r.getD e.on 0 else s) 0]);have y:∀ j,j<r.length->(jK (o::z) r).getD j 0=r.getD j 0:=by
   intro j H;simp only[jK];rw[I j (by simp;omega)];simp[CD,CP H]
  refine⟨y,λk X h=>?_⟩;cases k with
  |zero =>
   simp at h;subst h;refine⟨r,rfl,λj H=>(y j H).symm,?_⟩;simp only[jK];rw[Nat.add_zero,I r.length (by simp)];simp[CD]
  |succ k =>
   obtain⟨u,Y,M,J⟩:=O k X (by simpa using h);refine⟨u,by simp at Y;omega,λj H=>M j H,?_⟩;simp only[jK];have e:r.length+(k+1)=(r++[o.after.toList.foldl (λs e=>bif Region.binds .any e then s ||| 2 ^ e.on ||| r.getD e.on 0 else s) 0]).length+k:=by simp;omega
   rw[e];exact J
theorem jy {ops:Array Oper}{D:Nat->Prop}(z:∀ (j:Nat) (o:Oper),ops[j]?=some o->D j->∀ e∈o.after.toList,Region.binds .any e=true->D e.on) :
  ∀ (n j:Nat),j<n->∀ (o:Oper),ops[j]?=some o->(∀ e∈o.after.toList,Region.binds .any e=true->D e.on)->∀ i,((jK ops.toList []).getD j 0).testBit i=true->D i
 |0,_,h,_,_,_,_,_=>by omega
 |n+1,j,hj,o,M,Y,i,J=>by
  obtain⟨r,h1,Z,I⟩:=(ub ops.toList []).2 j o (by simpa using M);simp only[List.length_nil,Cf]at h1 I;rw[I]at J;rcases rV (f:=λk=>r.getD k 0) _ _ J with h|⟨e,O,X,y⟩
  ·simp at h
  ·rcases y with rfl|y
   ·exact Y e O X
   ·have H:e.on<r.length:=by
     apply CQ;intro hn;have:r.getD e.on 0=0:=by
      rw[CD,C4 (by omega)];rfl
     rw[this]at y;simp at y
    rw[Z _ H]at y;have hD:=Y e O X;have u:e.on<ops.size:=by
     have:=(Cr.1 M).1;omega
    exact jy z n e.on (by omega) ops[e.on] (CA u) (z e.on _ (CA u) hD) i y
theorem fY {a b:List Nat}(h:lV a b=false){q:Nat}(u:q∈a):q∉b:=by
 intro r;unfold lV at h;rw[Cv]at h;have:=h q u;simp only[Cl,not_exists,not_and]at this;exact this q r (by simp)
theorem lq {r:List Nat}{u:List cL}(h:pJ r u=true){i j:Nat}(z:i<j){x y:cL}(M:u[i]?=some x)(H:u[j]?=some y):(r.getD j 0).testBit i=true\/x.apart y=true:=by
 unfold pJ at h;rw[CL]at h;have O:=(B8.1 H).1;have J:=h j (by simpa using O);rw[CL]at J;have I:=J i (by simpa using z);simp only[M,H,Cm]at I;exact I
theorem qt {p p':Nat->Bool}{i:Nat}(I:p i=true)(r:p' i=false)(h:∀ j,j≠i->p' j=p j):∀ (l:List Nat),l.Nodup->i∈l->l.countP p'+1=l.countP p
 |[],_,z=>by simp at z
 |x::l,H,z=>by
  rw[CW]at H;by_cases u:x=i
  ·subst u;have e:l.countP p'=l.countP p:=by
    apply List.countP_congr;intro y J;rw[h y (λe=>H.1 (e ▸ J))]
   simp[I,r,e]
  ·have M:=qt I r h l H.2 ((CC.1 z).resolve_left (λe=>u e.symm));simp only[DO,h x u];omega
theorem BL (hV:ay V)(hT:TOk P T)(hΓ:∀ c∈Γ,bR P c){ops:Array Oper}(e4:∀ (i:Nat) (o:Oper),ops[i]?=some o->bP V o)
  (bl:∀ (i:Nat) (o:Oper),ops[i]?=some o->∀ j d2,o.guard=some (j,d2)->∀ s,(ops[j]?).bind (·.dst)=some s->s<V.nt) {Q:Exit->Act->World->Prop}
  {us:List Upd} {ts:List cL} {s0 s1:St} (a1:Run Γ T ops s0 ops.toList us ts s1) (a4:nT ops=true) (c4:pJ (jK ops.toList []) ts=true) (hQ:∀ a w,Rel P V s1 a w->Q .normal a w) :
  ∀ (a0:Nat) (r:Array Bool) (a:Act) (w:World),r.size=ops.size->(DU ops.size).countP (λi=>!r.getD i true)=a0 ->
   (∀ (j:Nat) (o:Oper),ops[j]?=some o->r.getD j false=true->∀ e∈o.after.toList,Region.binds .any e=true->r.getD e.on false=true) ->
   Rel P V (dg (λj=>r.getD j false) us s0) a w->wpAny P .any ops Q a0 r a w:=by
 obtain⟨ec,ed,cu⟩:=vC a1;have eg:ops.toList.length=ops.size:=DB;have b9:∀ (r:Array Bool),r.size=ops.size->Region.ready .any ops r=[]->∀ i,i<ops.size->r.getD i false=true:=by
  intro r a2 hr i;induction i using DT with
  |ind i ih =>
   intro hi;cases hl:r.getD i false with
   |true=>rfl
   |false =>
    exfalso;have e0:r.getD i true=false:=by
     rw[CB,CA (by omega)]at hl ⊢;exact hl
    have ho:ops[i]?=some ops[i]:=CA hi;have bn:i∈Region.ready .any ops r:=by
     unfold Region.ready;rw[Cg];refine⟨by simpa using hi,?_⟩;rw[e0,ho];simp only[DV,DF,CO,DP];rw[Ci];intro e he;cases eb:Region.binds .any e with
     |false=>rfl
     |true =>
      simp only[Bool.not_true,Bool.false_or];have bb:e.on<i:=by
       unfold nT at a4;rw[CL]at a4;have:=a4 i (by simpa using hi);simp only[ho]at this;rw[CL]at this;have:=this e (by simpa using he);simpa[eb]using this
      exact ih e.on bb (by omega)
    rw[hr]at bn;simp at bn
 have c0:∀ (r:Array Bool) (a:Act) (w:World),r.size=ops.size->Rel P V (dg (λj=>r.getD j false) us s0) a w->Region.ready .any ops r=[]->Q .normal a w:=by
  intro r a w a2 hr ba;refine hQ a w ?_;rw[cu];have:dg (λ_=>true) us s0=dg (λj=>r.getD j false) us s0:=mG (λj J=>(b9 r a2 ba j (by omega)).symm);rw[this];exact hr
 intro a0;induction a0 with
 |zero =>
  intro r a w a2 X ad hr;have ba:Region.ready .any ops r=[]:=by
   unfold Region.ready;rw[List.filter_eq_nil_iff];intro i hi hc;rw[DC]at X;have:=X i hi;simp only[BX]at hc;exact this hc.1
  exact⟨ba,c0 r a w a2 hr ba⟩
 |succ a0 ih =>
  intro r a w a2 X ad hr;refine⟨c0 r a w a2 hr,λi hi=>?_⟩;unfold Region.ready at hi;rw[Cg]at hi;obtain⟨b5,c1⟩:=hi;have b5:i<ops.size:=by simpa using b5
  have ho:ops[i]?=some ops[i]:=CA b5;rw[ho]at c1;simp only[BX,CZ,CO,DP]at c1;obtain⟨b4,a9⟩:=c1;rw[Ci]at a9;have O:r.getD i false=false:=by
   rw[CB,CA (by omega)]at b4 ⊢;exact b4
  have d3:∀ e∈(ops[i]).after.toList,Region.binds .any e=true->r.getD e.on false=true:=by
   intro e he hb;have:=a9 e (by simpa using he);simpa[hb]using this
  obtain⟨U,t,hU,ht,b2⟩:=qY a1 i ops[i] (by simp);have b3:∀ (j:Nat) (o:Oper),ops[j]?=some o->(λk=>r.getD k false=true) j->∀ e∈o.after.toList,Region.binds .any e=true->(λk=>r.getD k false=true) e.on:=ad;obtain⟨e7,_,_⟩:=b2.1;have Y:∀ (j:Nat) (M:Upd),us[j]?=some M->∃ H,ts[j]?=some H/\(∀ q∈M.map (·.1),q∈H.wr\/q∈H.cw)/\∀ q∈H.wr,q∈M.map (·.1):=by
   intro j M J;have a5:j<ops.size:=by
    have:=(B8.1 J).1;omega
   obtain⟨U2,t2,h1,Z,h3⟩:=qY a1 j ops[j] (by simp[a5]);rw[J]at h1;cases h1;exact⟨t2,Z,h3.1.1,h3.1.2.1⟩
  have d1:∀ (j:Nat) (M:Upd),us[j]?=some M->j≠i->r.getD j false≠decide (j<i)->∃ H,ts[j]?=some H/\(∀ q∈M.map (·.1),q∈H.wr\/q∈H.cw)/\(H.apart t=true\/t.apart H=true):=by
   intro j M J b0 u;obtain⟨H,h1,Z,_⟩:=Y j M J;refine⟨H,h1,Z,?_⟩;rcases Nat.lt_or_gt_of_ne b0 with bb|e6
   ·have hl:r.getD j false=false:=by
     cases hl:r.getD j false with
     |false=>rfl
     |true=>rw[hl]at u;simp[bb]at u
    rcases lq c4 bb h1 ht with h3|h3
    ·have:=jy b3 (i+1) i (Ce _) ops[i] ho d3 j h3;rw[hl]at this;cases this
    ·exact .inl h3
   ·have hl:r.getD j false=true:=by
     cases hl:r.getD j false with
     |true=>rfl
     |false=>rw[hl]at u;simp at u;omega
    have a5:j<ops.size:=by
     have:=(B8.1 J).1;omega
    have b1:ops[j]?=some ops[j]:=CA a5;rcases lq c4 e6 ht h1 with h3|h3
    ·have:=jy b3 (j+1) j (Ce _) ops[j] b1 (ad j _ b1 hl) i h3;rw[O]at this;cases this
    ·exact .inr h3
  have a3:∀ (x y:cL),x.apart y=true->(∀ q,q∈x.wr\/q∈x.cw->(q∉y.wr/\q∉y.cw)/\q∉y.rd)/\(∀ q,q∈y.wr\/q∈y.cw->(q∉x.wr/\q∉x.cw)/\q∉x.rd)/\(∀ q∈x.wr,q∉y.hd)/\∀ q∈y.wr,q∉x.hd:=by
   intro x y h;unfold cL.apart at h;simp only[BX,CZ]at h;obtain⟨⟨⟨⟨h1,Z⟩,h3⟩,h4⟩,h5⟩:=h;refine⟨λq I=>?_,λq I=>?_,λq I=>fY h4 I,λq I hx=>fY h5 hx I⟩
   ·have I:=BW.2 I;have:=fY h1 I;simp only[BW,not_or]at this;exact⟨this,fY Z I⟩
   ·have I:=BW.2 I;have:q∉x.wr++x.cw:=λhx=>fY h1 hx I
    simp only[BW,not_or]at this;exact⟨this,λhx=>fY h3 hx I⟩
  have bx:∀ (j:Nat) (M:Upd),us[j]?=some M->j≠i->r.getD j false≠decide (j<i)->∀ q∈M.map (·.1),(q∉t.wr/\q∉t.cw)/\q∉t.rd:=by
   intro j M J b0 u q I;obtain⟨H,_,h1,Z⟩:=d1 j M J b0 u;rcases Z with Z|Z
   ·exact (a3 _ _ Z).1 q (h1 q I)
   ·exact (a3 _ _ Z).2.1 q (h1 q I)
  have c2:∀ (j:Nat) (H:cL),ts[j]?=some H->j≠i->r.getD j false≠decide (j<i)->∀ q∈H.wr,q∉t.hd:=by
   intro j H J b0 u q I;have a5:j<us.length:=by
    have:=(B8.1 J).1;omega
   obtain⟨t2,h0,_,Z⟩:=d1 j us[j] (CF a5) b0 u;rw[J]at h0;cases h0;rcases Z with Z|Z
   ·exact (a3 _ _ Z).2.2.1 q I
   ·exact (a3 _ _ Z).2.2.2 q I
  have cb:mF Γ T ops ops[i] (dg (λj=>r.getD j false) us s0) U:=by
   refine b2.frame (λq I=>?_) (λq I=>?_)
   ·refine mH rfl λj M J dc=>?_
    by_cases z:j=i
    ·subst z;rw[O];simp
    ·apply CQ;intro u;have:=bx j M J z u q dc;rcases I with I|I
     ·exact this.2 I
     ·exact this.1.1 I
   ·have cx:∀ (j:Nat) (H:cL),ts[j]?=some H->(λj=>match ts[j]? with|some H=>decide (q∈H.wr)|none=>false) j=decide (q∈H.wr):=λj H h=>by simp only[h]
    have e1:=qZ (q:=q) (D:=λj=>r.getD j false) (F:=λj=>match ts[j]? with|some H=>decide (q∈H.wr)|none=>false) (s:=s0) (sF:=s0) (B:=True) a1 cx rfl (λ_=>rfl) (λj H M J hU hD hw cy=>by
     refine⟨trivial,λk t2 hk c6 c5=>?_⟩;obtain⟨t3,h3,h4,_⟩:=Y j M hU;rw[J]at h3;cases h3;have dd:=(h4 q cy).resolve_left hw;have a5:j<ops.size:=by
      have:=(B8.1 hU).1;omega
     have b1:ops[j]?=some ops[j]:=CA a5;rcases lq c4 hk c6 J with h5|h5
     ·exact jy b3 (j+1) j (Ce _) ops[j] b1 (ad j _ b1 hD) k h5
     ·exact absurd dd ((a3 _ _ h5).1 q (.inl c5)).1.2)
    have e2:=qZ (q:=q) (D:=λj=>decide (j<i)) (F:=λj=>match ts[j]? with|some H=>decide (q∈H.wr)|none=>false) (s:=s0) (sF:=s0) (B:=True) a1 cx rfl (λ_=>rfl) (λj H M J hU hD hw cy=>by
     refine⟨trivial,λk t2 hk c6 c5=>?_⟩;have:=of_decide_eq_true hD;exact decide_eq_true (by omega))
    rw[e1,e2];congr 1;refine mH rfl λj M J dc=>?_
    obtain⟨H,h1,Z,_⟩:=Y j M J;simp only[h1];by_cases hw:q∈H.wr
    ·rw[decide_eq_true hw,Cx,Cx];by_cases z:j=i
     ·subst z;rw[O];simp
     ·apply CQ;intro u;exact c2 j H h1 z u q hw I
    ·rw[decide_eq_false hw,Cq,Cq]
  refine wW hV hT hΓ ho (e4 i _ ho) (bl i _ ho) cb hr λa' w' e5=>?_
  have a6:∀ (b:Bool) (j:Nat),(r.setIfInBounds i true).getD j b=if j=i then true else r.getD j b:=by
   intro b j;simp only[CB,Array.getElem?_setIfInBounds];by_cases z:j=i
   ·subst z;simp[a2,b5]
   ·rw[if_neg (λe=>z e.symm),if_neg z]
  refine ih _ a' w' (by simpa using a2) ?_ ?_ ?_
  ·have:=qt (p:=λj=>!r.getD j true) (p':=λj=>!(r.setIfInBounds i true).getD j true) (i:=i) (by simp[b4]) (by simp[a6]) (λj J=>by simp[a6,J]) (DU ops.size) List.nodup_range (by simpa using b5);omega
  ·intro j o' J c3 e he hb;rw[a6]at c3 ⊢;by_cases cp:e.on=i
   ·rw[if_pos cp]
   ·rw[if_neg cp];by_cases z:j=i
    ·subst z;rw[ho]at J;cases J;exact d3 e he hb
    ·rw[if_neg z]at c3;exact ad j o' J c3 e he hb
  ·have cc:=oS (U:=U) (us:=us) (i:=i) (D:=λj=>r.getD j false) (D':=λj=>(r.setIfInBounds i true).getD j false) (s:=s0) hU O (λj=>by
     simp only[a6];by_cases z:j=i
     ·subst z;simp
     ·have:B7 j i=false:=by
       cases hb:B7 j i with
       |false=>rfl
       |true=>exact absurd (B5 hb) z
      simp[z,this])
    (λj M J ef hD q I e3=>by
     have:=bx j M J (by omega) (by rw[hD];simp;omega) q e3;exact (e7 q I).elim this.1.1 this.1.2)
   rw[cc];exact e5
theorem BM (hV:ay V)(hT:TOk P T)(hΓ:∀ c∈Γ,bR P c)(X:P.follows .mixedOrders=true){id:Nat}{ops:Array Oper}{y:Bool}(M:∀ (i:Nat) (o:Oper),ops[i]?=some o->bP V o)
  (u:∀ (i:Nat) (o:Oper),ops[i]?=some o->∀ j J,o.guard=some (j,J)->∀ s,(ops[j]?).bind (·.dst)=some s->s<V.nt) {Q:Exit->Act->World->Prop} {κ:St->Option R} {r:R}
  (h:regK Γ T ops y st κ=some r) (hκ:∀ H,κ H=some r->∀ a w,Rel P V H a w->Q .normal a w) {a:Act} {w:World} (Y:Rel P V st a w):(Code.region id ops y).wp P Q a w:=by
 unfold regK at h;cases y with
 |true =>
  simp only[cond_true]at h;obtain⟨us,ts,H,z,I⟩:=pB _ _ _ _ _ h;simp only[CU]at I;cases O:nT ops&&pJ (jK ops.toList []) ts with
  |false=>simp[O]at I
  |true =>
   simp only[O,cond_true]at I;simp only[BX]at O;refine wp_region_any X ?_;have hD:∀ j,(CX ops.size false).getD j false=false:=by
    intro j;simp only[CB,Cy];split <;> rfl
   refine BL hV hT hΓ M u z O.1 O.2 (hκ H I) ops.size (CX ops.size false) a _ (by simp) ?_ ?_ ?_
   ·rw[List.countP_eq_length.2]
    ·simp
    ·intro i Z;have Z:i<ops.size:=by simpa using Z
     simp[CB,Cy,Z]
   ·intro j o' _ hl;rw[hD]at hl;cases hl
   ·rw[nM (λj=>hD j)];obtain⟨W,Y⟩:=Y;exact⟨W,Y.world hV (w':={ w with drawn:=w.drawn+1 }) (C7 _) rfl rfl rfl (λ_ _=>rfl)⟩
 |false =>
  simp only[cond_false]at h;obtain⟨us,ts,H,z,I⟩:=pB _ _ _ _ _ h;refine wp_region ?_;have:=vB hV hT hΓ M u ops.toList 0 st us ts H (by simp) z (hκ H I) a w Y;rw[DB,<- List.range_eq_range']at this;exact this
end
section
variable {P:Program} {V:Env} {Γ:List Ctr} {T:TypeId->TI} {st st':St} {o:Oper} {R:Type} {all:Array Oper}
theorem kS (live:List Nat):∀ (cs:List Coe) (ls:List Leaf),(c7 st live cs ls).length=ls.length
 |[],[]=>rfl
 |_::_,[]=>rfl
 |[],_::ls=>by simp[c7,kS live [] ls]
 |_::cs,_::ls=>by simp[c7,kS live cs ls]
theorem pC (live:List Nat):∀ (cs:List Coe) (ls:List Leaf) (j:Nat) (l:Leaf),(c7 st live cs ls)[j]?=some l->∃ r,ls[j]?=some r/\(l=.dead\/∃ c,l=bw st live c r)
 |[],[],j,l,h=>by simp[c7]at h
 |_::_,[],j,l,h=>by simp[c7]at h
 |[],r::ls,0,l,h=>by simp[c7]at h;exact⟨r,rfl,.inl h.symm⟩
 |c::cs,r::ls,0,l,h=>by simp[c7]at h;exact⟨r,rfl,.inr ⟨c,h.symm⟩⟩
 |[],r::ls,j+1,l,h=>by
  simp only[c7,Cz]at h;obtain⟨y,z,u⟩:=pC live [] ls j l h;exact⟨y,by simpa using z,u⟩
 |c::cs,r::ls,j+1,l,h=>by
  simp only[c7,Cz]at h;obtain⟨y,z,u⟩:=pC live cs ls j l h;exact⟨y,by simpa using z,u⟩
theorem AW (live:List (Nat×List Coe))(q:Nat):lW live st q=bU.none/\q∉live.map (·.1)\/∃ y,lW live st q=⟨0,(st q).sh,c7 st (live.map (·.1)) y (st q).ls⟩/\q∈live.map (·.1):=by
 have H:∀ (u:List Nat) (l:List (Nat×List Coe)),(av (l.map λr=>(r.1,⟨0,(st r.1).sh,c7 st u r.2 (st r.1).ls⟩)) q=bU.none/\q∉l.map (·.1)) \/
   ∃ y,av (l.map λr=>(r.1,⟨0,(st r.1).sh,c7 st u r.2 (st r.1).ls⟩)) q=⟨0,(st q).sh,c7 st u y (st q).ls⟩/\q∈l.map (·.1):=by
  intro u l;induction l with
  |nil=>exact .inl ⟨rfl,by simp⟩
  |cons x l O =>
   obtain⟨r,y⟩:=x;by_cases h:q=r
   ·subst h;exact .inr ⟨y,by simp[av,ac],by simp⟩
   ·have z:B7 q r=false:=by
     cases z:B7 q r with
     |false=>rfl
     |true=>exact absurd (B5 z) h
    rcases O with ⟨I,J⟩|⟨M,I,J⟩
    ·refine .inl ⟨?_,by simpa[h]using J⟩;rw[<- I];simp[av,ac,z]
    ·refine .inr ⟨M,?_,by simp only[CM,CC];exact .inr J⟩;rw[<- I];simp[av,ac,z]
 exact H (live.map (·.1)) live
theorem yn {keys:List Nat}{c:Coe}{r:Leaf}(h:ao (bw st keys c r)):ao r\/r=.nil:=by
 cases r with
 |own p y E e u=>exact .inl trivial
 |nil=>exact .inr rfl
 |_ =>
  exfalso;revert h;cases c <;> simp only[bw] <;> first
   |exact id
   |(cases (!_||_:Bool) <;> first | exact id | (split <;> exact id))
   |(cases (_&&_:Bool) <;> exact id)
   |(cases (List.any _ _:Bool) <;> exact id)
   |(cases (List.all _ _:Bool) <;> exact id)
theorem iR.nw {W W':Wit}{w:World}{c:Bool×Bool×(a:Ty)×a.den}{u:Value}(r:∀ k,W.nw k->W'.nw k)(h:iR V W w c u):iR V W' w c u:=by
 have z:∀ (p:Bool) k,gd V W p k->gd V W' p k:=λp k hk=>hk.imp (r k) id
 unfold iR at h ⊢;split at h
 ·rename_i Y;rw[if_pos Y];obtain⟨b,ob,g,H,J,O,M,y,X,I,Z⟩:=h;exact⟨b,ob,g,H,J,O,M.imp (r b) id,y,X.imp (r g) id,Rd.mono (z _) I,Z⟩
 ·rename_i Y;rw[if_neg Y];obtain⟨g,H,J,O,X,I,Z⟩:=h;exact⟨g,H,J,O,X.imp (r g) id,Rd.mono (z _) I,Z⟩
theorem wX {W W':Wit}{w:World}{keys:List Nat}{bs bs':List Nat}{c:Coe}{M:Leaf}{v:Value}(h:aI P V W st w bs M v)
  (J:∀ k,W.nw k->W'.nw k) (hβ:W'.β=W.β) (a4:∀ q,keys.any (B7 q)=true->W'.cs q=W.cs q) (I:∀ b,keys.any (B7 b)=true->(st b).sh=.agg->(st' b).sh=.agg)
  (a2:ao M->bs'=bs) (a1:M=.nil->bs'=[]) (a3:ao M->¬ ao (bw st keys c M)->(∃ p E e,c=.ro p E e)->∀ k∈bs,W'.nw k) :
  aI P V W' st' w bs' (bw st keys c M) v:=by
 have H:∀ (p q:Bool),(!q||p)=true->∀ k,gd V W q k->gd V W' p k:=by
  intro p q a9 k z;rcases z with z|⟨Z,z⟩
  ·exact .inl (J k z)
  ·refine .inr ⟨?_,z⟩;subst Z;simpa using a9
 cases c with
 |kill=>simp only[bw];trivial
 |keep =>
  cases M with
  |int k n=>exact h
  |bool b=>exact h
  |str s=>exact h
  |nil=>exact h
  |hdr n=>exact h
  |fn As B φ=>exact h
  |clr f O =>
   obtain⟨us,Z,h2,h3⟩:=h;exact⟨us,Z,h2,λi c u g1 g2=>(h3 i c u g1 g2).nw J⟩
  |al r j n =>
   simp only[bw];cases y:keys.any (B7 r)&&B7 (st r).ver n with
   |false=>trivial
   |true =>
    simp only[BX]at y;exact⟨DQ _,λ_=>by rw[a4 r y.1];exact h.2 (B5 y.2)⟩
  |bp b off =>
   simp only[bw];cases y:keys.any (B7 b) with
   |false=>trivial
   |true =>
    obtain⟨Z,h2,h3⟩:=h;exact⟨Z,I b y h2,by rw[hβ];exact h3⟩
  |clo f O =>
   simp only[bw];cases y:O.all (λb=>keys.any (B7 b)) with
   |false=>trivial
   |true =>
    obtain⟨Z,h2⟩:=h;rw[CL]at y;exact⟨by rw[hβ];exact Z,λb X=>⟨(h2 b X).1,I b (y b X) (h2 b X).2⟩⟩
  |_=>simp only[bw];trivial
 |own p E e =>
  cases M with
  |nil =>
   have Y:v=.slice none 0 0:=h;subst Y;rw[a1 rfl];exact OwH.nil w _ E e
  |own q hh E' e' xs =>
   cases hh with
   |some x=>simp only[bw];trivial
   |none =>
    simp only[bw];cases y:(!q||p) with
    |false=>trivial
    |true =>
     rw[a2 trivial];exact OwH.carry h (H p q y) (λ_ _=>rfl) (λ_ _=>rfl)
  |_=>simp only[bw];trivial
 |ro p E e =>
  cases M with
  |nil =>
   have Y:v=.slice none 0 0:=h;subst Y;exact Rd.nil w _ false E e
  |ro q E' e' xs =>
   simp only[bw];cases y:(!q||p) with
   |false=>trivial
   |true =>
    simp only[cond_true];split
    ·rename_i ys hc;exact Rd.castSh (m:=false) (m':=false) (E:=E) hc (Rd.mono (H p q y) h)
    ·trivial
  |own q hh E' e' xs =>
   cases hh with
   |some x=>simp only[bw];trivial
   |none =>
    have a6:=a3 trivial (by
     simp only[bw];cases (!q||p) with
     |false=>exact id
     |true=>simp only[cond_true];split <;> exact id) ⟨p,E,e,rfl⟩
    simp only[bw];cases y:(!q||p) with
    |false=>trivial
    |true =>
     simp only[cond_true];split
     ·rename_i ys hc;refine Rd.castSh (m:=false) (m':=false) (E:=E) (E':=E') hc (Rd.mono (λk z=>?_) (OwH.rd (m:=false) (E':=E') h));rcases z with z|z
      ·exact H p q y k z
      ·exact .inl (a6 k z)
     ·trivial
  |_=>simp only[bw];trivial
 |rp p =>
  cases M with
  |rpp q a x =>
   simp only[bw];cases y:(!q||p) with
   |false=>trivial
   |true =>
    obtain⟨b,ob,g,o',c,Y,a5,a0,hg,hr,hc⟩:=h;exact⟨b,ob,g,o',c,Y,a5.imp (J b) id,a0,hg.imp (J g) id,Rd.mono (H p q y) hr,hc⟩
  |rp q a x off =>
   simp only[bw];cases y:(!q||p) with
   |false=>trivial
   |true =>
    obtain⟨g,o',c,Y,hg,hr,hc⟩:=h;exact⟨g,o',c,Y,hg.imp (J g) id,Rd.mono (H p q y) hr,hc⟩
  |_=>simp only[bw];trivial
open Classical in
theorem vD (_hV:ay V){a:Act}{w:World}(h:Rel P V st a w)(live:List (Nat×List Coe))(b4:∀ x∈V.fixb,x.1∈live.map (·.1)):Rel P V (lW live st) a w:=by
 obtain⟨W,h⟩:=h;have J:=AW (st:=st) live;have Z:∀ b,Go.Proofs.YtadlacffdemoiaaGreatEv.live (lW live st) b->Go.Proofs.YtadlacffdemoiaaGreatEv.live st b:=by
  rintro b ⟨H,z⟩;rcases J b with ⟨e,_⟩|⟨cs,e,_⟩
  ·rw[e]at z;cases z
  ·rw[e]at z;exact⟨H,z⟩
 have a2:∀ (q j:Nat) (l:Leaf),(lW live st q).ls[j]?=some l->q∈live.map (·.1)/\∃ r,(st q).ls[j]?=some r/\(l=.dead\/∃ c,l=bw st (live.map (·.1)) c r):=by
  intro q j l X;rcases J q with ⟨e,_⟩|⟨cs,e,y⟩
  ·rw[e]at X;simp[bU.none]at X
  ·rw[e]at X;exact⟨y,pC _ _ _ _ _ X⟩
 have b5:∀ (q j:Nat) (l:Leaf),(lW live st q).ls[j]?=some l->ao l->∃ r,(st q).ls[j]?=some r/\(ao r\/r=.nil):=by
  intro q j l X ho;obtain⟨_,r,H,z⟩:=a2 q j l X;rcases z with rfl|⟨c,rfl⟩
  ·exact ho.elim
  ·exact⟨r,H,yn ho⟩
 have a0:∀ b,(live.map (·.1)).any (B7 b)=true->b∈live.map (·.1):=λb O=>by
  rw[Cl]at O;obtain⟨x,hx,he⟩:=O;rw[B5 he];exact hx
 let I:Nat->Nat->List Nat:=λq j=>if (∃ r,(st q).ls[j]?=some r/\ao r) then W.bs q j else []
 let a1:Nat->Prop:=λk=>W.nw k\/∃ q j r l,(st q).ls[j]?=some r/\ao r/\(lW live st q).ls[j]?=some l/\¬ ao l/\k∈W.bs q j
 have Y:∀ (q j k:Nat),k∈I q j->(∃ r,(st q).ls[j]?=some r/\ao r)/\k∈W.bs q j:=by
  intro q j k M;by_cases hc:∃ r,(st q).ls[j]?=some r/\ao r
  ·simp only[I,if_pos hc]at M;exact⟨hc,M⟩
  ·simp only[I,if_neg hc]at M;simp at M
 refine⟨{ β:=W.β,cs:=λq=>if q∈live.map (·.1) then W.cs q else [],bs:=I,nw:=a1 },?_⟩
 exact {
  nt:=h.nt,df:=h.df
  slots:=λt ht=>by
   rcases J t with ⟨e,y⟩|⟨cs,e,y⟩
   ·rw[e];simp[y,bU.none,ei]
   ·rw[e];simp only[y,if_true];exact h.slots t ht
  boxes:=λb O=>by
   rcases J b with ⟨e,y⟩|⟨cs,e,y⟩
   ·rw[e];exact .inl ⟨rfl,rfl⟩
   ·rw[e];rcases h.boxes b O with ⟨H,z⟩|⟨H,E,z⟩
    ·exact .inl ⟨H,by rw[z];exact List.eq_nil_of_length_eq_zero (by rw[kS];rfl)⟩
    ·exact .inr ⟨H,E,by simp only[y,if_true];exact z⟩
  len:=λq=>by
   rcases J q with ⟨e,y⟩|⟨cs,e,y⟩
   ·rw[e];simp[y,bU.none]
   ·rw[e];simp only[y,if_true,kS];exact h.len q
  one:=λq u hu=>by
   by_cases y:q∈live.map (·.1)
   ·simp only[y,if_true]at hu;exact h.one q u hu
   ·simp only[y,if_false]at hu;simp at hu
  leaf:=λq j l v X hv=>by
   obtain⟨y,r,H,z⟩:=a2 q j l X;simp only[y,if_true]at hv;have a9:=h.leaf q j r v H hv;rcases z with rfl|⟨c,rfl⟩
   ·trivial
   ·refine wX (st:=st) (W:=W) (W':={ β:=W.β,cs:=λq=>if q∈live.map (·.1) then W.cs q else [],bs:=I,nw:=a1 }) (keys:=live.map (·.1)) a9 (λk M=>Or.inl M) rfl (λq hq=>if_pos (a0 q hq)) ?_ ?_ ?_ ?_
    ·intro b O a5;have a4:=a0 b O;rcases J b with ⟨_,a3⟩|⟨cs,e,_⟩
     ·exact absurd a4 a3
     ·rw[e];exact a5
    ·intro ho;show I q j=_;simp only[I,if_pos (⟨r,H,ho⟩:∃ r,(st q).ls[j]?=some r/\ao r)]
    ·intro e;show I q j=_;have hc:¬ ∃ r,(st q).ls[j]?=some r/\ao r:=by
      rintro⟨l1,h3,h4⟩;rw[H,e]at h3;cases h3;exact h4.elim
     simp only[I,if_neg hc]
    ·intro ho hn _ k M;exact .inr ⟨q,j,r,_,H,ho,X,hn,M⟩
  ownb:=λq j l X ho k M=>by
   obtain⟨⟨r,H,z⟩,h3⟩:=Y q j k M;obtain⟨q1,q2,q3⟩:=h.ownb q j r H z k h3;refine⟨?_,q2,λb O=>q3 b (Z b O)⟩;rintro (hn|⟨q',j',l1,l2,h4,h5,h6,h7,h8⟩)
   ·exact q1 hn
   ·obtain⟨rfl,rfl⟩:=h.sep q j r q' j' l1 H z h4 h5 k h3 h8;rw[X]at h6;cases h6;exact h7 ho
  sep:=λq j l q' j' l' _ _ _ _ k M ad=>by
   obtain⟨⟨r,H,z⟩,h3⟩:=Y q j k M;obtain⟨⟨b1,a6,b0⟩,b2⟩:=Y q' j' k ad;exact h.sep q j r q' j' b1 H z a6 b0 k h3 b2
  box:=λb O=>by
   obtain⟨q1,q2⟩:=h.box b (Z b O);refine⟨?_,q2⟩;rintro (hn|⟨q',j',l1,l2,h4,h5,h6,h7,h8⟩)
   ·exact q1 hn
   ·exact (h.ownb q' j' l1 h4 h5 _ h8).2.2 b (Z b O) rfl
  inj:=λb b' O b3=>h.inj b b' (Z b O) (Z b' b3)
  nwlt:=λk M=>by
   rcases M with hn|⟨q',j',l1,l2,h4,h5,h6,h7,h8⟩
   ·exact h.nwlt k hn
   ·exact⟨h.own_lt h4 h5 k h8,(h.ownb q' j' l1 h4 h5 k h8).2.1⟩
  os:=h.os,tape:=h.tape,output:=h.output,size:=h.size,keep:=h.keep
  fixb:=λx hx=>by
   obtain⟨⟨H,z⟩,h3⟩:=h.fixb x hx;refine⟨⟨H,?_⟩,h3⟩;rcases J x.1 with ⟨_,y⟩|⟨cs,e,_⟩
   ·exact absurd (b4 x hx) y
   ·rw[e];exact z
  fixt:=h.fixt }
def exOf:Ex->Exit
 |.normal=>.normal
 |.exit id=>.exit id
 |.ret=>.ret
theorem mI {nt:Nat}{fix:List Nat}(u:V.nt=nt)(r:∀ x∈V.fixt,x.1∈fix)(h:ly nt fix all o=true):bP V o:=by
 intro d z;simp only[ly,z,BX,CZ,Cv]at h;obtain⟨⟨I,H⟩,_⟩:=h;refine⟨by rw[u];simpa[Ch]using I,λx y e=>?_⟩;exact H _ (r x y) (by simp[e])
end
section
variable {P:Program} {V:Env} {Γ:List Ctr} {T:TypeId->TI} {R:Type}
open Classical in
theorem uc {Q:Exit->Act->World->Prop}{a:Act}{w:World}{c:Code}(J:Nat->Act->World->Prop)(h0:∃ n,J n a w)(hz:∀ a w,¬ J 0 a w)
  (u:∀ n a w,J (n+1) a w->c.wp P (Exit.then (J n) Q) a w):(Code.loop c).wp P Q a w:=by
 have y:∀ (a:Act) (w:World) (n:Nat),J n a w->∃ m,J m a w/\m<=n/\∀ k,J k a w->m<=k:=by
  intro a w n;induction n using DT with
  |ind n ih =>
   intro H;by_cases h:∃ k,k<n/\J k a w
   ·obtain⟨k,O,hJ⟩:=h;obtain⟨m,r,I,M⟩:=ih k O hJ;exact⟨m,r,by omega,M⟩
   ·refine⟨n,H,C7 _,λk O=>?_⟩;apply CQ;intro a0;exact h ⟨k,by omega,O⟩
 let z:Act->World->Nat:=λa w=>if h:∃ m,J m a w/\∀ k,J k a w->m<=k then h.choose else 0
 have hμ:∀ a w n,J n a w->J (z a w) a w/\z a w<=n:=by
  intro a w n H;obtain⟨m,r,_,M⟩:=y a w n H;have h:∃ m,J m a w/\∀ k,J k a w->m<=k:=⟨m,r,M⟩;have e:z a w=h.choose:=by simp only[z];rw[dif_pos h]
  rw[e];exact⟨h.choose_spec.1,h.choose_spec.2 n H⟩
 refine wp_loop (λa w=>∃ n,J n a w) z h0 λa w ⟨n,H⟩=>?_
 obtain⟨r,_⟩:=hμ a w n H;cases X:z a w with
 |zero=>rw[X]at r;exact absurd r (hz a w)
 |succ m =>
  rw[X]at r;refine wp_mono (u m a w r) λe Y Z he=>?_
  cases e with
  |normal =>
   have I:J m Y Z:=he;exact⟨⟨m,I⟩,Nat.lt_succ_of_le (hμ Y Z m I).2⟩
  |_=>exact he
theorem zE {st:St}{a:Act}{w:World}(u:Rel P V st a w){t:Nat}(y:t<GH){b:Bool}(I:(st t).sh=.one)(z:(st t).ls=[.bool b]):a.eval (.tmp t)=.bool b:=by
 obtain⟨W,u⟩:=u;have r:=u.slots t y;rw[I]at r;have r:W.cs t=[a.tmps.getD t undef]:=r;have H:=u.leaf t 0 (.bool b) (a.tmps.getD t undef) (by rw[z];rfl) (by rw[r];rfl);exact H
theorem sy (hV:ay V)(hT:TOk P T)(hΓ:∀ c∈Γ,bR P c)(a4:P.follows .mixedOrders=true){fx:List Nat}(a5:∀ x∈V.fixb,x.1∈fx){nt:Nat}{fix:List Nat}(a1:V.nt=nt)(a3:∀ x∈V.fixt,x.1∈fix)
  {L:List (Nat×List (Nat×List Coe))} {O:Nat}:∀ (c:Code),dQ nt fix c=true->dp L fx c=true->∀ (st:St) (I:Ex->St->Option R) (r:R) (Q:Exit->Act->World->Prop),evK Γ T L O c st I=some r ->
   (∀ ex J,I ex J=some r->∀ a w,Rel P V J a w->Q (exOf ex) a w)->∀ a w,Rel P V st a w->c.wp P Q a w:=by
 intro c;induction c with
 |skip=>exact λ_ _ st I r Q h z a w u=>wp_skip (z .normal st h a w u)
 |region id a2 a9 =>
  intro hc hlp st I r Q h z a w u;simp only[dQ,CL]at hc;have a0:∀ (i:Nat) (o:Oper),a2[i]?=some o->ly nt fix a2 o=true:=λi o hi=>hc o (by simpa using C5 hi)
  refine BM hV hT hΓ a4 (λi o hi=>mI a1 a3 (a0 i o hi)) (λi o hi j a6 hg s hs=>?_) h (λJ H a w u=>z .normal J H a w u) u;have:=a0 i o hi;simp only[ly,hg,hs,BX]at this;rw[a1];simpa[Ch]using this.2
 |seq x y Z Y =>
  intro hc hlp st I r Q h z a w u;simp only[dQ,BX]at hc;simp only[dp,BX]at hlp;simp only[evK]at h;refine wp_seq (Z hc.1 hlp.1 st _ r _ h (λex J H a w u=>?_) a w u);cases ex with
  |normal=>exact Y hc.2 hlp.2 J I r Q H z a w u
  |exit id=>exact z (.exit id) J H a w u
  |ret=>exact z .ret J H a w u
 |cond t x y Z Y =>
  intro hc hlp st I r Q h z a w u;simp only[dQ,BX]at hc;simp only[dp,BX]at hlp;simp only[evK]at h;unfold zL at h;split at h
  ·rename_i t;split at h
   ·rename_i b H h2;have hv:=zE u (DH (by have:=hc.1.1;simp only[xb,Ch]at this;rw[a1];exact this) hV.nt) H h2;cases b with
    |true =>
     simp only[cond_true]at h;rw[pA H h2]at h;exact wp_cond_true hv (Z hc.1.2 hlp.1 st I r Q h z a w u)
    |false =>
     simp only[cond_false]at h;rw[pA H h2]at h;exact wp_cond_false hv (Y hc.2 hlp.2 st I r Q h z a w u)
   ·cases h
  ·rename_i b;cases b with
   |true=>exact wp_cond_true rfl (Z hc.1.2 hlp.1 st I r Q h z a w u)
   |false=>exact wp_cond_false rfl (Y hc.2 hlp.2 st I r Q h z a w u)
  ·cases h
 |block id c ih =>
  intro hc hlp st I r Q h z a w u;simp only[dQ]at hc;simp only[dp]at hlp;simp only[evK]at h;refine wp_block (ih hc hlp st _ r _ h (λex J H a w u=>?_) a w u);cases ex with
  |normal=>exact z .normal J H a w u
  |exit M =>
   simp only[sE]at H;show if M=id then Q .normal a w else Q (.exit M) a w
   by_cases e:M=id
   ·rw[if_pos e];subst e;simp only[Nat.beq_refl,cond_true]at H;exact z .normal J H a w u
   ·rw[if_neg e];have hb:B7 M id=false:=by
     cases hb:B7 M id with
     |false=>rfl
     |true=>exact absurd (B5 hb) e
    rw[hb]at H;exact z (.exit M) J H a w u
  |ret=>exact z .ret J H a w u
 |loop c ih =>
  intro hc hlp st I r Q h z a w u;simp only[dQ]at hc;simp only[dp,BX,CL]at hlp;simp only[evK]at h;have X:∀ x∈V.fixb,x.1∈(lx L (eT c)).map (·.1):=λx hx=>by
   obtain⟨r,u,he⟩:=Cl.1 (hlp.1 x.1 (a5 x hx));exact B9.2 ⟨r,u,B5 he⟩
  refine uc (λn a w=>∃ st,aU (lx L (eT c)) (evK Γ T L O c) n st I=some r/\Rel P V st a w) ⟨O,_,h,vD hV u _ X⟩ ?_ ?_
  ·rintro a w ⟨st,H,_⟩;cases H
  ·rintro n a w ⟨st,H,u⟩;simp only[aU]at H;refine ih hc hlp.2 st _ r _ H (λex J h2 a w u=>?_) a w u;cases ex with
   |normal=>exact⟨_,h2,vD hV u _ X⟩
   |exit id=>exact z (.exit id) J h2 a w u
   |ret=>exact z .ret J h2 a w u
 |exit id=>exact λ_ _ st I r Q h z a w u=>wp_exit (z (.exit id) st h a w u)
 |ret=>exact λ_ _ st I r Q h z a w u=>wp_ret (z .ret st h a w u)
 |_=>intro _ _ st I r Q h;simp[evK]at h
end
section
variable {P:Program} {Γ:List Ctr} {T:TypeId->TI} {R:Type} {w:World} {ro pr:Nat->Prop}
theorem jc {G:Nat->Prop}{p:Bool}:∀ {b:Ty} {h:Option Nat} {pos:Nat} {x:b.den} {cs:List Value} {bs:List Nat},Mx w G b h pos x cs bs->bs.Nodup ->
  ∃ a2:Nat->List Nat,
   (∀ (V:Env) (W:Wit) (st:St),(∀ k,G k->gd V W p k)->∀ (j:Nat) (l:Leaf) (u:Value),h≠some (pos+j)->(aq p b x)[j]?=some l->cs[j]?=some u->aI P V W st w (a2 j) l u) /\
   (∀ (j:Nat) (l:Leaf),h≠some (pos+j)->(aq p b x)[j]?=some l->ao l->∀ k∈a2 j,k∈bs) /\
   (∀ (j J:Nat) (l l':Leaf),h≠some (pos+j)->h≠some (pos+J)->(aq p b x)[j]?=some l->ao l->(aq p b x)[J]?=some l'->ao l'->∀ k,k∈a2 j->k∈a2 J->j=J)
 |.int k,_,_,x,cs,bs,H,_=>by
  obtain⟨rfl,rfl⟩:=H;exact⟨λ_=>[],λV W st _ j l u _ y X=>by cases j with|zero=>simp[aq]at y X;subst y;subst X;rfl|succ j=>simp[aq]at y,λj l _ y _ k r=>by simp at r,λj J l l' _ _ _ _ _ _ k r=>by simp at r⟩
 |.bool,_,_,x,cs,bs,H,_=>by
  obtain⟨rfl,rfl⟩:=H;exact⟨λ_=>[],λV W st _ j l u _ y X=>by cases j with|zero=>simp[aq]at y X;subst y;subst X;rfl|succ j=>simp[aq]at y,λj l _ y _ k r=>by simp at r,λj J l l' _ _ _ _ _ _ k r=>by simp at r⟩
 |.str,_,_,x,cs,bs,H,_=>by
  obtain⟨rfl,rfl⟩:=H;exact⟨λ_=>[],λV W st _ j l u _ y X=>by cases j with|zero=>simp[aq]at y X;subst y;subst X;rfl|succ j=>simp[aq]at y,λj l _ y _ k r=>by simp at r,λj J l l' _ _ _ _ _ _ k r=>by simp at r⟩
 |.unit,_,_,x,cs,bs,H,_=>by
  obtain⟨rfl,rfl⟩:=H;exact⟨λ_=>[],λV W st _ j l u _ y X=>by simp[aq]at y,λj l _ y _ k r=>by simp at r,λj J l l' _ _ _ _ _ _ k r=>by simp at r⟩
 |.hdr,_,_,x,cs,bs,H,_=>by
  obtain⟨⟨A,a9,rfl⟩,rfl⟩:=H;exact⟨λ_=>[],λV W st _ j l u _ y X=>by cases j with|zero=>simp[aq]at y X;subst y;subst X;exact⟨A,a9,rfl⟩|succ j=>simp[aq]at y,λj l _ y _ k r=>by simp at r,λj J l l' _ _ _ _ _ _ k r=>by simp at r⟩
 |.pair b c,h,pos,x,cs,bs,⟨c1,c2,b1,b2,e1,e2,y,X⟩,Z=>by
  subst e1;subst e2;rw[Cc]at Z;obtain⟨d1,f2,f3,f4⟩:=jc y Z.1;obtain⟨d2,g2,g3,g4⟩:=jc X Z.2.1;have ad:=cI p b x.1;have b0:=y.len;have I:∀ (j:Nat) (l:Leaf),(aq p b x.1++aq p c x.2)[j]?=some l->(j<b.cells/\(aq p b x.1)[j]?=some l)\/(b.cells<=j/\(aq p c x.2)[j-b.cells]?=some l):=by
   intro j l z;by_cases O:j<b.cells
   ·rw[CP (by omega)]at z;exact .inl ⟨O,z⟩
   ·rw[CN (by omega),ad]at z;exact .inr ⟨by omega,z⟩
  have a0:∀ j,b.cells<=j->h≠some (pos+j)->h≠some (pos+b.cells+(j-b.cells)):=λj z hh=>by rwa [show pos+b.cells+(j-b.cells)=pos+j by omega]
  refine⟨λj=>if j<b.cells then d1 j else d2 (j-b.cells),λV W st hG j l u hh z hu=>?_,λj l hh z ho k r=>?_,λj J l l' hh a4 z ho Y a3 k r M=>?_⟩
  ·rcases I j l z with ⟨O,z⟩|⟨a1,z⟩
   ·rw[CP (by omega)]at hu;simp only[if_pos O];exact f2 V W st hG j l u hh z hu
   ·rw[CN (by omega),b0]at hu;simp only[if_neg (show ¬ j<b.cells by omega)];exact g2 V W st hG _ l u (a0 j a1 hh) z hu
  ·rcases I j l z with ⟨O,z⟩|⟨a1,z⟩
   ·simp only[if_pos O]at r;exact BY _ (f3 j l hh z ho k r)
   ·simp only[if_neg (show ¬ j<b.cells by omega)]at r;exact BZ _ (g3 _ l (a0 j a1 hh) z ho k r)
  ·rcases I j l z with ⟨O,z⟩|⟨a1,z⟩ <;> rcases I J l' Y with ⟨a5,Y⟩|⟨a6,Y⟩
   ·simp only[if_pos O]at r;simp only[if_pos a5]at M;exact f4 j J l l' hh a4 z ho Y a3 k r M
   ·simp only[if_pos O]at r;simp only[if_neg (show ¬ J<b.cells by omega)]at M;exact absurd rfl (Z.2.2 k (f3 j l hh z ho k r) k (g3 _ l' (a0 J a6 a4) Y a3 k M))
   ·simp only[if_neg (show ¬ j<b.cells by omega)]at r;simp only[if_pos a5]at M;exact absurd rfl (Z.2.2 k (f3 J l' a4 Y a3 k M) k (g3 _ l (a0 j a1 hh) z ho k r))
   ·simp only[if_neg (show ¬ j<b.cells by omega)]at r;simp only[if_neg (show ¬ J<b.cells by omega)]at M;have:=g4 _ _ l l' (a0 j a1 hh) (a0 J a6 a4) z ho Y a3 k r M;omega
 |.list m E e,h,pos,xs,cs,bs,H,Z=>by
  cases m with
  |false =>
   rw[co]at H;obtain⟨rfl,A,a9,rfl,X,h3⟩:=H;refine⟨λ_=>[],λV W st hG j l u _ y h4=>?_,λj l _ y _ k r=>by simp at r,λj J l l' _ _ _ _ _ _ k r=>by simp at r⟩;cases j with
   |zero =>
    simp[aq]at y h4;subst y;subst h4;exact Rd.mono hG (⟨A,a9,rfl,X,h3⟩:Rd w G (.list false E e) xs _)
   |succ j=>simp[aq]at y
  |true =>
   refine⟨λ_=>bs,λV W st hG j l u hh y h4=>?_,λj l _ y _ k r=>r,λj J l l' _ _ y _ h3 _ k _ _=>?_⟩
   ·cases j with
    |zero =>
     rw[Nat.add_zero]at hh;rw[bJ hh]at H;obtain⟨v,rfl,hO⟩:=H;simp[aq]at y h4;subst y;subst h4;exact⟨Z,OwB.shy (hO.carry hG (λ_ _=>rfl) (λ_ _=>rfl))⟩
    |succ j=>simp[aq]at y
   ·have h7:j<1:=by simpa[aq]using (B8.1 y).1
    have h8:J<1:=by simpa[aq]using (B8.1 h3).1
    omega
theorem mJ {p:Bool}{off:Nat}:∀ {a:Ty} {pos:Nat} {x:a.den} {E:TypeId} {e:Ty} {xs:List e.den},bf off a pos x=some ⟨E,e,xs⟩->(aq p a x)[off-pos]?=some (.own (p&&e.shy) none E e xs)
 |.pair a b,pos,x,E,e,xs,h=>by
  have H:=cI p a x.1;simp only[bf]at h;simp only[aq];split at h
  ·rename_i u z;simp only[BV]at h;subst h;have y:=gD z;rw[CP (by omega)];exact mJ z
  ·have y:=gD h;rw[CN (by omega),H,show off-pos-a.cells=off-(pos+a.cells) by omega];exact mJ h
 |.list m I J,pos,M,E,e,xs,h=>by
  simp only[bf]at h;cases r:m&&B7 pos off with
  |false=>simp[r]at h
  |true =>
   rw[r]at h;simp only[cond_true,BV,Sigma.mk.injEq]at h;obtain⟨rfl,h⟩:=h;simp only[BX]at r;obtain⟨rfl,r⟩:=r;have r:=B5 r;subst r;rw[heq_eq_eq,Sigma.mk.injEq]at h;obtain⟨rfl,h⟩:=h;rw[heq_eq_eq]at h;subst h;simp[aq]
 |.int _,_,_,_,_,_,h=>by simp[bf]at h
 |.bool,_,_,_,_,_,h=>by simp[bf]at h
 |.str,_,_,_,_,_,h=>by simp[bf]at h
 |.unit,_,_,_,_,_,h=>by simp[bf]at h
 |.hdr,_,_,_,_,_,h=>by simp[bf]at h
theorem ud (V:Env)(W:Wit)(H:V.ro0=ro)(r:V.prot=pr):∀ {cs:List (Bool×Ty)} {x:lR cs} {us:List Value},jH w ro pr cs x us->us.length=(jV true cs x).length /\
  ∀ (i:Nat) (c:Bool×Bool×(a:Ty)×a.den) (u:Value),(jV true cs x)[i]?=some c->us[i]?=some u->iR V W w c u
 |[],_,us,h=>by
  have h:us=[]:=h;subst h;exact⟨rfl,λi c u z _=>by simp[jV]at z⟩
 |c::cs,x,us,⟨u,a0,e,z,h2⟩=>by
  subst e;obtain⟨i1,i2⟩:=ud V W H r h2;refine⟨by simp[jV,i1],λi c' u' J h4=>?_⟩;cases i with
  |succ i=>exact i2 i c' u' (by simpa[jV]using J) (by simpa using h4)
  |zero =>
   simp[jV]at J h4;subst J;subst h4;have hG:∀ k,ro k->gd V W true k:=λk hk=>.inr ⟨rfl,by rw[H];exact hk⟩
   unfold iR;unfold gT at z;split at z
   ·rename_i I;simp only[I,if_true];obtain⟨b,ob,g,o,O,Y,X,y,Z,M,hc⟩:=z;exact⟨b,ob,g,o,O,Y,.inr (by rw[r];exact X),y,.inr (by rw[r];exact Z),M.mono hG,hc⟩
   ·rename_i I;have I:c.1=false:=by simpa using I
    simp only[I,Cp,if_false];obtain⟨g,o,O,Y,Z,M,hc⟩:=z;exact⟨g,o,O,by rw[Y];rfl,.inr (by rw[r];exact Z),M.mono hG,hc⟩
structure Ent where
 r:Nat
 c:bU
 cs:List Value
 bs:Nat->List Nat
 bl:List Nat
 g:Nat
structure qu (P:Program) (w:World) (ro pr:Nat->Prop) (bx:List (Nat×Nat)) (e:Ent):Prop where
 len:e.c.ls.length=e.cs.length
 one:∀ u∈e.cs,u.oneCell'=true
 leaf:∀ (V:Env) (W:Wit) (st:St),V.w0=w->V.ro0=ro->V.prot=pr->(∀ z∈bx,B0<=z.1/\(st z.1).sh=.agg/\W.β z.1=z.2)->∀ (j:Nat) (l:Leaf) (u:Value),e.c.ls[j]?=some l->e.cs[j]?=some u->aI P V W st w (e.bs j) l u
 own:∀ (j:Nat) (l:Leaf),e.c.ls[j]?=some l->ao l->∀ k∈e.bs j,k∈e.bl
 sep:∀ (j j':Nat) (l l':Leaf),e.c.ls[j]?=some l->ao l->e.c.ls[j']?=some l'->ao l'->∀ k,k∈e.bs j->k∈e.bs j'->j=j'
 box:B0<=e.r->e.c.sh=.agg/\e.g∈e.bl/\(∀ (j:Nat) (l:Leaf),e.c.ls[j]?=some l->ao l->e.g∉e.bs j)/\(∃ E,w.heap[e.g]?=some (.cells e.cs.toArray E (0,0)))/\(e.r,e.g)∈bx
theorem qu.mono {y r:List (Nat×Nat)}{e:Ent}(h:qu P w ro pr y e)(u:∀ z∈y,z∈r):qu P w ro pr r e :=
  { len:=h.len,one:=h.one,own:=h.own,sep:=h.sep
    leaf:=λV W st O H M X=>h.leaf V W st O H M (λz I=>X z (u z I))
    box:=λJ=>by obtain⟨Z,Y,q3,q4,q5⟩:=h.box J;exact⟨Z,Y,q3,q4,u _ q5⟩ }
structure wY (P:Program) (w:World) (ro pr:Nat->Prop) (t:Nat) (pk:PK) (v:Value) (b:List Nat) (bx:List (Nat×Nat)) (es:List Ent):Prop where
 bl:es.flatMap (·.bl)=b
 ok:∀ e∈es,qu P w ro pr bx e
 at_:∀ e∈es,e.r=t\/e.r=B0+t
 nod:(es.map (·.r)).Nodup
 slot:∃ e∈es,e.r=t/\ei e.c.sh v e.cs
 bxs:∀ z∈bx,z.1=B0+t/\(∃ e∈es,e.r=B0+t/\e.g=z.2)
theorem ue (t n:Nat){a:Ty}{x:a.den}{v:Value}{cs:List Value}{b:List Nat}(O:b.Nodup)(h1:db a.isAgg v cs)(I:Mx w ro a none 0 x cs b)(a0:t<B0) :
    ∃ Y,wY P w ro pr t (.own a) v b [] Y/\[((t,⟨n,bk a.isAgg,aq true a x⟩):Nat×bU)]=Y.map (λe=>(e.r,e.c)):=by
  obtain⟨J,m1,m2,m3⟩:=jc (P:=P) (p:=true) I O;have H:∀ j,(none:Option Nat)≠some (0+j):=λj=>by simp
  refine⟨[⟨t,⟨n,bk a.isAgg,aq true a x⟩,cs,J,b,0⟩],⟨by simp,?_,by simp,by simp,⟨_,CJ _,rfl,kf h1⟩,by simp⟩,rfl⟩;intro e Z;simp only[CV]at Z;subst Z
  exact { len := by show (aq true a x).length = _; rw [cI, I.len]
          one:=I.one
          leaf:=λV W st _ M _ _ j l u y z=>m1 V W st (λk hk=>.inr ⟨rfl,by rw[M];exact hk⟩) j l u (H j) y z
          own:=λj l y z=>m2 j l (H j) y z
          sep:=λj X l l' y z h5 h6=>m3 j X l l' (H j) (H X) y z h5 h6
          box:=λhr=>absurd hr (by show ¬ B0<=t;omega) }
theorem ol (t:Nat){l:Leaf}{v:Value}{pk:PK}(a0:t<B0)(J:¬ ao l)(h1:v.oneCell'=true)(z:∀ (V:Env) (W:Wit) (st:St),V.w0=w->V.ro0=ro->V.prot=pr->aI P V W st w [] l v) :
    ∃ Z,wY P w ro pr t pk v [] [] Z/\[((t,⟨0,.one,[l]⟩):Nat×bU)]=Z.map (λe=>(e.r,e.c)):=by
  refine⟨[⟨t,⟨0,.one,[l]⟩,[v],λ_=>[],[],0⟩],⟨by simp,?_,by simp,by simp,⟨_,CJ _,rfl,rfl⟩,by simp⟩,rfl⟩;intro e he;simp only[CV]at he;subst he;have X:∀ (j:Nat) (y:Leaf),[l][j]?=some y->j=0/\y=l:=λj y M=>by
    cases j with
    |zero=>simp at M;exact⟨rfl,M.symm⟩
    |succ j=>simp at M
  exact { len := rfl
          one:=λu hu=>by simp at hu;subst hu;exact h1
          leaf:=λV W st hw O Y _ j y u I H=>by
            obtain⟨rfl,rfl⟩:=X j y I;simp at H;subst H;exact z V W st hw O Y
          own:=λj y I H=>by obtain⟨_,rfl⟩:=X j y I;exact absurd H J
          sep:=λj j' l1 l2 I H=>by obtain⟨_,rfl⟩:=X j l1 I;exact absurd H J
          box:=λhr=>absurd hr (by show ¬ B0<=t;omega) }
def uf:Value->Nat
 |.pointer (some a)=>a.block
 |_=>0
def ea (t:Nat):List PK->List Value->List (Nat×Nat)
 |.iop _::u,v::r=>(B0+t,uf v)::ea (t+1) u r
 |_::u,_::r=>ea (t+1) u r
 |_,_=>[]
def ee (t:Nat):List PK->List Value->List (Nat×Value)
 |.io _::u,v::r=>(t,v)::ee (t+1) u r
 |.iop _::u,v::r=>(t,v)::ee (t+1) u r
 |_::u,_::r=>ee (t+1) u r
 |_,_=>[]
def PK.bx (t:Nat)(v:Value):PK->List (Nat×Nat)
 |.iop _=>[(B0+t,uf v)]
 |_=>[]
theorem BN (t:Nat)(a1:t<B0){pk:PK}{ps:List PK}{x:ab (pk::ps)}{v:Value}{b:List Nat}(a0:b.Nodup)(h:oh P w ro pr pk x.1 v b) :
    ∃ es,wY P w ro pr t pk v b (pk.bx t v) es/\dj t (pk::ps) x=es.map (λe=>(e.r,e.c))++dj (t+1) ps x.2:=by
  cases pk with
  |rd a =>
    obtain⟨rfl,cs,h1,h2⟩:=h;refine⟨[⟨t,⟨0,bk a.isAgg,cJ true a x.1⟩,cs,λ_=>[],[],0⟩],⟨by simp,?_,by simp,by simp,⟨_,CJ _,rfl,kf h1⟩,by simp[PK.bx]⟩,rfl⟩;intro e he;simp only[CV]at he;subst he;have ba:∀ (V:Env) (W:Wit) (st:St),V.ro0=ro->aC P V W st w (cJ true a x.1) cs:=λV W st J=>eY (G:=ro) (λk I=>.inr ⟨rfl,by rw[J];exact I⟩) h2
    have a9:∀ (j:Nat) (l:Leaf),(cJ true a x.1)[j]?=some l->¬ ao l:=λj l M=>by
      have hl:=gP true a x.1;have hc:=h2.len;have c1:=(B8.1 M).1;exact ((ba ⟨w,ro,[],0,[],[]⟩ ⟨λ_=>0,λ_=>[],λ_ _=>[],λ_=>False⟩ (λ_=>bU.none) rfl).at_ j l _ M (CF (by omega))).2.1
    exact { len := by show (cJ true a x.1).length = _; rw [gP, h2.len]
            one:=h2.one
            leaf:=λV W st _ J _ _ j l u y H=>((ba V W st J).at_ j l u y H).1
            own:=λj l y H=>absurd H (a9 j l y)
            sep:=λj j' l l' y H=>absurd H (a9 j l y)
            box:=λhr=>absurd hr (by show ¬ B0<=t;omega) }
  |own a =>
    obtain⟨cs,h1,h2⟩:=h;obtain⟨es,y,H⟩:=ue (P:=P) (pr:=pr) t 0 a0 h1 h2 a1;exact⟨es,⟨y.bl,y.ok,y.at_,y.nod,y.slot,y.bxs⟩,by rw[<- H];rfl⟩
  |io a =>
    obtain⟨cs,h1,h2⟩:=h;obtain⟨es,y,H⟩:=ue (P:=P) (pr:=pr) t 7 a0 h1 h2 a1;exact⟨es,⟨y.bl,y.ok,y.at_,y.nod,y.slot,y.bxs⟩,by rw[<- H];rfl⟩
  |rref a =>
    obtain⟨rfl,h⟩:=h;unfold gT at h;rw[if_neg (by simp)]at h;obtain⟨g,o,c,hv,hg,hr,hc⟩:=h;subst hv;obtain⟨es,y,H⟩:=ol (P:=P) (w:=w) (ro:=ro) (pr:=pr) t (pk:=.rref a) (l:=.rp true a x.1 0) (v:=.pointer (some ⟨g,o,none⟩)) a1 id rfl (λV W st hw J O=>⟨g,o,c,rfl,.inr (by rw[O];exact hg),hr.mono (λk I=>.inr ⟨rfl,by rw[J];exact I⟩),hc⟩);exact⟨es,y,by rw[<- H];rfl⟩
  |rref2 a =>
    obtain⟨rfl,h⟩:=h;unfold gT at h;rw[if_pos rfl]at h;obtain⟨b,ob,g,o,c,hv,hb,a5,hg,hr,hc⟩:=h;subst hv;obtain⟨es,y,H⟩:=ol (P:=P) (w:=w) (ro:=ro) (pr:=pr) t (pk:=.rref2 a) (l:=.rpp true a x.1) (v:=.pointer (some ⟨b,ob,none⟩)) a1 id rfl (λV W st hw J O=>⟨b,ob,g,o,c,rfl,.inr (by rw[O];exact hb),a5,.inr (by rw[O];exact hg),hr.mono (λk I=>.inr ⟨rfl,by rw[J];exact I⟩),hc⟩);exact⟨es,y,by rw[<- H];rfl⟩
  |fn As B =>
    obtain⟨rfl,h⟩:=h;have bb:v.oneCell'=true:=by
      obtain⟨f,c0,e,_⟩:=h;rw[e];rfl
    obtain⟨es,y,H⟩:=ol (P:=P) (w:=w) (ro:=ro) (pr:=pr) t (pk:=.fn As B) (l:=.fn As B x.1) (v:=v) a1 id bb (λV W st hw J O=>by
      show il P V.w0 V.prot As B x.1 v;rw[hw,O];exact h)
    exact⟨es,y,by rw[<- H];rfl⟩
  |clo f cs =>
    obtain⟨rfl,us,e,h⟩:=h;subst e;obtain⟨es,y,H⟩:=ol (P:=P) (w:=w) (ro:=ro) (pr:=pr) t (pk:=.clo f cs) (l:=.clr f (jV true cs x.1)) (v:=.func (.func f) #[] us.toArray) a1 id rfl (λV W st hw J O=>by
      obtain⟨i1,i2⟩:=ud V W J O h;exact⟨us,rfl,i1,i2⟩)
    exact⟨es,y,by rw[<- H];rfl⟩
  |iop a =>
    obtain⟨g,c,E,b0,hv,hg,hm,rfl⟩:=h;subst hv;rw[CW]at a0;obtain⟨a6,m1,m2,m3⟩:=jc (P:=P) (p:=true) hm a0.2;have hn:∀ j,(none:Option Nat)≠some (0+j):=λj=>by simp
    have Y:t≠B0+t:=by simp[B0]
    refine⟨[⟨t,⟨0,.one,[.bp (B0+t) 0]⟩,[.pointer (some ⟨g,0,none⟩)],λ_=>[],[],0⟩,⟨B0+t,⟨0,.agg,aq true a x.1⟩,c,a6,g::b0,g⟩],
      ⟨by simp,?_,λe he=>by simp at he;rcases he with rfl|rfl <;> simp,by rw[CM,CM,DW,CW];exact⟨by simpa using Y,by simp⟩,⟨_,B4 ..,rfl,rfl⟩,λz hz=>?_⟩,rfl⟩
    · intro e he
      simp only[CC,List.not_mem_nil,or_false]at he;rcases he with rfl|rfl
      · have h0:∀ (j:Nat) (l':Leaf),[Leaf.bp (B0+t) 0][j]?=some l'->j=0/\l'=.bp (B0+t) 0:=λj l' M=>by
          cases j with
          |zero=>simp at M;exact⟨rfl,M.symm⟩
          |succ j=>simp at M
        exact { len := rfl
                one:=λu hu=>by simp at hu;subst hu;rfl
                leaf:=λV W st hw J O hb j l' u y H=>by
                  obtain⟨rfl,rfl⟩:=h0 j l' y;simp at H;subst H;obtain⟨q1,q2,q3⟩:=hb (B0+t,g) (CJ _);exact⟨q1,q2,by rw[q3]⟩
                own:=λj l' y H=>by obtain⟨_,rfl⟩:=h0 j l' y;exact H.elim
                sep:=λj j' l1 l2 y H=>by obtain⟨_,rfl⟩:=h0 j l1 y;exact H.elim
                box:=λhr=>absurd hr (by show ¬ B0<=t;omega) }
      · exact { len := by show (aq true a x.1).length = _; rw [cI, hm.len]
                one:=hm.one
                leaf:=λV W st _ J _ _ j l u y H=>m1 V W st (λk I=>.inr ⟨rfl,by rw[J];exact I⟩) j l u (hn j) y H
                own:=λj l y H k I=>B3 _ (m2 j l (hn j) y H k I)
                sep:=λj j' l l' y H h5 h6=>m3 j j' l l' (hn j) (hn j') y H h5 h6
                box:=λ_=>⟨rfl,B4 ..,λj l y H I=>a0.1 (m2 j l (hn j) y H g I),⟨E,hg⟩,CJ _⟩ }
    · simp only[PK.bx,CV]at hz
      subst hz;exact⟨rfl,_,B3 _ (CJ _),rfl,rfl⟩
  |hol a c off =>
    obtain⟨cs,u,b0,b1,E,e,xs,h1,h2,y,H,h5,h6⟩:=h;have a2:=bu.1 a0;have b3:b0.Nodup:=bu.2 λk=>by have:=a2 k;have:=h6 k;omega
    have b5:b1.Nodup:=bu.2 λk=>by have:=a2 k;have:=h6 k;omega
    have a4:∀ k,k∈b0->k∉b1:=λk I Z=>by
      have:=a2 k;have:=h6 k;have:=CK.2 I;have:=CK.2 Z;omega
    have ad:∀ k∈b0,k∈b:=λk I=>CK.1 (by have:=h6 k;have:=CK.2 I;omega)
    have b9:∀ k∈b1,k∈b:=λk I=>CK.1 (by have:=h6 k;have:=CK.2 I;omega)
    obtain⟨a6,m1,m2,m3⟩:=jc (P:=P) (p:=true) h2 b3;have Y:∀ j,j≠c->(some c:Option Nat)≠some (0+j):=λj M=>by simp;omega
    have b2:=mJ (p:=true) H;rw[Nat.sub_zero]at b2;have bn:(aq true a x.1.1).getD c .dead=.own (true&&e.shy) none E e xs:=by rw[CD,b2];rfl
    refine⟨[⟨t,⟨0,bk a.isAgg,aT (aq true a x.1.1) c (.own (true&&e.shy) (some (x.1.2,off)) E e xs)⟩,cs,λj=>if j=c then b1 else a6 j,b,0⟩],
      ⟨by simp,?_,by simp,by simp,⟨_,CJ _,rfl,kf h1⟩,by simp[PK.bx]⟩,?_⟩
    · intro en he
      simp only[CV]at he;subst he;have X:∀ (j:Nat) (l:Leaf),(aT (aq true a x.1.1) c (.own (true&&e.shy) (some (x.1.2,off)) E e xs))[j]?=some l->(j=c/\l=.own (true&&e.shy) (some (x.1.2,off)) E e xs)\/(j≠c/\(aq true a x.1.1)[j]?=some l):=by
        intro j l M;rcases aS _ _ _ _ _ M with ⟨q1,q2,_⟩|⟨q1,q2⟩
        · exact .inl ⟨q1,q2⟩
        · exact .inr ⟨q1,q2⟩
      exact { len := by show (aT (aq true a x.1.1) c _).length = _; simp only [aT, List.length_set]; rw [cI, h2.len]
              one:=h2.one
              leaf:=λV W st _ J _ _ j l u' h7 h8=>by
                have h8:cs[j]?=some u':=h8;rcases X j l h7 with ⟨rfl,rfl⟩|⟨M,h7⟩
                · rw[y]at h8
                  simp only[BV]at h8;subst h8;simp only[if_true];exact⟨b5,OwB.shy (p:=true) (h5.carry (λk I=>.inr ⟨rfl,by rw[J];exact I⟩) (λ_ _=>rfl) (λ_ _=>rfl))⟩
                · simp only[if_neg M]
                  exact m1 V W st (λk I=>.inr ⟨rfl,by rw[J];exact I⟩) j l u' (Y j M) h7 h8
              own:=λj l h7 h8 k I=>by
                rcases X j l h7 with ⟨rfl,rfl⟩|⟨M,h7⟩
                · simp only[if_true]at I;exact b9 k I
                · simp only[if_neg M]at I;exact ad k (m2 j l (Y j M) h7 h8 k I)
              sep:=λj j' l l' h7 h8 h9 b4 k I Z=>by
                rcases X j l h7 with ⟨rfl,rfl⟩|⟨M,h7⟩ <;> rcases X j' l' h9 with ⟨rfl,rfl⟩|⟨a3,h9⟩
                · rfl
                · simp only[if_true]at I;simp only[if_neg a3]at Z
                  exact absurd I (a4 k (m2 j' l' (Y j' a3) h9 b4 k Z))
                · simp only[if_neg M]at I;simp only[if_true]at Z
                  exact absurd Z (a4 k (m2 j l (Y j M) h7 h8 k I))
                · simp only[if_neg M]at I;simp only[if_neg a3]at Z
                  exact m3 j j' l l' (Y j M) (Y j' a3) h7 h8 h9 b4 k I Z
              box:=λhr=>absurd hr (by show ¬ B0<=t;omega) }
    · show (t,(⟨0,bk a.isAgg,aT (aq true a x.1.1) c (uU x.1.2 off ((aq true a x.1.1).getD c .dead))⟩:bU))::dj (t+1) ps x.2=_
      rw[bn];rfl
theorem ug:∀ {ps:List PK} {x:ab ps} {u:List Value} {r:List (List Nat)},c9 P w ro pr ps x u r->u.length=ps.length
 |[],_,_,_,h=>by rw[h.1];rfl
 |_::_,_,_,_,⟨_,_,_,_,e,_,_,h⟩=>by rw[e,Cb,Cb,ug h]
theorem vE:∀ (ps:List PK) (x:ab ps) (Z:List Value) (H:List (List Nat)) (t:Nat),c9 P w ro pr ps x Z H->H.flatten.Nodup->t+ps.length<=B0 ->
  ∃ J:List Ent,dj t ps x=J.map (λe=>(e.r,e.c))/\J.flatMap (·.bl)=H.flatten/\(∀ e∈J,qu P w ro pr (ea t ps Z) e) /\
   (∀ e∈J,(t<=e.r/\e.r<t+ps.length)\/(B0+t<=e.r/\e.r<B0+t+ps.length))/\(J.map (·.r)).Nodup /\
   (∀ (i:Nat) (v:Value),Z[i]?=some v->∃ e∈J,e.r=t+i/\ei e.c.sh v e.cs)/\(∀ z∈ea t ps Z,∃ e∈J,e.r=z.1/\e.g=z.2/\B0<=z.1)
 |[],x,Z,H,t,⟨e1,e2⟩,_,_=>by
  subst e1;subst e2;exact⟨[],rfl,rfl,by simp,by simp,by simp,λi v h=>by simp at h,by simp[ea]⟩
 |pk::ps,x,Z,H,t,⟨v,Y,b,a1,e1,e2,h1,h2⟩,O,hB=>by
  subst e1;subst e2;rw[CE,Cc]at O;simp only[Cb]at hB;obtain⟨a2,X,p2⟩:=BN t (by omega) (ps:=ps) (x:=x) O.1 h1;obtain⟨a5,q1,q2,q3,q4,q5,q6,q7⟩:=vE ps x.2 Y a1 (t+1) h2 O.2.1 (by omega);have a0:ea t (pk::ps) (v::Y)=pk.bx t v++ea (t+1) ps Y:=by cases pk <;> rfl
  refine⟨a2++a5,by rw[p2,q1,Cn],by rw[List.flatMap_append,X.bl,q2,CE],λe y=>?_,λe y=>?_,?_,λi u hi=>?_,λz I=>?_⟩
  ·rw[a0];rcases BW.1 y with y|y
   ·exact (X.ok e y).mono (λz I=>BY _ I)
   ·exact (q3 e y).mono (λz I=>BZ _ I)
  ·simp only[Cb];rcases BW.1 y with y|y
   ·rcases X.at_ e y with h|h <;> omega
   ·rcases q4 e y with h|h <;> omega
  ·rw[Cn,Cc];refine⟨X.nod,q5,λa ha b' a4 e0=>?_⟩;subst e0;obtain⟨e,y,rfl⟩:=B9.1 ha;obtain⟨e',a3,e1⟩:=B9.1 a4;rcases X.at_ e y with h|h <;> rcases q4 e' a3 with h'|h' <;> omega
  ·cases i with
   |zero =>
    simp at hi;subst hi;obtain⟨e,y,h3,M⟩:=X.slot;exact⟨e,BY _ y,by omega,M⟩
   |succ i =>
    obtain⟨e,y,h3,M⟩:=q6 i u (by simpa using hi);exact⟨e,BZ _ y,by omega,M⟩
  ·rw[a0]at I;rcases BW.1 I with I|I
   ·obtain⟨h3,e,y,M,h5⟩:=X.bxs z I;exact⟨e,BY _ y,by rw[M,h3],h5,by rw[h3];exact Nat.le_add_right _ _⟩
   ·obtain⟨e,y,M,h5,h6⟩:=q7 z I;exact⟨e,BZ _ y,M,h5,h6⟩
def gm (w:World)(ro:Nat->Prop)(ps:List PK)(u:List Value)(r:List (List Nat))(nt:Nat):Env:=⟨w,ro,r.flatten,nt,ea 0 ps u,ee 0 ps u⟩
theorem om:∀ {J:List Ent},(J.flatMap (·.bl)).Nodup->∀ e∈J,∀ y∈J,∀ k,k∈e.bl->k∈y.bl->e=y
 |[],_,e,O,_,_,_,_,_=>by simp at O
 |x::J,r,e,O,y,M,k,I,u=>by
  rw[List.flatMap_cons,Cc]at r;rcases CC.1 O with H|H <;> rcases CC.1 M with z|z
  ·rw[H,z]
  ·rw[H]at I;exact absurd rfl (r.2.2 k I k (CH.2 ⟨y,z,u⟩))
  ·rw[z]at u;exact absurd rfl (r.2.2 k u k (CH.2 ⟨e,H,I⟩))
  ·exact om r.2.1 e H y z k I u
theorem yp:∀ {I:List Ent},(I.map (·.r)).Nodup->∀ e∈I,∀ y∈I,e.r=y.r->e=y
 |[],_,e,M,_,_,_=>by simp at M
 |x::I,u,e,M,y,J,O=>by
  rw[CM,CW]at u;rcases CC.1 M with H|H <;> rcases CC.1 J with z|z
  ·rw[H,z]
  ·exact absurd (B9.2 ⟨y,z,by rw[<- O,H]⟩) u.1
  ·exact absurd (B9.2 ⟨e,H,by rw[O,z]⟩) u.1
  ·exact yp u.2 e H y z O
theorem rW:∀ (u:List Ent) (q:Nat),(av (u.map λe=>(e.r,e.c)) q=bU.none/\u.find? (λe=>e.r==q)=none)\/∃ e∈u,e.r=q/\u.find? (λe=>e.r==q)=some e/\av (u.map λe=>(e.r,e.c)) q=e.c
 |[],q=>.inl ⟨rfl,rfl⟩
 |e::u,q=>by
  by_cases h:e.r=q
  ·refine .inr ⟨e,B4 ..,h,by simp[h],?_⟩;simp[av,ac,h]
  ·have y:B7 q e.r=false:=by
    cases y:B7 q e.r with
    |false=>rfl
    |true=>exact absurd (B5 y).symm h
   have J:av ((e::u).map λe=>(e.r,e.c)) q=av (u.map λe=>(e.r,e.c)) q:=by simp[av,ac,y]
   have I:(e::u).find? (λe=>e.r==q)=u.find? (λe=>e.r==q):=by simp[h]
   rw[J,I];rcases rW u q with z|⟨M,z,O,X,H⟩
   ·exact .inl z
   ·exact .inr ⟨M,B3 _ z,O,X,H⟩
theorem vF:∀ {ps:List PK} {r:List Value} {t:Nat} {z:Nat×Value},z∈ee t ps r->∃ i,z.1=t+i/\r[i]?=some z.2
 |[],_,_,_,h=>by simp[ee]at h
 |u::ps,[],_,_,h=>by cases u <;> simp[ee]at h
 |u::ps,v::r,t,z,h=>by
  have:z=(t,v)\/z∈ee (t+1) ps r:=by cases u <;> simp[ee]at h <;> first|exact h|exact .inr h
  rcases this with rfl|h
  ·exact⟨0,rfl,rfl⟩
  ·obtain⟨i,H,y⟩:=vF h;exact⟨i+1,by omega,by simpa using y⟩
theorem vG {ps:List PK}{x:ab ps}{M:List Value}{J:List (List Nat)}{nt:Nat}(h:c9 P w ro (λk=>k<w.heap.size/\k∉J.flatten) ps x M J)(a2:J.flatten.Nodup)
  (c4:ps.length<=nt) (hB:nt<=GH):Rel P (gm w ro ps M J nt) (av (dj 0 ps x)) { tmps:=M.toArray++CX (nt-M.length) undef,defers:=[] } w:=by
 have c3:=ug h;have c5:GH<=B0:=by decide
 obtain⟨X,q1,q2,q3,q4,q5,q6,q7⟩:=vE ps x M J 0 h a2 (by omega);rw[q1];have b4:=rW X;have a5:∀ e∈X,∀ H∈X,e.r=H.r->e=H:=by
  intro e he H c2 hr;exact yp q5 e he H c2 hr
 rw[<- q2]at a2;have a0:∀ e∈X,∀ k∈e.bl,k∈J.flatten:=λe he k Z=>by rw[<- q2];exact CH.2 ⟨e,he,Z⟩
 have hE:∀ q,(av (X.map λe=>(e.r,e.c)) q=bU.none/\X.find? (λe=>e.r==q)=none)\/∃ e∈X,e.r=q/\X.find? (λe=>e.r==q)=some e/\av (X.map λe=>(e.r,e.c)) q=e.c:=b4;have a1:∀ q,live (av (X.map λe=>(e.r,e.c))) q->∃ e∈X,e.r=q/\B0<=e.r/\X.find? (λe=>e.r==q)=some e:=by
  rintro q ⟨h1,h2⟩;rcases hE q with ⟨I,_⟩|⟨e,I,y,h5,O⟩
  ·rw[I]at h2;cases h2
  ·exact⟨e,I,y,by rw[y];exact h1,h5⟩
 let β:Nat->Nat:=λq=>match X.find? (λe=>e.r==q) with|some e=>e.g|none=>0
 let cs:Nat->List Value:=λq=>match X.find? (λe=>e.r==q) with|some e=>e.cs|none=>[]
 let bs:Nat->Nat->List Nat:=λq j=>match X.find? (λe=>e.r==q) with|some e=>e.bs j|none=>[]
 have a9:∀ z∈ea 0 ps M,B0<=z.1/\(av (X.map λe=>(e.r,e.c)) z.1).sh=.agg/\β z.1=z.2:=by
  intro z hz;obtain⟨e,he,h1,h2,I⟩:=q7 z hz;refine⟨I,?_⟩;rcases hE z.1 with ⟨_,y⟩|⟨H,y,h5,O,h7⟩
  ·exfalso;rw[DI]at y;exact y e he (by simp[h1])
  ·have:H=e:=a5 H y e he (by rw[h5,h1]);subst this;rw[h7];exact⟨((q3 H he).box (by rw[h1];exact I)).1,by simp only[β,O];exact h2⟩
 refine⟨{ β:=β,cs:=cs,bs:=bs,nw:=λ_=>False },?_⟩;have b9:(gm w ro ps M J nt).prot=λk=>k<w.heap.size/\k∉J.flatten:=rfl
 exact {
  nt:=by show (M.toArray++CX (nt-M.length) undef).size=nt;simp;omega
  df:=rfl
  slots:=λt ht=>by
   show ei _ ((M.toArray++CX (nt-M.length) undef).getD t undef) (cs t);by_cases hq:t<ps.length
   ·have hv:=CF (show t<M.length by omega);have:(M.toArray++CX (nt-M.length) undef).getD t undef=M[t]:=by
     rw[CB,Cs (by simp;omega)];simp[hv]
    rw[this];obtain⟨e,he,h1,h2⟩:=q6 t _ hv;rw[Cf]at h1;rcases hE t with ⟨_,y⟩|⟨H,y,h5,O,h7⟩
    ·exfalso;rw[DI]at y;exact y e he (by simp[h1])
    ·have:H=e:=a5 H y e he (by rw[h5,h1]);subst this;rw[h7];simp only[cs,O];exact h2
   ·rcases hE t with ⟨I,y⟩|⟨H,y,h5,O,h7⟩
    ·rw[I];simp only[cs,y];rfl
    ·rcases q4 H y with h8|h8 <;> omega
  boxes:=λb hb=>by
   rcases hE b with ⟨I,y⟩|⟨H,y,h5,O,h7⟩
   ·rw[I];exact .inl ⟨rfl,rfl⟩
   ·obtain⟨g1,g2,g3,⟨E,g4⟩,g5⟩:=(q3 H y).box (by rw[h5];exact hb);rw[h7];exact .inr ⟨g1,E,by simp only[β,cs,O];exact g4⟩
  len:=λq=>by
   rcases hE q with ⟨I,y⟩|⟨H,y,h5,O,h7⟩
   ·rw[I];simp only[cs,y];rfl
   ·rw[h7];simp only[cs,O];exact (q3 H y).len
  one:=λq u hu=>by
   have hu:u∈cs q:=hu;rcases hE q with ⟨I,y⟩|⟨H,y,h5,O,h7⟩
   ·simp only[cs,y]at hu;simp at hu
   ·simp only[cs,O]at hu;exact (q3 H y).one u hu
  leaf:=λq j l v Y hv=>by
   have hv:(cs q)[j]?=some v:=hv;rcases hE q with ⟨I,y⟩|⟨H,y,h5,O,h7⟩
   ·rw[I]at Y;simp[bU.none]at Y
   ·rw[h7]at Y;simp only[cs,O]at hv;show aI P _ _ _ w (bs q j) l v;simp only[bs,O];exact (q3 H y).leaf (gm w ro ps M J nt) _ _ rfl rfl rfl a9 j l v Y hv
  ownb:=λq j l Y ho k Z=>by
   have Z:k∈bs q j:=Z;rcases hE q with ⟨I,y⟩|⟨H,y,h5,O,h7⟩
   ·rw[I]at Y;simp[bU.none]at Y
   ·rw[h7]at Y;simp only[bs,O]at Z;have b1:=(q3 H y).own j l Y ho k Z;refine⟨id,λhp=>hp.2 (a0 H y k b1),λb hb e0=>?_⟩;obtain⟨e2,g1,g2,g3,g4⟩:=a1 b hb;have a6:=(q3 e2 g1).box g3;have e0:β b=k:=e0;simp only[β,g4]at e0;have:=om a2 H y e2 g1 k b1 (by rw[<- e0];exact a6.2.1);subst this;exact a6.2.2.1 j l Y ho (by rw[e0];exact Z)
  sep:=λq j l q' j' l' Y ho a3 b0 k Z a4=>by
   have Z:k∈bs q j:=Z;have a4:k∈bs q' j':=a4;rcases hE q with ⟨I,y⟩|⟨e1,y,h5,O,h7⟩
   ·rw[I]at Y;simp[bU.none]at Y
   ·rcases hE q' with ⟨c1,ad⟩|⟨e2,ad,ba,bx,bb⟩
    ·rw[c1]at a3;simp[bU.none]at a3
    ·rw[h7]at Y;rw[bb]at a3;simp only[bs,O]at Z;simp only[bs,bx]at a4;have:=om a2 e1 y e2 ad k ((q3 e1 y).own j l Y ho k Z) ((q3 e2 ad).own j' l' a3 b0 k a4);subst this;exact⟨by rw[<- h5,<- ba],(q3 e1 y).sep j j' l l' Y ho a3 b0 k Z a4⟩
  box:=λb hb=>by
   obtain⟨e2,g1,g2,g3,g4⟩:=a1 b hb;have a6:=(q3 e2 g1).box g3;refine⟨id,λhp=>hp.2 ?_⟩;show β b∈_;simp only[β,g4];exact a0 e2 g1 _ a6.2.1
  inj:=λb b' hb b3 e0=>by
   obtain⟨e1,g1,g2,g3,g4⟩:=a1 b hb;obtain⟨e2,b2,bn,b5,c0⟩:=a1 b' b3;have e0:β b=β b':=e0;simp only[β,g4,c0]at e0;have:=om a2 e1 g1 e2 b2 e1.g ((q3 e1 g1).box g3).2.1 (by rw[e0];exact ((q3 e2 b2).box b5).2.1);subst this;rw[<- g2,<- bn]
  nwlt:=λk Z=>Z.elim
  os:=rfl,tape:=rfl,output:=rfl,size:=C7 _,keep:=λ_ _=>rfl
  fixb:=λz hz=>by
   obtain⟨h1,h2,I⟩:=a9 z hz;exact⟨⟨h1,h2⟩,I⟩
  fixt:=λz hz=>by
   obtain⟨i,h1,h2⟩:=vF hz;rw[Cf]at h1;show (M.toArray++CX (nt-M.length) undef).getD z.1 undef=z.2;rw[h1,CB,Cs (by simpa using (B8.1 h2).1)];simp[h2] }
end
section
variable {P:Program} {V:Env} {W:Wit} {Γ:List Ctr} {T:TypeId->TI} {R:Type} {st:St} {a:Act} {w:World} {ro:Nat->Prop}
theorem BO (hT:TOk P T)(h:ap P V W st a w)(x:ResultVar)(z:pK st T x≠.off) :
  ∃ v O,(match x with|.tmp t=>(pure (a.tmps.getD t undef):Sem Value)|.cell b t=>(do loadVar t (<- asAddr (a.tmps.getD b undef)):Sem Value)).run P w=.ok v w /\
   ei (pK st T x) v O/\aC P V W st w (vJ st T x) O:=by
 cases x with
 |tmp t =>
  obtain⟨O,h1,J⟩:=cU h (.tmp t);exact⟨_,O,rfl,h1,J⟩
 |cell t u =>
  simp only[pK]at z ⊢;split at z
  ·rename_i b off hb;cases X:decide ((st b).sh=.agg)&&C9 (off+(T u).cells) (st b).ls.length&&!B7 (T u).cells 0 with
   |false=>rw[X]at z;exact absurd rfl z
   |true =>
    simp only[hb,X,cond_true,vJ];simp only[BX,decide_eq_true_eq,CZ]at X;obtain⟨⟨h1,J⟩,h3⟩:=X;have J:off+(T u).cells<=(st b).ls.length:=CR J;have Z:T u≠.none:=by
     intro e;rw[e]at h3;simp[TI.cells]at h3
    obtain⟨hp,_,_,_,_⟩:=bt h (.tmp t) (by rw[hb];simp);rw[hb]at hp;obtain⟨hB,Y,y⟩:=hp;have y:a.tmps.getD t undef=.pointer (some ⟨W.β b,off,none⟩):=y;rcases h.boxes b hB with ⟨M,_⟩|⟨_,E,M⟩
    ·rw[Y]at M;cases M
    ·have r:cW w (W.β b) 0 (W.cs b):=λi v y=>by
      rw[Cf,cell_of_row w (W.β b) i _ E (0,0) M];simpa using y
     have a1:=h.len b;have I:=r.sub off (T u).cells;rw[Cf]at I;obtain⟨v,H,a0⟩:=ox (hT u) Z I (by simp;omega);refine⟨v,_,?_,a0,((iD h b).drop off).take _⟩;simp only[y];simpa[asAddr]using H
  ·exact absurd rfl z
def nO (a:Act):ResultVar->Sem Value
 |.tmp t=>pure (a.tmps.getD t undef)
 |.cell b t=>do loadVar t (<- asAddr (a.tmps.getD b undef))
def nP (P:Program)(a:Act)(w:World):List ResultVar->List Value->Prop
 |[],u=>u=[]
 |x::y,u=>∃ v r,u=v::r/\(nO a x).run P w=.ok v w/\nP P a w y r
theorem rX:∀ (l:List ResultVar) (u:List Value),nP P a w l u->(l.mapM (nO a)).run P w=.ok u w
 |[],_,h=>by rw[show _=_ from h];rfl
 |x::l,_,⟨v,r,e,z,y⟩=>by subst e;simp[C8,z,rX l r y]
theorem AX (b:Bool):bk b≠.off:=by cases b <;> simp[bk]
def RK.isBox:RK->Bool
 |.box _=>true
 |_=>false
theorem uh (hV:ay V)(hT:TOk P T)(h:ap P V W st a w)(a9:V.ro0=ro){fx:List Nat}:∀ (rs:List RK) (H:List ResultVar) (y:cK (ai rs)),kl st T fx rs H=some y ->
  ∀ {G:Nat->Prop},(∀ k,bq V W y.p y.frz k->G k) ->
  ∃ (us:List Value) (I:List (List Nat)) (bx:List Nat),nP P a w H us/\gE w G ro rs y.val us I/\(∀ k,I.flatten.count k=(aZ W y.kill).count k+(bx.map W.β).count k) /\
   (∀ b∈bx,live st b/\fx.any (B7 b)=false)/\bx.length=rs.countP RK.isBox/\(∀ z∈y.frz,aB st z)/\∀ z∈y.kill,aB st z
 |[],[],y,J,G,hG=>by
  simp only[kl,BV]at J;subst J;exact⟨[],[],[],rfl,⟨rfl,rfl⟩,λk=>by simp[aZ],by simp,rfl,by simp,by simp⟩
 |[],_::_,_,J,_,_=>by simp[kl]at J
 |_::_,[],_,J,_,_=>by simp[kl]at J
 |r::rs,x::H,y,J,G,hG=>by
  simp only[kl]at J;cases O:decide (pK st T x=r.sh) with
  |false=>simp[O]at J
  |true =>
   simp only[O,cond_true]at J;have O:=of_decide_eq_true O;split at J
   ·rename_i X y2 u b3;simp only[BV]at J;subst J;obtain⟨v,a5,ad,M,Z⟩:=BO hT h x (by rw[O];cases r <;> simp only[RK.sh] <;> first|exact AX _|simp);rw[O]at M;have a1:∀ k,bq V W X.p X.frz k->G k:=λk Y=>hG k (dR.1 k Y)
    have b5:∀ k,bq V W y2.p y2.frz k->G k:=λk Y=>hG k (dR.2 k Y)
    obtain⟨us,I,bx,i1,i2,i3,i4,i5,i6,i7⟩:=uh hV hT h a9 rs H y2 b3 b5;have a2:(nO a x).run P w=.ok v w:=by cases x <;> exact ad
    have a3:∀ (b:List Nat) (a0:List Nat),qi w G ro r X.val v b->(∀ k,b.count k=(aZ W X.kill).count k+(a0.map W.β).count k)->(∀ b∈a0,live st b/\fx.any (B7 b)=false)->a0.length=(if r.isBox then 1 else 0)->(∀ z∈X.frz,aB st z)->(∀ z∈X.kill,aB st z) ->
      ∃ (us:List Value) (I:List (List Nat)) (bx:List Nat),nP P a w (x::H) us/\gE w G ro (r::rs) (X.val,y2.val) us I/\(∀ k,I.flatten.count k=(aZ W (X.kill++y2.kill)).count k+(bx.map W.β).count k) /\
       (∀ b∈bx,live st b/\fx.any (B7 b)=false)/\bx.length=(r::rs).countP RK.isBox/\(∀ z∈X.frz++y2.frz,aB st z)/\∀ z∈X.kill++y2.kill,aB st z:=by
     intro b a0 f1 f2 f3 f4 f5 f6;refine⟨v::us,b::I,a0++bx,⟨v,us,rfl,a2,i1⟩,⟨v,us,b,I,rfl,rfl,f1,i2⟩,λk=>?_,λz hz=>(BW.1 hz).elim (f3 z) (i4 z),?_,λz hz=>(BW.1 hz).elim (f5 z) (i6 z),λz hz=>(BW.1 hz).elim (f6 z) (i7 z)⟩
     ·rw[CE,CI,f2 k,i3 k,dK,CI,Cn,CI];omega
     ·rw[List.length_append,f4,i5,DO];cases r.isBox <;> simp <;> omega
    cases r with
    |v b =>
     simp only[sm]at u;obtain⟨g1,g2,g3⟩:=dP (pos:=0) h Z u;exact a3 (aZ W X.kill) [] ⟨a5,gF M,g1.mono a1⟩ (λk=>by simp) (by simp) rfl g2 g3
    |bv b =>
     simp only[sm,B6]at u;obtain⟨⟨p,z⟩,hz,rfl⟩:=u;have g1:=eE h Z hz;refine a3 [] [] ⟨rfl,a5,gF M,g1.mono λk Y=>?_⟩ (λk=>by simp[aZ]) (by simp) rfl (λz hz=>eq Z hz) (by simp);rcases Y with (Y|⟨_,Y⟩)|Y
     ·exact .inl (a1 k (.inl (.inl Y)))
     ·exact .inr (by rw[<- a9];exact Y)
     ·exact .inl (a1 k (.inr Y))
    |box b =>
     simp only[sm]at u;split at u
     ·rename_i b0 b4;cases a4:!(fx.any (B7 b0)) with
      |false=>rw[a4]at u;cases u
      |true =>
       rw[a4]at u;simp only[cond_true]at u;have M:a5=[v]:=M;subst M;rw[b4]at Z;obtain⟨hB,a6,b1⟩:=Z.1.1;obtain⟨g1,g2,g3⟩:=dP (pos:=0) h (iD h b0) u;rcases h.boxes b0 hB with ⟨h8,_⟩|⟨_,E,h8⟩
       ·rw[a6]at h8;cases h8
       ·exact a3 (W.β b0::aZ W X.kill) [b0] ⟨W.β b0,W.cs b0,E,_,b1,h8,g1.mono a1,rfl⟩ (λk=>by
         rw[Co,CM,DW,Co,List.count_nil];omega) (λb' b2=>by
         simp at b2;subst b2;exact⟨⟨hB,a6⟩,by simpa using a4⟩) rfl g2 g3
     ·cases u
   ·cases J
theorem mK (hV:ay V)(h:ap P V W st a w){w0:World}{pr:Nat->Prop}(a5:V.nt<=GH):∀ (ps:List PK) (x:ab ps) (vs:List Value) (a6:List (List Nat)) (t:Nat) (o:cK (ah ps)),c9 P w0 ro pr ps x vs a6->ij st t ps=some o->t+ps.length<=V.nt ->
  (∀ z∈ee t ps vs,a.tmps.getD z.1 undef=z.2)->(∀ z∈ea t ps vs,live st z.1/\W.β z.1=z.2)->∀ {G:Nat->Prop},(∀ k,bq V W o.p o.frz k->G k) ->
  ∃ r,bN w G ps o.val vs r/\(∀ k,r.flatten.count k=(aZ W o.kill).count k+((bH t ps).map W.β).count k)/\(∀ z∈o.frz,aB st z)/\(∀ z∈o.kill,aB st z)/\∀ b∈bH t ps,live st b
 |[],x,vs,a6,t,o,⟨e1,e2⟩,y,_,_,_,G,hG=>by
  simp only[ij,BV]at y;subst y;subst e1;exact⟨[],trivial,λk=>by simp[aZ,bH],by simp,by simp,by simp[bH]⟩
 |pk::ps,x,vs,a6,t,o,⟨v,Y,b,a0,e1,e2,h1,h2⟩,y,ht,a1,a2,G,hG=>by
  subst e1;subst e2;simp only[Cb]at ht;have u:∀ (o':cK (ah ps)),ij st (t+1) ps=some o'->ee t (pk::ps) (v::Y)=ee (t+1) ps Y->ea t (pk::ps) (v::Y)=ea (t+1) ps Y->(∀ k,bq V W o'.p o'.frz k->G k) ->
    ∃ r,bN w G ps o'.val Y r/\(∀ k,r.flatten.count k=(aZ W o'.kill).count k+((bH (t+1) ps).map W.β).count k)/\(∀ z∈o'.frz,aB st z)/\(∀ z∈o'.kill,aB st z)/\∀ b∈bH (t+1) ps,live st b:=by
   intro o' ad e1 e2 b1;exact mK hV h a5 ps x.2 Y a0 (t+1) o' h2 ad (by omega) (λz H=>a1 z (by rw[e1];exact H)) (λz H=>a2 z (by rw[e2];exact H)) b1
  cases pk with
  |io b =>
   simp only[ij]at y;split at y
   ·rename_i y1 y2 Z a4;simp only[BV]at y;subst y;obtain⟨r,I,M,X,O,J⟩:=mK hV h a5 ps x.2 Y a0 (t+1) y2 h2 a4 (by omega) (λz H=>a1 z (B3 _ H)) (λz H=>a2 z H) (λk hk=>hG k (dR.2 k hk));cases hb:decide ((au st (.tmp t)).1=bk b.isAgg) with
    |false=>rw[hb]at Z;cases Z
    |true =>
     rw[hb]at Z;simp only[cond_true]at Z;obtain⟨cs,h3,h4⟩:=cU h (.tmp t);rw[of_decide_eq_true hb]at h3;have hv:a.eval (.tmp t)=v:=a1 (t,v) (B4 ..);rw[hv]at h3;obtain⟨g1,g2,g3⟩:=dP (pos:=0) h h4 Z;refine⟨aZ W y1.kill::r,⟨?_,I⟩,λk=>?_,λz H=>(BW.1 H).elim (g2 z) (X z),λz H=>(BW.1 H).elim (g3 z) (O z),J⟩
     ·unfold jv;rw[if_neg (by simp)];exact⟨cs,gF h3,g1.mono (λk hk=>hG k (dR.1 k hk))⟩
     ·rw[CE,CI,M k,dK,CI];show _=_+((bH (t+1) ps).map W.β).count k;omega
   ·cases y
  |iop b =>
   simp only[ij]at y;split at y
   ·rename_i y1 y2 Z a4;simp only[BV]at y;subst y;obtain⟨r,I,M,X,O,J⟩:=mK hV h a5 ps x.2 Y a0 (t+1) y2 h2 a4 (by omega) (λz H=>a1 z (B3 _ H)) (λz H=>a2 z (B3 _ H)) (λk hk=>hG k (dR.2 k hk));obtain⟨g,c,E,b0,hv,_,_,_⟩:=h1;subst hv;obtain⟨a3,hβ⟩:=a2 (B0+t,uf (.pointer (some ⟨g,0,none⟩))) (B4 ..);have hβ:W.β (B0+t)=g:=hβ;obtain⟨g1,g2,g3⟩:=dP (pos:=0) h (iD h (B0+t)) Z;rcases h.boxes (B0+t) a3.1 with ⟨h8,_⟩|⟨_,E',h8⟩
    ·have:=a3.2;rw[h8]at this;cases this
    ·refine⟨(g::aZ W y1.kill)::r,⟨?_,I⟩,λk=>?_,λz H=>(BW.1 H).elim (g2 z) (X z),λz H=>(BW.1 H).elim (g3 z) (O z),λb' a9=>?_⟩
     ·unfold jv;rw[if_pos rfl];exact⟨g,W.cs (B0+t),E',_,rfl,by rw[<- hβ];exact h8,g1.mono (λk hk=>hG k (dR.1 k hk)),rfl⟩
     ·rw[CE,CI,M k,dK,CI,Co];show _=_+(W.β (B0+t)::(bH (t+1) ps).map W.β).count k;rw[Co,hβ];omega
     ·rcases CC.1 a9 with rfl|a9
      ·exact a3
      ·exact J b' a9
   ·cases y
  |rd b =>
   obtain⟨r,I,M,X,O,J⟩:=u o y rfl rfl hG;exact⟨[]::r,⟨rfl,I⟩,λk=>by rw[CE,CU];exact M k,X,O,J⟩
  |own b =>
   obtain⟨r,I,M,X,O,J⟩:=u o y rfl rfl hG;exact⟨[]::r,⟨rfl,I⟩,λk=>by rw[CE,CU];exact M k,X,O,J⟩
  |rref b =>
   obtain⟨r,I,M,X,O,J⟩:=u o y rfl rfl hG;exact⟨[]::r,⟨rfl,I⟩,λk=>by rw[CE,CU];exact M k,X,O,J⟩
  |rref2 b =>
   obtain⟨r,I,M,X,O,J⟩:=u o y rfl rfl hG;exact⟨[]::r,⟨rfl,I⟩,λk=>by rw[CE,CU];exact M k,X,O,J⟩
  |fn As B =>
   obtain⟨r,I,M,X,O,J⟩:=u o y rfl rfl hG;exact⟨[]::r,⟨rfl,I⟩,λk=>by rw[CE,CU];exact M k,X,O,J⟩
  |clo f cs =>
   obtain⟨r,I,M,X,O,J⟩:=u o y rfl rfl hG;exact⟨[]::r,⟨rfl,I⟩,λk=>by rw[CE,CU];exact M k,X,O,J⟩
  |hol b c off =>
   obtain⟨r,I,M,X,O,J⟩:=u o y rfl rfl hG;exact⟨[]::r,⟨rfl,I⟩,λk=>by rw[CE,CU];exact M k,X,O,J⟩
end
section
variable {P:Program} {Γ:List Ctr} {T:TypeId->TI} {w:World} {ro:Nat->Prop}
theorem uR {fn:Func}{a:Act}{w:World}{r:List Value}(h:nP P a w fn.results.toList r):(results fn a.tmps).run P w=.ok (if h:r.toArray.size=1 then r.toArray[0] else .tuple r.toArray) w:=by
 have z:=rX _ _ h;have e:results fn a.tmps=(fn.results.mapM (nO a) >>= λu=>pure (if h:u.size=1 then u[0] else .tuple u)):=by
  unfold results;congr 1
 have y:(fn.results.mapM (nO a)).run P w=.ok r.toArray w:=by
  rw[Array.mapM_eq_mapM_toList];simp[z]
 rw[e];simp only[Cj,y,Cd,DK]
theorem BP (us:List Value):sw us (if h:us.toArray.size=1 then us.toArray[0] else .tuple us.toArray):=by
 match us with
 |[]=>rfl
 |[u]=>rfl
 |u::r::us =>
  rw[dif_neg (by simp)];rfl
theorem rY:∀ (ps:List PK) (t:Nat),(bH t ps).Nodup/\∀ b∈bH t ps,B0+t<=b
 |[],t=>⟨Ct,by simp[bH]⟩
 |I::ps,t=>by
  obtain⟨z,u⟩:=rY ps (t+1);have y:∀ b∈bH (t+1) ps,B0+t<=b:=λb r=>by have:=u b r;omega
  cases I with
  |iop a =>
   refine⟨CW.2 ⟨λH=>?_,z⟩,λb r=>?_⟩
   ·have:=u _ H;omega
   ·rcases CC.1 r with rfl|r
    ·exact C7 _
    ·exact y b r
  |_=>exact⟨z,y⟩
theorem BQ {u:List RK}(h:qA u=true):u.countP RK.isBox<=1:=by
 unfold qA at h;split at h
 ·simp[RK.isBox]
 ·rw[DC.2]
  ·exact DQ _
  ·intro r y;rw[CL]at h;have:=h r y;cases r <;> simp[RK.isV,RK.isBox]at this ⊢
theorem rZ {β:Nat->Nat}:∀ {bs:List Nat},bs.Nodup->(∀ b∈bs,∀ u∈bs,β b=β u->b=u)->(bs.map β).Nodup
 |[],_,_=>Ct
 |b::bs,z,H=>by
  rw[CW]at z;rw[CM,CW];refine⟨λI=>?_,rZ z.2 (λx J y M=>H x (B3 _ J) y (B3 _ M))⟩;obtain⟨u,r,e⟩:=B9.1 I;have:=H u (B3 _ r) b (B4 ..) e;exact z.1 (by rw[<- this];exact r)
theorem yq (hT:TOk P T){c:Ctr}(c5:qA c.rs=true){vs:List Value}{J:List (List Nat)}{fn:Func}{nt:Nat}(hV:ay (gm w ro c.ps vs J nt)){x:ab c.ps}{pr:Nat->Prop}(b0:c9 P w ro pr c.ps x vs J)(c3:c.ps.length<=nt){ex:Ex}{s1:St}{y:ai c.rs×ah c.ps}
  (r:cZ T c.ps c.rs c.fresh fn.results.toList ex s1=some y) {a:Act} {w':World} (u:Rel P (gm w ro c.ps vs J nt) s1 a w') :
  (ex=.normal\/ex=.ret)/\∃ v,(results fn a.tmps).run P w'=.ok v w'/\tL c w ro vs J y (.returned v) w':=by
 obtain⟨W,u⟩:=u;have b9:ex=.normal\/ex=.ret:=by
  cases ex with
  |normal=>exact .inl rfl
  |ret=>exact .inr rfl
  |exit id=>cases r
 refine⟨b9,?_⟩;have r:finR T c.ps c.rs c.fresh fn.results.toList s1=some y:=by
  rcases b9 with rfl|rfl <;> exact r
 unfold finR at r;split at r
 ·rename_i O M bn c1;cases X:a8 (O.kill++M.kill)&&dE (O.frz++M.frz) (O.kill++M.kill)&&(!c.fresh||!(O.p||M.p)) with
  |false=>rw[X]at r;cases r
  |true =>
   rw[X]at r;simp only[cond_true,BV]at r;subst r;simp only[BX]at X;obtain⟨⟨bb,c2⟩,bl⟩:=X;let N:Nat->Prop:=λk=>W.nw k\/∃ z∈O.frz++M.frz,k∈W.bs z.1 z.2
   have hG:∀ (p:Bool) (b4:List (Nat×Nat)),(p=true->(O.p||M.p)=true)->(∀ z∈b4,z∈O.frz++M.frz)->∀ k,bq (gm w ro c.ps vs J nt) W p b4 k->N k\/(c.fresh=false/\ro k):=by
    intro p b4 hp H k I;rcases I with (I|⟨hq,I⟩)|⟨z,Z,I⟩
    ·exact .inl (.inl I)
    ·refine .inr ⟨?_,I⟩;rw[hp hq]at bl;simpa using bl
    ·exact .inl (.inr ⟨z,H z Z,I⟩)
   obtain⟨us,b3,bx,r1,r2,r3,r4,r5,r6,r7⟩:=uh hV hT u rfl c.rs fn.results.toList O bn (G:=λk=>N k\/(c.fresh=false/\ro k)) (hG O.p O.frz (by intro h;simp[h]) (λz H=>BY _ H));obtain⟨a6,o1,o2,o3,o4,o5⟩:=mK hV u hV.nt c.ps x vs J 0 M b0 c1 (by rw[Cf];exact c3) (λz H=>u.fixt z H) (λz H=>u.fixb z H) (G:=λk=>N k\/(c.fresh=false/\ro k)) (hG M.p M.frz (by intro h;simp[h]) (λz H=>BZ _ H));have a2:∀ z∈O.kill++M.kill,aB s1 z:=λz H=>(BW.1 H).elim (r7 z) (o4 z)
   have a0:∀ z∈O.frz++M.frz,aB s1 z:=λz H=>(BW.1 H).elim (r6 z) (o3 z)
   have a4:∀ k,k<w'.heap.size->¬ (gm w ro c.ps vs J nt).prot k->qj w w' J.flatten k:=by
    intro k I hp;refine⟨I,?_⟩;by_cases c6:k<w.heap.size
    ·right;apply CQ;intro hn;exact hp ⟨c6,hn⟩
    ·exact .inl (by omega)
   have c4:∀ k,N k->qj w w' J.flatten k:=by
    rintro k (I|⟨z,H,I⟩)
    ·exact a4 k (u.nwlt k I).1 (u.nwlt k I).2
    ·obtain⟨l,h7,h8⟩:=a0 z H;exact a4 k (u.own_lt h7 h8 k I) (u.ownb z.1 z.2 l h7 h8 k I).2.1
   have Y:∀ b∈bx++bH 0 c.ps,live s1 b:=λb R=>(BW.1 R).elim (λR=>(r4 b R).1) (o5 b)
   have ba:(bx++bH 0 c.ps).Nodup:=by
    rw[Cc];refine⟨?_,(rY c.ps 0).1,λb R b' ad e=>?_⟩
    ·have:=BQ c5;rw[<- r5]at this
     match bx,this with
     |[],_=>exact Ct
     |[b],_=>simp
    ·subst e;have:=Cv.1 (r4 b R).2 b ad;simp at this
   have b1:=rZ (β:=W.β) ba (λb R b' ad e=>u.inj b b' (Y b R) (Y b' ad) e);have a5:∀ k,(a6.flatten++b3.flatten).count k=(aZ W (O.kill++M.kill)).count k+((bx++bH 0 c.ps).map W.β).count k:=λk=>by
    rw[CI,o2 k,r3 k,dK,CI,Cn,CI];omega
   have c0:=bu.1 (gS u bb a2);have b5:∀ k∈a6.flatten++b3.flatten,(∃ z∈O.kill++M.kill,k∈W.bs z.1 z.2)\/∃ b,live s1 b/\W.β b=k:=λk I=>by
    have h5:=CK.2 I;rw[a5 k]at h5;by_cases h6:k∈aZ W (O.kill++M.kill)
    ·exact .inl (gu.1 h6)
    ·have:=Cu.2 h6;obtain⟨b,R,e⟩:=B9.1 (CK.1 (show 0<((bx++bH 0 c.ps).map W.β).count k by omega));exact .inr ⟨b,Y b R,e⟩
   refine⟨_,uR r1,_,us,N,a6,b3,rfl,BP us,u.size,u.os,u.tape,u.output,λk h1 h2=>u.keep k ⟨h1,h2⟩,c4,o1,r2,bu.2 λk=>?_,λk I=>?_⟩
   ·rw[a5 k];have h5:=c0 k;have h6:=bu.1 b1 k;by_cases h7:k∈(bx++bH 0 c.ps).map W.β
    ·have:(aZ W (O.kill++M.kill)).count k=0:=Cu.2 λhm=>by
      obtain⟨b,R,e⟩:=B9.1 h7;obtain⟨z,H,a3⟩:=gu.1 hm;obtain⟨l,hl,ho⟩:=a2 z H;exact (u.ownb z.1 z.2 l hl ho k a3).2.2 b (Y b R) e
     omega
    ·have:=Cu.2 h7;omega
   ·rcases b5 k I with ⟨z,H,a3⟩|⟨b,R,e⟩
    ·obtain⟨l,hl,ho⟩:=a2 z H;have h9:=u.ownb z.1 z.2 l hl ho k a3;refine⟨a4 k (u.own_lt hl ho k a3) h9.2.1,?_⟩;rintro (hn|⟨z',Z,a1⟩)
     ·exact h9.1 hn
     ·obtain⟨l',b2,a9⟩:=a0 z' Z;obtain⟨e1,e2⟩:=u.sep z.1 z.2 l z'.1 z'.2 l' hl ho b2 a9 k a3 a1;exact nU c2 z' Z (by rw[show z'=z from Prod.ext e1.symm e2.symm];exact H)
    ·subst e;have h9:=u.box b R;refine⟨a4 _ (u.box_lt R) h9.2,?_⟩;rintro (hn|⟨z',Z,a1⟩)
     ·exact h9.1 hn
     ·obtain⟨l',b2,a9⟩:=a0 z' Z;exact (u.ownb z'.1 z'.2 l' b2 a9 _ a1).2.2 b R rfl
 ·cases r
theorem kc:∀ {ps:List PK} {u:List Value} {t:Nat} {z:Nat×Value},z∈ee t ps u->z.1∈gr t ps
 |[],_,_,_,h=>by simp[ee]at h
 |r::ps,[],_,_,h=>by cases r <;> simp[ee]at h
 |r::ps,v::u,t,z,h=>by
  cases r <;> simp only[ee,gr,CC]at h ⊢ <;> first
   |exact kc h
   |exact h.imp (λe=>by rw[e]) kc
theorem kd:∀ {ps:List PK} {u:List Value} {t:Nat} {z:Nat×Nat},z∈ea t ps u->z.1∈bH t ps
 |[],_,_,_,h=>by simp[ea]at h
 |r::ps,[],_,_,h=>by cases r <;> simp[ea]at h
 |r::ps,v::u,t,z,h=>by
  cases r <;> simp only[ea,bH,CC]at h ⊢ <;> first
   |exact kd h
   |exact h.imp (λe=>by rw[e]) kd
theorem dn {f:FuncId}{fn:Func}{c:Code}(z:P.funcs[f]?=some fn)(H:(fn.name== "runtime.NumGoroutine")=false) (y:fn.body=some c):fV P f:=by
 intro u w;have r:fn.name≠ "runtime.NumGoroutine" := by simpa using H
 simp[callFunc,z,r,y]
theorem pD (hT:TOk P T)(hΓ:∀ c∈Γ,bR P c)(X:P.follows .mixedOrders=true){c:Ctr}{fn:Func}(hf:P.funcs[c.f]?=some fn)(hn:(fn.name== "runtime.NumGoroutine")=false)
  {L:List (Nat×List (Nat×List Coe))} {O:Nat} (R:fn.body.isSome=true) (M:∀ x,evF Γ T L O fn c.ps c.rs c.fresh x=c.den x):bR P c:=by
 obtain⟨u,R⟩:=Option.isSome_iff_exists.1 R;refine⟨dn hf hn R,λw ro x vs a4 y H a2 a3 J=>?_⟩;rw[<- M]at J;unfold evF at J;simp only[R]at J;cases r:dQ fn.ntmps (gr 0 c.ps) u&&C9 c.ps.length fn.ntmps&&C9 fn.ntmps GH&&qA c.rs&&dp L (bH 0 c.ps) u with
 |false=>simp[r]at J
 |true =>
  simp only[r,cond_true]at J;simp only[BX]at r;obtain⟨⟨⟨⟨h1,h2⟩,h3⟩,h4⟩,h5⟩:=r;have h2:=CR h2;have h3:=CR h3;have hV:ay (gm w ro c.ps vs a4 fn.ntmps):=⟨λk hk=>a2 k hk,h3⟩;have a0:=vG (P:=P) (ro:=ro) H a3 h2 h3;refine calls_of_wp hf R ?_;rw[DL];refine sy hV hT hΓ X (λz hz=>kd hz) (nt:=fn.ntmps) (fix:=gr 0 c.ps) rfl (λz hz=>kc hz) u h1 h5 _ _ y _ J (λex s1 Z a' w' hr=>?_) _ _ a0;obtain⟨a1,v,Y,I⟩:=yq hT h4 hV H h2 Z hr;have a5:a'.defers=[]:=by obtain⟨W,hr⟩:=hr;exact hr.df
  rcases a1 with rfl|rfl <;> exact⟨a5,v,Y,I⟩
end
section
variable {P:Program}
def szB (P:Program)(t:TypeId)(n:Nat):Bool :=
 match P.info? t with
 |some i=>B7 i.size n
 |none=>false
theorem fR {t:TypeId}{n:Nat}(h:szB P t n=true):bS P t n:=by
 unfold szB at h;unfold bS;split at h
 ·rename_i i r;rw[r];simp only[CO];rw[B5 h]
 ·cases h
def ui (P:Program)(t:TypeId)(agg:Bool):Bool :=
 match P.underlying t with
 |some (.struct _)|some (.array _ _)=>agg
 |some _=>!agg
 |none=>false
theorem q8 {t:TypeId}{agg:Bool}(h:ui P t agg=true):(P.underlying t).map (λd=>match d with|.struct _|.array _ _=>true|_=>false)=some agg:=by
 unfold ui at h;split at h
 ·rename_i r;rw[r];simp[h]
 ·rename_i r;rw[r];simp[h]
 ·rename_i d y u r;rw[r];simp only[CO,BV];cases agg with
  |true=>cases h
  |false =>
   cases d <;> first|rfl|(exact absurd r (y _))|(exact absurd r (u _ _))
 ·cases h
theorem AY {t:TypeId}{agg:Bool}(h:(P.underlying t).map (λd=>match d with|.struct _|.array _ _=>true|_=>false)=some agg)(w:World):(isAgg t).run P w=.ok agg w:=by
 unfold isAgg;cases r:P.underlying t with
 |none=>simp[r]at h
 |some u =>
  rw[r]at h;simp only[CO,BV]at h;subst h;rw[Cj,run_underlying r w];cases u <;> rfl
def lN (P:Program)(f:Field)(off:Nat)(b:Ty):Bool:=(f.name != "_")&&B7 f.offset off&&szB P f.type b.cells&&ui P f.type b.isAgg
def eqF (P:Program)(g:Ty->TypeId->Bool):List Field->Nat->Ty->Bool
 |[],_,_=>false
 |[f],off,b=>lN P f off b&&g b f.type
 |f::r,off,.pair b c=>lN P f off b&&g b f.type&&eqF P g r (off+b.cells) c
 |_,_,_=>false
def eqT (P:Program):Nat->Ty->TypeId->Bool
 |0,_,_=>false
 |n+1,a,t=>match a with
  |.int k=>(match P.underlying t with|some (.int k')=>decide (k'=k)|_=>false)
  |.bool=>(match P.underlying t with|some .bool=>true|_=>false)
  |.str=>(match P.underlying t with|some .string=>true|_=>false)
  |.pair b c=>(match P.underlying t with|some (.struct fs)=>!P.stoodInHeld t&&eqF P (eqT P n) fs.toList 0 (.pair b c)|_=>false)
  |_=>false
theorem zF:∀ (b:Ty),b.isAgg=false->b.cells=1
 |.int _,_=>rfl
 |.bool,_=>rfl
 |.str,_=>rfl
 |.list _ _ _,_=>rfl
 |.hdr,_=>rfl
 |.unit,h=>by cases h
 |.pair _ _,h=>by cases h
theorem mL {f:Field}{off:Nat}{b:Ty}(h:lN P f off b=true){xs p c s:List Value}(M:xs=p++c++s)(J:p.length=off)(I:c.length=b.cells)(w:World) :
  ∃ v,(part f.type xs.toArray f.offset).run P w=.ok v w/\db b.isAgg v c:=by
 unfold lN at h;simp only[BX]at h;obtain⟨⟨⟨_,y⟩,O⟩,X⟩:=h;have y:=B5 y;have r:=AY (q8 X) w;have H:=dv (fR O) w;have u:(xs.drop off).take b.cells=c:=by
  rw[M,CS,<- J,List.drop_left,<- I,List.take_left]
 cases z:b.isAgg with
 |true =>
  rw[z]at r;refine⟨.agg c.toArray,?_,rfl⟩;have e:xs.toArray.extract off (off+b.cells)=c.toArray:=by
   rw[List.extract_toArray,List.extract_eq_take_drop,Nat.add_sub_cancel_left,u]
  simp only[part,Cj,r,Cd,if_true,H,DK,y,e]
 |false =>
  rw[z]at r;have R:=zF b z;rw[R]at I
  match c,I with
  |[v],_ =>
   refine⟨v,?_,rfl⟩;have e:xs.toArray[off]?=some v:=by
    simp only[List.getElem?_toArray];rw[M,CS,CN (by omega)];simp[J]
   simp only[part,Cj,r,Cd,Cp,if_false,y,e,DK]
def zX (P:Program)(d:Nat)(b:Ty)(t:TypeId):Prop:=∀ (w:World) (G:Nat->Prop) (x y:b.den) (u H:Value) (r z:List Value),db b.isAgg u r->Rd w G b x r->db b.isAgg H z->Rd w G b y z ->
 (Op.equalIn d t u H).run P w=.ok (b.eqv x y) w
theorem yt {d:Nat}{g:Ty->TypeId->Bool}(hg:∀ b t,g b t=true->zX P d b t):∀ (fs:List Field) (off:Nat) (b:Ty),eqF P g fs off b=true->∀ (w:World) (G:Nat->Prop) (x y:b.den) (H O u J:List Value),
  H.length=off->u.length=off->Rd w G b x O->Rd w G b y J->(Op.eqFields d (H++O).toArray (u++J).toArray fs).run P w=.ok (b.eqv x y) w
 |[],_,_,h=>by simp[eqF]at h
 |[f],off,b,h=>by
  intro w G x y H O u J z r hx hy;simp only[eqF,BX]at h;obtain⟨v1,h1,h2⟩:=mL h.1 (xs:=H++O) (p:=H) (c:=O) (s:=[]) (by simp) z hx.len w;obtain⟨v2,h3,h4⟩:=mL h.1 (xs:=u++J) (p:=u) (c:=J) (s:=[]) (by simp) r hy.len w;have h5:=hg b f.type h.2 w G x y v1 v2 O J h2 hx h4 hy;have hn:f.name≠ "_" := by
   have:=h.1;unfold lN at this;simp only[BX]at this;simpa using this.1.1.1
  simp only[Op.eqFields,if_pos hn,Cj,h1,h3,h5,Cd];cases b.eqv x y <;> simp
 |f::R::fs,off,.pair b c,h=>by
  intro w G x y H O u J z r hx hy;simp only[eqF,BX]at h;obtain⟨⟨Y,a2⟩,I⟩:=h;obtain⟨Z,c2,rfl,X,a1⟩:=hx;obtain⟨d1,d2,rfl,M,a0⟩:=hy;obtain⟨v1,h1,h2⟩:=mL Y (xs:=H++(Z++c2)) (p:=H) (c:=Z) (s:=c2) (by simp) z X.len w;obtain⟨v2,h3,h4⟩:=mL Y (xs:=u++(d1++d2)) (p:=u) (c:=d1) (s:=d2) (by simp) r M.len w;have h5:=hg b f.type a2 w G x.1 y.1 v1 v2 Z d1 h2 X h4 M;have h6:=yt hg (R::fs) (off+b.cells) c I w G x.2 y.2 (H++Z) c2 (u++d1) d2 (by simp[z,X.len]) (by simp[r,M.len]) a1 a0;rw[CS,CS]at h6;have hn:f.name≠ "_" := by
   unfold lN at Y;simp only[BX]at Y;simpa using Y.1.1.1
  rw[Op.eqFields];simp only[if_pos hn,Cj,h1,h3,h5,Cd];show _=Result.ok (b.eqv x.1 y.1&&c.eqv x.2 y.2) w;cases b.eqv x.1 y.1 with
  |false=>simp
  |true=>simpa using h6
 |f::R::fs,off,.int _,h=>by simp[eqF]at h
 |f::R::fs,off,.bool,h=>by simp[eqF]at h
 |f::R::fs,off,.str,h=>by simp[eqF]at h
 |f::R::fs,off,.unit,h=>by simp[eqF]at h
 |f::R::fs,off,.list _ _ _,h=>by simp[eqF]at h
 |f::R::fs,off,.hdr,h=>by simp[eqF]at h
theorem r8 (x y:ByteArray):(x==y)=decide (x=y):=by
 rw[beq_toListBytes];by_cases h:x=y
 ·subst h;simp
 ·rw[decide_eq_false h];cases r:(x.toList==y.toList) with
  |false=>rfl
  |true =>
   exfalso;apply h;have:=eq_of_beq r;rw[DD,DD]at this;apply ByteArray.ext;exact Array.ext' this
theorem yu:∀ (n:Nat) (a:Ty) (t:TypeId),eqT P n a t=true->∀ d,n<=d->zX P d a t
 |0,_,_,h=>by simp[eqT]at h
 |n+1,a,t,h=>by
  intro d hd;obtain⟨d,rfl⟩:∃ d',d=d'+1:=⟨d-1,by omega⟩;intro w G x y O R M I u H r z;cases a with
  |int k =>
   simp only[eqT]at h;split at h
   ·rename_i Y J;have hk:=of_decide_eq_true h;subst hk;have H:M=[.int Y x]:=H;have z:I=[.int Y y]:=z;have u:M=[O]:=u;have r:I=[R]:=r;rw[H]at u;rw[z]at r;simp at u r;subst u;subst r;simp[Op.equalIn,run_underlying J,Ty.eqv];rfl
   ·cases h
  |bool =>
   simp only[eqT]at h;split at h
   ·rename_i J;have H:M=[.bool x]:=H;have z:I=[.bool y]:=z;have u:M=[O]:=u;have r:I=[R]:=r;rw[H]at u;rw[z]at r;simp at u r;subst u;subst r;simp[Op.equalIn,run_underlying J,Ty.eqv]
   ·cases h
  |str =>
   simp only[eqT]at h;split at h
   ·rename_i J;have H:M=[.string x]:=H;have z:I=[.string y]:=z;have u:M=[O]:=u;have r:I=[R]:=r;rw[H]at u;rw[z]at r;simp at u r;subst u;subst r;have:=r8 x y;simp[Op.equalIn,run_underlying J,Ty.eqv,this]
   ·cases h
  |pair b c =>
   simp only[eqT]at h;split at h
   ·rename_i X J;simp only[BX,CZ]at h;have Z:P.fieldsOf t=X:=by simp[Program.fieldsOf,J]
    have u:O=.agg M.toArray:=u;have r:R=.agg I.toArray:=r;subst u;subst r;rw[run_equalIn_struct (P:=P) w d t _ _ (by rw[Z];exact J) h.1,Z];have:=yt (P:=P) (λb t hb=>yu n b t hb d (by omega)) X.toList 0 (.pair b c) h.2 w G x y [] M [] I rfl rfl H z;simpa using this
   ·cases h
  |unit=>simp[eqT]at h
  |hdr=>simp[eqT]at h
  |list m E e=>simp[eqT]at h
theorem AZ {t:TypeId}{a:Ty}(h:eqT P 64 a t=true)(z:a.isAgg=true):EqAt P t a:=by
 intro _ w G x y r u H I;have:=yu 64 a t h Op.maxDepth (by decide) w G x y (.agg r.toArray) (.agg u.toArray) r u (by rw[z];rfl) H (by rw[z];rfl) I;exact this
def wZ:Value->Value->Bool
 |.int k n,.int r y=>decide (k=r)&&decide (n=y)
 |.bool b,.bool u=>b==u
 |.string s,.string z=>decide (s.toList=z.toList)
 |.slice none 0 0,.slice none 0 0=>true
 |.pointer none,.pointer none=>true
 |.nilFunc,.nilFunc=>true
 |_,_=>false
def kT:List Value->List Value->Bool
 |[],[]=>true
 |v::y,u::r=>wZ v u&&kT y r
 |_,_=>false
theorem zG {v u:Value}(h:wZ v u=true):v=u:=by
 unfold wZ at h;split at h
 ·simp only[BX,decide_eq_true_eq]at h;rw[h.1,h.2]
 ·rw[eq_of_beq h]
 ·rename_i s r;have:s=r:=by
   have y:=r8 s r;rw[beq_toListBytes,of_decide_eq_true h]at y;simpa using y.symm
  rw[this]
 ·rfl
 ·rfl
 ·rfl
 ·cases h
theorem mM:∀ {r us:List Value},kT r us=true->r=us
 |[],[],_=>rfl
 |v::r,u::us,h=>by
  simp only[kT,BX]at h;rw[zG h.1,mM h.2]
 |[],_::_,h=>by simp[kT]at h
 |_::_,[],h=>by simp[kT]at h
def zB (P:Program)(t:TypeId)(agg:Bool)(cs:List Value):Bool :=
 match P.info? t with
 |some i=>match i.zero with
  |some (.agg r)=>agg&&kT r.toList cs
  |some v=>!agg&&kT [v] cs
  |none=>false
 |none=>false
theorem yw {t:TypeId}{cs:List Value}(h:zB P t true cs=true):d7 P t (.agg cs.toArray):=by
 unfold zB at h;unfold d7;split at h
 ·rename_i i u;rw[u];split at h
  ·rename_i y r;simp only[DF]at h;rw[CO,r,<- mM h,Array.toArray_toList]
  ·cases h
  ·cases h
 ·cases h
theorem lO {t:TypeId}{v:Value}(h:zB P t false [v]=true):d7 P t v:=by
 unfold zB at h;unfold d7;split at h
 ·rename_i i y;rw[y];split at h
  ·cases h
  ·rename_i u _ r;simp only[DV,DF]at h;have:=mM h;simp only[C3,and_true]at this;rw[CO,r,this]
  ·cases h
 ·cases h
def kk (P:Program)(n:Nat):List Field->List (Nat×Nat×Bool)->Bool
 |[],[]=>true
 |f::u,(off,k,agg)::r=>B7 f.offset off&&szB P f.type k&&ui P f.type agg&&C0 0 k&&C9 (off+k) n&&(agg||B7 k 1)&&kk P n u r
 |_,_=>false
def isU8:Ty->Bool
 |.int .u8=>true
 |_=>false
def u8B (P:Program)(E:TypeId):Bool :=
 match P.underlying E with
 |some (.int .u8)=>true
 |_=>false
def tiB (P:Program)(t:TypeId):TI->Bool
 |.int k=>(match P.underlying t with|some (.int k')=>decide (k'=k)|_=>false)&&szB P t 1&&zB P t false [.int k 0]
 |.bool=>(match P.underlying t with|some .bool=>true|_=>false)&&szB P t 1&&zB P t false [.bool false]
 |.str=>(match P.underlying t with|some .string=>true|_=>false)&&szB P t 1&&zB P t false [.string ByteArray.empty]
 |.slice E e r=>(match P.underlying t with|some (.slice E')=>B7 E' E|_=>false)&&szB P t 1&&zB P t false [.slice none 0 0]&&C0 0 e.cells&&C0 0 r &&
  szB P E e.cells&&(match P.info? E with | some i=>B7 i.bytes r&&(match i.zero with | some z=>kT z.cells.toList (zeroCells e) | none=>false) | none=>false)&&(!isU8 e||u8B P E)
 |.arr e n=>(match P.underlying t with|some (.array m E)=>B7 m n&&szB P E e.cells&&ui P E e.isAgg|_=>false)&&C0 0 e.cells&&szB P t (n*e.cells)&&zB P t true (List.replicate n (zeroCells e)).flatten
 |.struct a u=>(match P.underlying t with | some (.struct y)=>kk P a.cells y.toList u | _=>false)&&szB P t a.cells&&zB P t true (zeroCells a)&&a.isAgg&&(!a.flat||eqT P 64 a t)&&!P.eqGuardType P.depth t
 |.ptr=>(match P.underlying t with|some (.pointer _)=>true|_=>false)&&szB P t 1&&zB P t false [.pointer none]
 |.fn=>(match P.underlying t with|some (.func _ _ _)=>true|_=>false)&&szB P t 1&&zB P t false [.nilFunc]
 |.none=>true
theorem qv {n:Nat}:∀ {fs:List Field} {xs:List (Nat×Nat×Bool)},kk P n fs xs=true ->
  fs.mapM (λf=>(P.info? f.type).map λi=>(f.offset,i.size))=some (xs.map λx=>(x.1,x.2.1)) /\
  ∀ (i off k:Nat) (agg:Bool),xs[i]?=some (off,k,agg)->(agg=false->k=1)/\∃ f:Field,fs[i]?=some f/\f.offset=off/\0<k/\off+k<=n/\bS P f.type k /\
   (P.underlying f.type).map (λd=>match d with|.struct _|.array _ _=>true|_=>false)=some agg
 |[],[],_=>⟨rfl,λi off k agg h=>by simp at h⟩
 |[],_::_,h=>by simp[kk]at h
 |_::_,[],h=>by simp[kk]at h
 |f::fs,(off,k,agg)::xs,h=>by
  simp only[kk,BX,Cm]at h;obtain⟨⟨⟨⟨⟨⟨H,M⟩,O⟩,Y⟩,h5⟩,u⟩,h7⟩:=h;have H:=B5 H;have r:=fR M;obtain⟨R,h9⟩:=qv h7;constructor
  ·unfold bS at r;cases I:P.info? f.type with
   |none=>rw[I]at r;cases r
   |some i =>
    rw[I]at r;simp only[CO,BV]at r;simp[C8,I,R,r,H]
  ·intro i y Z z J;cases i with
   |zero =>
    simp at J;obtain⟨rfl,rfl,rfl⟩:=J;refine⟨λX=>?_,f,rfl,H,by simpa[Ch]using Y,CR h5,r,q8 O⟩;rcases u with u|u
    ·rw[X]at u;cases u
    ·exact B5 u
   |succ i =>
    obtain⟨q1,f',q2,q3⟩:=h9 i y Z z (by simpa using J);exact⟨q1,f',by simpa using q2,q3⟩
theorem BR {t:TypeId}{i:TI}(h:tiB P t i=true):oY P t i:=by
 cases i with
 |none=>trivial
 |int k =>
  simp only[tiB,BX]at h;obtain⟨⟨r,H⟩,I⟩:=h;split at r
  ·rename_i k' u;rw[of_decide_eq_true r]at u;exact⟨u,fR H,lO I⟩
  ·cases r
 |bool =>
  simp only[tiB,BX]at h;obtain⟨⟨r,H⟩,I⟩:=h;split at r
  ·rename_i u;exact⟨u,fR H,lO I⟩
  ·cases r
 |str =>
  simp only[tiB,BX]at h;obtain⟨⟨r,H⟩,I⟩:=h;split at r
  ·rename_i u;exact⟨u,fR H,lO I⟩
  ·cases r
 |ptr =>
  simp only[tiB,BX]at h;obtain⟨⟨r,H⟩,I⟩:=h;split at r
  ·rename_i e u;exact⟨⟨e,u⟩,fR H,lO I⟩
  ·cases r
 |fn =>
  simp only[tiB,BX]at h;obtain⟨⟨r,H⟩,I⟩:=h;split at r
  ·rename_i x y z u;exact⟨⟨x,y,z,u⟩,fR H,lO I⟩
  ·cases r
 |slice E e a1 =>
  simp only[tiB,BX]at h;obtain⟨⟨⟨⟨⟨⟨⟨r,H⟩,I⟩,Z⟩,M⟩,X⟩,R⟩,J⟩:=h;have a0:e=.int .u8->P.underlying E=some (.int .u8):=by
   intro he;subst he;have J:u8B P E=true:=by simpa[isU8]using J
   unfold u8B at J;split at J
   ·rename_i hq;exact hq
   ·cases J
  split at r
  ·rename_i E' u;rw[B5 r]at u;split at R
   ·rename_i ti Y;simp only[BX]at R;obtain⟨h8,h9⟩:=R;split at h9
    ·rename_i z hz;have O:=fR X;unfold bS at O;rw[Y]at O;simp only[CO,BV]at O;exact⟨u,fR H,lO I,by simpa[Ch]using Z,⟨by simpa[Ch]using M,a0⟩,ti,z,Y,O,B5 h8,hz,mM h9⟩
    ·cases h9
   ·cases R
  ·cases r
 |arr e n =>
  simp only[tiB,BX]at h;obtain⟨⟨⟨r,H⟩,I⟩,Z⟩:=h;split at r
  ·rename_i m E u;simp only[BX]at r;obtain⟨⟨M,X⟩,R⟩:=r;rw[B5 M]at u;exact⟨⟨E,u,fR X,q8 R⟩,by simpa[Ch]using H,fR I,yw Z⟩
  ·cases r
 |struct a a2 =>
  simp only[tiB,BX,Cm,CZ]at h;obtain⟨⟨⟨⟨⟨r,H⟩,I⟩,Z⟩,M⟩,X⟩:=h;split at r
  ·rename_i fs u;obtain⟨R,h8⟩:=qv r;refine⟨⟨fs,u,R,λi off n agg hx=>?_⟩,fR H,yw I,?_,X⟩
   ·obtain⟨q1,f,q2,q3⟩:=h8 i off n agg hx;exact⟨q1,f,by simpa using q2,q3⟩
   ·intro hf;rcases M with M|M
    ·rw[hf]at M;cases M
    ·exact AZ M Z hf
  ·cases r
def tlB (P:Program):List (TypeId×TI)->Bool
 |[]=>true
 |x::l=>tiB P x.1 x.2&&tlB P l
theorem hZ:∀ {l:List (TypeId×TI)},tlB P l=true->TOk P (gf l):=by
 intro l h;refine sL ?_;induction l with
 |nil=>simp
 |cons x l u =>
  simp only[tlB,BX]at h;intro y r;rcases CC.1 r with rfl|r
  ·exact BR h.1
  ·exact u h.2 y r
end
section
variable {P:Program} {T:TypeId->TI}
theorem nQ (hT:TOk P T)(X:P.follows .mixedOrders=true){f:FuncId}{fn:Func}(hf:P.funcs[f]?=some fn)(hn:(fn.name== "runtime.NumGoroutine")=false) {E:TypeId} {e:Ty} {rs:List RK} {r:Bool}
  {Z:ab [PK.rd (.list false E e)]->Option (ai rs×ah [PK.rd (.list false E e)])} {R0 A B C:Code} {rid:Nat} {o0 o1:Oper} {d0 q t t':Nat} {x0:Operand} {L:List (Nat×List (Nat×List Coe))} {K:Nat}
  (hb:fn.body=some (.seq R0 (.seq (.seq (.region rid #[o0,o1] false) (.cond (.tmp q) A B)) C))) (b4:o0.guard=none) (d2:o0.op=.move x0) (bn:o1.op=.binOp .eql t (.tmp d0) (.const (.slice none 0 0)) t') (cx:o1.guard=none) (b0:o1.dst=some q)
  {E':TypeId} (ht:P.underlying t=some (.slice E'))
  (a3:(dQ fn.ntmps [] (.seq R0 (.seq (.seq (.region rid #[o0,o1] false) (.cond (.tmp q) A B)) C))&&C9 1 fn.ntmps&&C9 fn.ntmps GH&&qA rs&&dp L [] (.seq R0 (.seq (.seq (.region rid #[o0,o1] false) (.cond (.tmp q) A B)) C)))=true)
  {S1:ab [PK.rd (.list false E e)]->St}
  (b3:∀ x,evK [] T L K R0 (av (dj 0 [PK.rd (.list false E e)] x)) (qy (λs _=>act [] T o0 s (λU=>some (ac U s))) (λ_ _=>none))=some (S1 x))
  (Y:∀ x,one (S1 x) (.tmp d0)=.ro true E e x.1)
  (hF:∀ x,evK [] T L K (.seq (.cond (.tmp q) A B) C) (ac (ck (S1 x) [] q .one [.bool false]) (S1 x)) (cZ T [PK.rd (.list false E e)] rs r fn.results.toList)=Z x)
  (c5:∀ x y,x.1=[]->Z x=some y->evK [] T L K (.seq (.cond (.tmp q) A B) C) (ac (ck (S1 x) [] q .one [.bool true]) (S1 x)) (cZ T [PK.rd (.list false E e)] rs r fn.results.toList)=some y) :
  bR P ⟨f,[PK.rd (.list false E e)],rs,r,Z⟩:=by
 refine⟨dn hf hn hb,λw ro x vs u y M cb c4 hy=>?_⟩;simp only[BX]at a3;obtain⟨⟨⟨⟨h1,h2⟩,h3⟩,h4⟩,h5⟩:=a3;have h2:=CR h2;have h3:=CR h3;have hV:ay (gm w ro [PK.rd (.list false E e)] vs u fn.ntmps):=⟨λk hk=>cb k hk,h3⟩;have bb:=vG (P:=P) (ro:=ro) M c4 h2 h3;have hnoΓ:∀ c∈([]:List Ctr),bR P c:=by simp
 have a9:∀ z∈(gm w ro [PK.rd (.list false E e)] vs u fn.ntmps).fixb,z.1∈([]:List Nat):=λz hz=>kd (ps:=[PK.rd (.list false E e)]) hz
 have O:∀ z∈(gm w ro [PK.rd (.list false E e)] vs u fn.ntmps).fixt,z.1∈([]:List Nat):=λz hz=>kc (ps:=[PK.rd (.list false E e)]) hz
 simp only[dQ,BX]at h1;simp only[dp,BX]at h5;obtain⟨d1,⟨b5,c2⟩,cu⟩:=h1;obtain⟨c3,⟨_,c6⟩,cp⟩:=h5;refine calls_of_wp hf hb ?_;rw[DL];generalize cw:bodyPost P fn (tL ⟨f,[PK.rd (.list false E e)],rs,r,Z⟩ w ro vs u y)=Q;have hQ:∀ ex s1,cZ T [PK.rd (.list false E e)] rs r fn.results.toList ex s1=some y->∀ a H,Rel P (gm w ro [PK.rd (.list false E e)] vs u fn.ntmps) s1 a H->Q (exOf ex) a H:=by
  intro ex s1 ba a' H J;obtain⟨c1,v,a0,b1⟩:=yq (c:=⟨f,[PK.rd (.list false E e)],rs,r,Z⟩) hT h4 hV M h2 ba J;have cy:a'.defers=[]:=by obtain⟨W,J⟩:=J;exact J.df
  subst cw;rcases c1 with rfl|rfl <;> exact⟨cy,v,a0,b1⟩
 have b2:∀ (b:Bool),evK [] T L K (.seq (.cond (.tmp q) A B) C) (ac (ck (S1 x) [] q .one [.bool b]) (S1 x)) (cZ T [PK.rd (.list false E e)] rs r fn.results.toList)=some y ->
   ∀ a H,Rel P (gm w ro [PK.rd (.list false E e)] vs u fn.ntmps) (ac (ck (S1 x) [] q .one [.bool b]) (S1 x)) a H->(Code.cond (.tmp q) A B).wp P (Exit.then (C.wp P Q) Q) a H:=by
  intro b a6 a H J;refine sy hV hT hnoΓ X a9 (nt:=fn.ntmps) (fix:=[]) rfl O (.cond (.tmp q) A B) (by simp only[dQ,BX];exact c2) (by simp only[dp,BX];exact c6) _ _ y _ a6 (λex s1 I a H J=>?_) a H J;cases ex with
  |normal=>exact sy hV hT hnoΓ X a9 (nt:=fn.ntmps) (fix:=[]) rfl O C cu cp s1 _ y Q I hQ a H J
  |exit bx=>exact hQ (.exit bx) s1 I a H J
  |ret=>exact hQ .ret s1 I a H J
 have a5:∀ (i:Nat) (o:Oper),(#[o0,o1]:Array Oper)[i]?=some o->ly fn.ntmps [] #[o0,o1] o=true:=λi o hi=>by
  simp only[CL]at b5;exact b5 o (by simpa using C5 hi)
 refine wp_seq (sy hV hT hnoΓ X a9 (nt:=fn.ntmps) (fix:=[]) rfl O R0 d1 c3 _ _ (S1 x) _ (b3 x) (λex s0 I a H J=>?_) _ _ bb);cases ex with
 |exit bx=>cases I
 |ret=>cases I
 |normal =>
  have I:act [] T o0 s0 (λU=>some (ac U s0))=some (S1 x):=I;rw[tS]at I;obtain⟨U,hU,I⟩:=CT.1 I;simp only[BV]at I;refine wp_seq (wp_seq (wp_region ?_));have a2:DU (#[o0,o1]:Array Oper).size=[0,1]:=rfl;rw[a2,wpOps_cons];refine wW hV hT hnoΓ (ops:=#[o0,o1]) (i:=0) (o:=o0) rfl (mI rfl O (a5 0 o0 rfl)) (λj d3 hg=>by rw[b4]at hg;cases hg) (U:=U) (by unfold mF;rw[b4];exact hU) J (λa1 w1 R=>?_);rw[I]at R;rw[wpOps_cons];obtain⟨W1,R⟩:=R;have a4:bP (gm w ro [PK.rd (.list false E e)] vs u fn.ntmps) o1:=mI rfl O (a5 1 o1 rfl);obtain⟨h7,_,_,_,_⟩:=bt R (.tmp d0) (by rw[Y x];simp);rw[Y x]at h7;obtain⟨A',bl,hv,_,cc⟩:=h7;have hv:a1.eval (.tmp d0)=.slice A' x.1.length bl:=by simpa using hv
  have c0:A'=none->x.1=[]:=λhA=>by
   cases hx:x.1 with
   |nil=>rfl
   |cons y ys =>
    obtain⟨g,o,b9,_⟩:=cc (by rw[hx];simp);rw[hA]at b9;cases b9
  have a6:evK [] T L K (.seq (.cond (.tmp q) A B) C) (ac (ck (S1 x) [] q .one [.bool A'.isNone]) (S1 x)) (cZ T [PK.rd (.list false E e)] rs r fn.results.toList)=some y:=by
   cases hA:A' with
   |none=>exact c5 x y (c0 hA) hy
   |some ad=>exact (hF x).trans hy
  have a0:(execOp a1.eval o1).run P w1=.ok (.value (.bool A'.isNone)) w1:=by
   have:=Lib.run_eql_slice_nil (P:=P) w1 t E' A' x.1.length bl 0 0 ht;have hc:a1.eval (.const (.slice none 0 0))=.slice none 0 0:=rfl;simp[execOp,bn,hv,hc,eqGuard,this]
  unfold wpOp;have hi:(#[o0,o1]:Array Oper)[1]?=some o1:=rfl;simp only[hi];have hw:Region.wanted o1 (yielded #[o0,o1] a1.tmps)=true:=by simp[Region.wanted,cx]
  rw[if_pos hw];refine .inl (dY a0 ?_);rw[b0];show Exit.then _ _ _ _ _;exact b2 _ a6 _ _ (R.putLs hV q (a4 q b0).1 (a4 q b0).2 _ .one [.bool A'.isNone] (.bool A'.isNone) [.bool A'.isNone] (Ce _) rfl ⟨⟨rfl,id,rfl⟩,trivial⟩)
end
open Go.ChangeShapes Go.WideShapes
section
variable {H:Type} {enc:TypeId×Value->H} {P:Program}
theorem mP (M:laidOutB P=true){W W':World}{J:Nat->Bool}:∀ {y:List TypeId} {z:List Value} {ds:List (DataW H)} {ps:List MemPlace},(∀ t∈y,P.readableRec t=true/\t<P.types.size) ->
  DataW.TrodAll enc P W 0 (λ_=>true) true y z ds ps->(∀ x∈ps,W.sameAt W' x)->(∀ x∈ps,J x.block=true)->DataW.TrodAll enc P W' 0 J true y z ds ps
 |[],[],[],_,_,h,_,_=>h
 |[],[],_::_,_,_,h,_,_=>h.elim
 |[],_::_,_,_,_,h,_,_=>h.elim
 |_::_,[],_,_,_,h,_,_=>h.elim
 |_::_,_::_,[],_,_,h,_,_=>h.elim
 |t::y,v::z,d::ds,ps,I,⟨p,q,X,R,e⟩,O,u=>by
  subst e;refine⟨p,q,WideElems.Trod_stays M (I t (B4 ..)).1 (I t (B4 ..)).2 X (λx r=>O x (BY _ r)) (λx r=>u x (BY _ r)),
   mP M (λY Z=>I Y (B3 _ Z)) R (λx r=>O x (BZ _ r)) (λx r=>u x (BZ _ r)),rfl⟩
theorem sj (hl:laidOutB P=true){f:Func}{s:ChangeSpec}{J Z y Y:Bool}{W W':World}{u:Array Value}{ds gs:List (DataW H)}{r:List MemPlace}
  (hW:DataW.Whole enc P f.params.toList s.vars J W u.toList ds gs r) (I:s.vars=[]) (hb:Below W.heap.size W W') (X:∀ t∈f.params.toList,P.readableRec t=true/\t<P.types.size)
  {tb:TypeId} (O:f.resultTypes=#[tb]) (z:P.underlying tb=some .bool) (a2:(s.fn H (ds++gs)).results=[.lit (.bool true)]) (a0:(s.fn H (ds++gs)).args=ds) (a5:(s.fn H (ds++gs)).vars=[]) :
  s.post enc P f J Z y Y W u (.bool true) W':=by
 have a1:∀ p∈r,p.block<W.heap.size:=λp hp=>by simpa using hW.lt p hp
 have a3:=hW;obtain⟨p,q,hA,hV,e,hz,hn⟩:=hW;rw[I]at hV;obtain⟨rfl,rfl⟩:=trodVars_none hV;simp only[List.append_nil]at e;subst e;have R:∀ x∈r,W.sameAt W' x:=λx hx=>hb.same (a1 x hx)
 have a4:(Value.bool true).resultList f.resultTypes.size=[.bool true]:=by rw[O];rfl
 have hr:∀ (b:Nat) (M:Nat->Bool) (hd:Bool),DataW.TrodAll enc P W' b M hd f.resultTypes.toList ((Value.bool true).resultList f.resultTypes.size) (s.fn H (ds++[])).results []:=by
  intro b M hd;rw[a4,a2,O];exact trodAll_mk1 (shut_bool z true)
 have ha:∀ (M:Nat->Bool),(∀ x∈r,M x.block=true)->DataW.TrodAll enc P W' 0 M true f.params.toList u.toList (s.fn H (ds++[])).args r:=by
  intro M a6;rw[a0];exact mP hl X hA R a6
 have hv:∀ (M:Nat->Bool),DataW.TrodVars enc P W' M s.vars (s.fn H (ds++[])).vars []:=by
  intro M;rw[I,a5];rfl
 refine⟨ds,[],r,[],r,[],a3,hr _ _ _,ha _ (λx hx=>by simpa using a1 x hx),hv _,hb.frame _,λ_=>⟨ok_one O rfl (okWide_bool_mk z true),_,_,([]++r)++[],⟨[]++r,[],trodAll_append (ha _ (λ_ _=>rfl)) (hr _ _ _),hv _,rfl,?_,?_⟩,?_⟩⟩
 ·intro b off hp;have hp:MemPlace.cell b off∈r:=by simpa using hp
  rw[hb.frozen (p:=⟨b,off,none⟩) (a1 _ hp)];exact hz b off hp
 ·intro a9;have:=hn a9;simpa using this
 ·intro x hx _;simpa using hx
end
section
variable {H:Type} {enc:TypeId×Value->H} {P:Program} {w:World} {base:Nat} {spare:Nat->Bool} {held:Bool}
def shF (P:Program)(g:Ty->TypeId->Bool):List Field->Nat->Ty->Bool
 |[],_,_=>false
 |[f],off,b=>B7 f.offset off&&B7 (P.cellsOf f.type) b.cells&&g b f.type
 |f::r,off,.pair b c=>B7 f.offset off&&B7 (P.cellsOf f.type) b.cells&&g b f.type&&shF P g r (off+b.cells) c
 |_,_,_=>false
def shT (P:Program):Nat->Ty->TypeId->Bool
 |0,_,_=>false
 |n+1,a,t=>match a with
  |.int k=>(match P.underlying t with|some (.int k')=>decide (k'=k)|_=>false)
  |.bool=>(match P.underlying t with|some .bool=>true|_=>false)
  |.str=>(match P.underlying t with|some .string=>true|_=>false)
  |.pair b c=>(match P.underlying t with|some (.struct fs)=>shF P (shT P n) fs.toList 0 (.pair b c)&&B7 (P.cellsOf t) (b.cells+c.cells)|_=>false)
  |.list _ E e=>(match P.underlying t with|some (.slice E')=>B7 E' E&&B7 (P.cellsOf E) e.cells&&C0 0 e.cells&&shT P n e E|_=>false)
  |.unit=>false
  |.hdr=>false
def Sm:(a:Ty)->a.den->Prop
 |.int k,n=>(Lit.int k n).wf=true
 |.pair a b,x=>Sm a x.1/\Sm b x.2
 |.list _ _ e,r=>r.length<=maxLen/\∀ x∈(r:List e.den),Sm e x
 |.bool,_=>True
 |.str,s=>s.size<=maxLen
 |.unit,_=>True
 |.hdr,_=>True
theorem kU {α β:Type}{f:α->Option β}:∀ (l:List α) (r:List β),l.mapM f=some r->r.length=l.length/\∀ (i:Nat) (x:α),l[i]?=some x->∃ y,f x=some y/\r[i]?=some y
 |[],r,h=>by
  simp at h;subst h;exact⟨rfl,λi x M=>by simp at M⟩
 |x::l,r,h=>by
  rw[C8]at h;cases J:f x with
  |none=>rw[J]at h;cases h
  |some y =>
   rw[J]at h;cases z:l.mapM f with
   |none=>rw[z]at h;cases h
   |some X =>
    rw[z]at h;cases h;obtain⟨R,O⟩:=kU l X z;refine⟨by simp[R],λi u I=>?_⟩;cases i with
    |zero=>simp at I;subst I;exact⟨y,J,rfl⟩
    |succ i=>simpa using O i u (by simpa using I)
theorem r9 {a:Addr}{n:Nat}{cs:List Value}(h:w.cells? base a n=some cs):base<=a.block/\cs.length=n/\∀ i u,cs[i]?=some u->w.cell? (a.add i)=some u:=by
 unfold World.cells? at h;split at h
 ·rename_i M;obtain⟨I,J⟩:=kU _ _ h;refine⟨M,by simpa using I,λi u z=>?_⟩;have O:i<n:=by have:=(B8.1 z).1;rw[I]at this;simpa using this
  obtain⟨y,R,r⟩:=J i i (by simp[O]);rw[z]at r;cases r;exact R
 ·cases h
theorem oT {g:Ty->TypeId->Bool}{rd:TypeId->List Value->Option (DataW H×List MemPlace)}
  (X:∀ b t,g b t=true->∀ cs d,rd t cs=some d->∃ x:b.den,Rd w (λk=>k<w.heap.size) b x cs/\Sm b x) :
  ∀ (fs:List Field) (off:Nat) (b:Ty),shF P g fs off b=true->∀ (cs:List Value),cs.length=off+b.cells ->
   (∀ f∈fs,∃ d,rd f.type ((cs.drop f.offset).take (P.cellsOf f.type))=some d)->∃ x:b.den,Rd w (λk=>k<w.heap.size) b x (cs.drop off)/\Sm b x
 |[],_,_,h=>by simp[shF]at h
 |[f],off,b,h=>by
  intro cs u M;simp only[shF,BX]at h;obtain⟨⟨z,r⟩,O⟩:=h;have z:=B5 z;have r:=B5 r;obtain⟨d,J⟩:=M f (B4 ..);rw[z,r,List.take_of_length_le (by simp;omega)]at J;exact X b f.type O _ d J
 |f::I::fs,off,.pair b c,h=>by
  intro cs u M;simp only[shF,BX]at h;obtain⟨⟨⟨z,r⟩,O⟩,h4⟩:=h;have z:=B5 z;have r:=B5 r;have u:cs.length=off+(b.cells+c.cells):=u;obtain⟨d,J⟩:=M f (B4 ..);rw[z,r]at J;obtain⟨x,hx,Y⟩:=X b f.type O _ d J;obtain⟨y,hy,Z⟩:=oT X (I::fs) (off+b.cells) c h4 cs (by omega) (λf0 R=>M f0 (B3 _ R));refine⟨(x,y),⟨_,_,?_,hx,hy⟩,Y,Z⟩;rw[<- C6,List.take_append_drop]
 |f::I::fs,off,.int _,h=>by simp[shF]at h
 |f::I::fs,off,.bool,h=>by simp[shF]at h
 |f::I::fs,off,.str,h=>by simp[shF]at h
 |f::I::fs,off,.unit,h=>by simp[shF]at h
 |f::I::fs,off,.list _ _ _,h=>by simp[shF]at h
 |f::I::fs,off,.hdr,h=>by simp[shF]at h
theorem oU {β:Type}(Q:Nat->β->Prop):∀ (n:Nat),(∀ i,i<n->∃ x,Q i x)->∃ u:List β,u.length=n/\∀ i x,u[i]?=some x->Q i x
 |0,_=>⟨[],rfl,λi x h=>by simp at h⟩
 |n+1,h=>by
  obtain⟨u,I,M⟩:=oU Q n (λi O=>h i (by omega));obtain⟨x,J⟩:=h n (by omega);refine⟨u++[x],by simp[I],λi y r=>?_⟩;by_cases O:i<n
  ·rw[CP (by omega)]at r;exact M i y r
  ·have z:i<(u++[x]).length:=(B8.1 r).1;have:i=n:=by simp at z;omega
   subst this;rw[CN (by omega),I,Nat.sub_self]at r;simp at r;subst r;exact J
theorem q9:∀ (n:Nat) (a:Ty) (t:TypeId),shT P n a t=true->∀ (I:Nat) (cs:List Value) (d:DataW H×List MemPlace),DataW.trod enc P w base spare held I t cs=some d ->
    ∃ x:a.den,Rd w (λk=>k<w.heap.size) a x cs/\Sm a x
  |0,_,_,h=>by simp[shT]at h
  |n+1,a,t,h=>by
    intro I cs d r;cases I with
    |zero=>simp[DataW.trod]at r
    |succ I =>
      cases a with
      |int k =>
        simp only[shT]at h;split at h
        · rename_i k' O
          have hk:=of_decide_eq_true h;subst hk;simp only[DataW.trod,O]at r;split at r <;> first|(rename_i M;cases M;done)|skip
          all_goals first
            | (rename_i k1 k2 m J
               cases J;split at r
               · rename_i hw
                 obtain⟨rfl,hw⟩:=hw;exact⟨m,rfl,hw⟩
               · cases r)
            |cases r
        · cases h
      |bool =>
        simp only[shT]at h;split at h
        · rename_i O
          simp only[DataW.trod,O]at r;split at r <;> first|(rename_i M;cases M;done)|skip
          all_goals first
            |(rename_i b J;exact⟨b,rfl,trivial⟩)
            |cases r
        · cases h
      |str =>
        simp only[shT]at h;split at h
        · rename_i O
          simp only[DataW.trod,O]at r;split at r <;> first|(rename_i M;cases M;done)|skip
          all_goals first
            | (rename_i b J
               split at r
               · rename_i hb
                 exact⟨b,rfl,hb⟩
               · cases r)
            |cases r
        · cases h
      |unit=>simp[shT]at h
      |hdr=>simp[shT]at h
      |pair b c =>
        simp only[shT]at h;split at h
        · rename_i fs O
          simp only[BX]at h;obtain⟨h1,Z⟩:=h;have Z:=B5 Z;simp only[DataW.trod,O]at r;split at r
          · rename_i a9
            simp only[B6]at r;obtain⟨ys,b4,_⟩:=r;obtain⟨h3,h4⟩:=kU _ _ b4;have:=oT (w:=w) (rd:=DataW.trod enc P w base spare held I) (λb t hb cs d r=>q9 n b t hb I cs d r) fs.toList 0 (.pair b c) h1 cs (by rw[a9,Z,Cf];rfl) (λf hf=>by
              obtain⟨i,hi,e⟩:=DE hf;obtain⟨y,h5,_⟩:=h4 i f (by rw[CF hi,e]);exact⟨y,h5⟩)
            simpa using this
          · cases r
        · cases h
      |list m E e =>
        simp only[shT]at h;split at h
        · rename_i E' O
          simp only[BX]at h;obtain⟨⟨⟨h1,Z⟩,h3⟩,h4⟩:=h;have h1:=B5 h1;subst h1;have Z:=B5 Z;have h3:0<e.cells:=by simpa[Ch]using h3
          simp only[DataW.trod,O]at r;split at r <;> first|(rename_i M;cases M;done)|skip
          all_goals first
            |cases r;done
            |skip
          · exact⟨[],Rd.nil w _ m _ e,DQ _,by simp⟩
          · rename_i E2 R a2 b3 J
            cases J;split at r
            · rename_i hc
              obtain⟨b1,ba,bb⟩:=hc;obtain⟨bl,a4,_⟩:=CT.1 r;obtain⟨h5,h6⟩:=kU _ _ a4;have b2:∀ i,i<a2->∃ x:e.den,∃ c,w.cells? base (R.add (i*e.cells)) e.cells=some c/\Rd w (λk=>k<w.heap.size) e x c/\Sm e x:=by
                intro i hi;obtain⟨y,h7,_⟩:=h6 i i (by simp[hi]);obtain⟨c,h8,h9⟩:=CT.1 h7;rw[Z]at h8;obtain⟨x,hx,b5⟩:=q9 n e _ h4 I c y h9;exact⟨x,c,h8,hx,b5⟩
              obtain⟨xs,b0,a1⟩:=oU (λi (x:e.den)=>∃ c,w.cells? base (R.add (i*e.cells)) e.cells=some c/\Rd w (λk=>k<w.heap.size) e x c/\Sm e x) a2 b2;refine⟨xs,⟨some R,b3,by rw[b0],by omega,λhp=>?_⟩,by omega,λx hx=>?_⟩
              · have b9:0<xs.length:=hp
                obtain⟨c,a0,a5,_⟩:=a1 0 xs[0] (CF b9);obtain⟨_,bn,X⟩:=r9 a0;have h0:0<c.length:=by omega
                have z:=X 0 c[0] (CF h0);have e0:(R.add (0*e.cells)).add 0=R:=by simp[Addr.add]
                rw[e0]at z;have Y:R.spot=none/\R.block<w.heap.size:=by
                  unfold World.cell? at z;split at z
                  · rename_i hh
                    split at z
                    · cases z
                    · rename_i hs
                      refine⟨by simpa using hs,(Cr.1 hh).1⟩
                  · cases z
                obtain⟨g,o,sp⟩:=R;obtain⟨a6,a3⟩:=Y;simp only at a6 a3;subst a6;refine⟨g,o,rfl,a3,λj x hj=>?_⟩;obtain⟨c,a0,a5,_⟩:=a1 j x hj;obtain⟨_,_,X⟩:=r9 a0;refine⟨c,a5,λi u hi=>?_⟩;have:=X i u hi
                rwa [eZ,eZ]at this
              · obtain⟨j,hj,e1⟩:=DE hx
                obtain⟨c,_,_,hs⟩:=a1 j x (by rw[CF hj,e1]);exact hs
            · cases r
        · cases h
end
section
variable {H:Type} {enc:TypeId×Value->H} {P:Program} {w:World}
theorem zH {n:Nat}{a:Ty}{t:TypeId}(r:shT P (n+1) a t=true){v:Value}{d:DataW H}{p:List MemPlace}(J:DataW.Trod enc P w 0 (λ_=>true) true t v d p){base:Nat}(u:DX P w .any base t v) :
  ∃ x:a.den,(∃ z,db a.isAgg v z/\Rd w (λk=>k<w.heap.size) a x z)/\Sm a x:=by
 obtain⟨I,J⟩:=J;obtain⟨x,R,M⟩:=q9 (n+1) a t r I _ _ J;refine⟨x,⟨v.cells.toList,?_,R⟩,M⟩;cases a with
 |int k =>
  simp only[shT]at r;split at r
  ·rename_i k' y;obtain⟨n,rfl⟩:=okWide_int y u;rfl
  ·cases r
 |bool =>
  simp only[shT]at r;split at r
  ·rename_i y;obtain⟨n,rfl⟩:=okWide_bool y u;rfl
  ·cases r
 |str =>
  simp only[shT]at r;split at r
  ·rename_i y;obtain⟨n,rfl⟩:=okWide_string y u;rfl
  ·cases r
 |list m E e =>
  simp only[shT]at r;split at r
  ·rename_i Y y;obtain⟨A,O,X,rfl⟩:=okWide_slice y u;rfl
  ·cases r
 |unit=>simp[shT]at r
 |hdr=>simp[shT]at r
 |pair b c =>
  simp only[shT]at r;split at r
  ·rename_i Z y;obtain⟨z,rfl,_⟩:=okWide_struct y u;show Value.agg z=.agg (Value.agg z).cells.toList.toArray;simp[Value.cells]
  ·cases r
def Sms:(as:List Ty)->ab (as.map .rd)->Prop
 |[],_=>True
 |a::as,x=>Sm a x.1/\Sms as x.2
def uj (P:Program):List Ty->List TypeId->Bool
 |[],[]=>true
 |a::as,t::r=>shT P 64 a t&&uj P as r
 |_,_=>false
theorem sa {pr:Nat->Prop}:∀ (as:List Ty) (I:List TypeId) (u:List Value) (ds:List (DataW H)) (ps:List MemPlace),uj P as I=true->DataW.TrodAll enc P w 0 (λ_=>true) true I u ds ps ->
  (∃ r,∀ (j:Nat) (t:TypeId) (v:Value),I[j]?=some t->u[j]?=some v->DX P w .any r t v)->∃ x:ab (as.map .rd),c9 P w (λk=>k<w.heap.size) pr (as.map .rd) x u (as.map λ_=>[])/\Sms as x
 |[],[],[],[],_,_,_,_=>⟨(),⟨rfl,rfl⟩,trivial⟩
 |[],[],[],_::_,_,_,h,_=>h.elim
 |[],[],_::_,_,_,_,h,_=>h.elim
 |[],_::_,_,_,_,h,_,_=>by simp[uj]at h
 |_::_,[],_,_,_,h,_,_=>by simp[uj]at h
 |_::_,_::_,[],_,_,_,h,_=>h.elim
 |_::_,_::_,_::_,[],_,_,h,_=>h.elim
 |a::as,t::I,v::u,d::ds,ps,M,⟨p,q,h1,X,_⟩,⟨r,z⟩=>by
  simp only[uj,BX]at M;obtain⟨x,hx,J⟩:=zH (n:=63) M.1 h1 (z 0 t v rfl rfl);obtain⟨y,Z,O⟩:=sa as I u ds q M.2 X ⟨r,λj t' R Y h4=>z (j+1) t' R (by simpa using Y) (by simpa using h4)⟩;exact⟨(x,y),⟨v,u,[],_,rfl,rfl,⟨rfl,hx⟩,Z⟩,J,O⟩
theorem zI (tys:List Ty):(tys.map λ_=>([]:List Nat)).flatten=[]:=by
 induction tys with
 |nil=>rfl
 |cons a tys r=>simp
theorem yx {f:FuncId}{tys:List Ty}{z:Bool}{M:ab (tys.map PK.rd)->Option (ai [.v .bool]×ah (tys.map PK.rd))}(hs:bR P ⟨f,tys.map .rd,[.v .bool],z,M⟩){x:ab (tys.map .rd)}{X:List Value}{o:ah (tys.map .rd)}
  (hx:c9 P w (λk=>k<w.heap.size) (λk=>k<w.heap.size) (tys.map .rd) x X (tys.map λ_=>[])) (hd:M x=some ((true,()),o)):Calls P f X.toArray w (λe w'=>e=.returned (.bool true)/\Below w.heap.size w w'):=by
 have R:=zI tys;have:=hs.2 w (λk=>k<w.heap.size) x X _ _ (hx.mono (λ_ h=>h) (λk J=>⟨J,by rw[R];simp⟩)) (λk J=>⟨J,by rw[R];simp⟩) (by rw[R];exact Ct) hd;refine this.mono λe w' hp=>?_
 obtain⟨v,us,N,a5,a6,rfl,r,a1,Y,a2,Z,a0,_,_,O,_,_⟩:=hp;refine⟨?_,⟨Y,a2,Z,a1,λk J=>a0 k J (by rw[R];simp)⟩⟩;obtain⟨u,a4,b,a3,e1,e2,⟨cs,y,I⟩,e3,e4⟩:=O;subst e3;subst e1;have r:v=u:=r;subst r;have y:cs=[v]:=y;have I:cs=[.bool true]:=I.1;rw[y]at I;simp only[C3,and_true]at I;rw[I]
end
end Go.Proofs.YtadlacffdemoiaaGreatEv
