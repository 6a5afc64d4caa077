/- One operation looks at some slots alone. -/
import Derived.Test.YtadlacffdemoiaaGreatE3
import Derived.Laws.StructEq
import Derived.Lib.SliceRun
import Derived.ProofKit
set_option linter.unusedVariables false
set_option linter.unusedSimpArgs false
open Array renaming getElem?_eq_getElem->CF,getD_eq_getD_getElem?->CG,replicate->Cc,all_eq_true_iff_forall_mem->Cn,getElem?_eq_some_iff->Cw,getElem?_append_left->Cx,getElem?_replicate->C5,mem_of_getElem?->DA,length_toList->DG,mem_append->DS
open Bool renaming and_eq_true->B5,not_eq_true'->Ce,or_eq_true->Cr,false_eq_true->Cu,and_false->Cv,and_true->C4,true_and->DK,not_false->Da
open Classical renaming byContradiction->CV
open Go.ByteArray renaming toList_eq->DI
open Go.Result renaming andThen_ok->Ci
open Go.Sem renaming run_bind->Co,run_pure->DP
open Go.Value renaming okWide->Dc
open List renaming mem_append->B4,mem_append_left->B6,mem_append_right->B7,mem_cons_of_mem->B8,mem_cons_self->B9,getElem?_eq_some_iff->CD,mem_map->CE,mem_cons->CH,getD_eq_getElem?_getD->CI,flatten_cons->CJ,getElem?_eq_getElem->CK,mem_flatMap->CM,count_append->CN,mem_singleton_self->CO,count_pos_iff->CP,all_eq_true->CQ,map_cons->CR,getElem?_append_right->CS,getElem?_append_left->CU,append_assoc->CX,nil_append->CZ,mem_singleton->Ca,nodup_cons->Cb,length_cons->Cg,nodup_append->Ch,mem_filter->Cl,any_eq_true->Cq,map_append->Cs,count_cons->Ct,nodup_nil->Cy,count_eq_zero->Cz,any_eq_false->C0,all_cons->C3,getElem?_cons_succ->C6,getElem?_eq_none->C9,drop_drop->DB,mapM_cons->DD,map_congr_left->DF,countP_eq_zero->DH,getElem_of_mem->DJ,set_cons_succ->DL,find?_eq_none->DN,getElem?_map->DO,size_toArray->DQ,mem_toArray->DR,countP_cons->DT,foldl_cons->DX,range->DZ,map_nil->Db
open List.cons renaming injEq->C8
open Nat renaming eq_of_beq_eq_true->CA,beq->CC,le_of_ble_eq_true->CW,lt_succ_self->Cj,zero_add->Ck,blt_eq->Cm,blt->C7,le_refl->DC,ble->DE,lt_of_lt_of_le->DM,zero_le->DV,strongRecOn->DY
open Option renaming map_eq_some_iff->CB,map_some->CT,bind_eq_some_iff->CY,bind_assoc->Cd,bind_some->Cf,bind_none->Cp,getD_some->DU
open Option.some renaming injEq->B3,inj->DW
open Prod.mk renaming injEq->CL
namespace Go.Proofs.YtadlacffdemoiaaGreatEv
open Go Go.RowKit
section
variable {P:Program} {V:Env} {Γ:List Ctr} {T:TypeId->TI} {st st':St} {o:Oper} {R:Type} {κ:Upd->Option R} {r:R}
theorem gS {α β:Type}(b:Bool)(x y:Option α)(f:α->Option β):(bif b then x else y).bind f=bif b then x.bind f else y.bind f:=by cases b <;> rfl
theorem wR {b:Option (Bool×Nat×Nat)}{U:Upd}:kj st b U κ=(kj st b U some).bind κ:=by
 unfold kj;split
 ·split
  ·simp only[Cd];congr 1;funext y;split <;> rfl
  ·rfl
 ·rfl
theorem wS {d:Nat}{f:FuncId}{xs:List (aI×List Leaf)}:jH Γ st d f xs κ=(jH Γ st d f xs some).bind κ:=by
 unfold jH;cases mb Γ f with
 |none=>rfl
 |some c =>
  simp only[gR,Cd];congr 1;funext u;cases oX Γ (ac u.1 st) c.ps u.2.1 with
  |none=>rfl
  |some g =>
   simp only[gS,Cd,Cp];congr 2;funext y;exact wR
theorem mS {z:St}{H:Upd}{d:Nat}{E:TypeId}{e:Ty}{u:Nat}{p:Bool}{xs:List e.den}{ks:List (Nat×Nat)}{y:Leaf}:ea st z H d E e u p xs ks y κ=(ea st z H d E e u p xs ks y some).bind κ:=by
 unfold ea;split
 ·simp only[gS,Cp,Cf]
 ·rfl
theorem ub {z:Upd}{d:Nat}{E:TypeId}{e:Ty}{u:Nat}{x y:Leaf}:eH st z d E e u x y κ=(eH st z d E e u x y some).bind κ:=by
 unfold eH;split
 ·split
  ·rw[gS,<- mS];rfl
  ·rfl
 ·exact mS
 ·rfl
theorem uc {d:Nat}{E:TypeId}{e:Ty}{u:Nat}{x y:Leaf}:iO st d E e u x y κ=(iO st d E e u x y some).bind κ:=by
 unfold iO;simp only[it,gS,Cd,<- ub]
theorem nH {r j i off n:Nat}{p:Bool}{E:TypeId}{e:Ty}{xs:List e.den}{h:Option (Nat×Nat)}{ls:List Leaf}:gX st r j i off n p E e xs h ls κ=(gX st r j i off n p E e xs h ls some).bind κ:=by
 unfold gX;simp only[Cd];congr 1;funext u;split
 ·rw[gS];congr 1;split
  ·rfl
  ·simp only[gS,Cf,Cp]
 ·rfl
theorem ud:act Γ T o st κ=(act Γ T o st some).bind κ:=by
 cases u:o.op <;> simp only[act,wrU,u] <;> (repeat' split) <;>
  (try simp only[gS,Cd,Cp,Cf]) <;> (try rfl) <;> (try exact wS) <;> (try (rw[uc];done)) <;> (try (rw[nH];done)) <;> (try (rw[<- nH];done))
theorem bq {q:Nat}(h:st' q=st q):∀ (U:Upd),ac U st' q=ac U st q
 |[]=>h
 |(r,c)::U=>by simp only[ac,bq h U]
theorem d9 {x:Operand}(h:∀ t,x=.tmp t->st' t=st t):au st' x=au st x:=by
 cases x with
 |tmp t=>simp only[au,h t rfl]
 |_=>rfl
theorem dP {x:Operand}(h:∀ t,x=.tmp t->st' t=st t):one st' x=one st x:=by
 unfold one;rw[d9 h]
theorem lD:∀ (u y:List Leaf),ax (u++y)=ax u++ax y
 |[],_=>rfl
 |l::u,y=>by cases l <;> simp[ax,lD u y]
theorem aL (l:Leaf)(ls:List Leaf):ax (l::ls)=ax [l]++ax ls:=lD [l] ls
theorem fV:∀ (n:Nat) (ls:List Leaf) (q:Nat),q∈ax (ls.drop n)->q∈ax ls
 |0,_,_,h=>h
 |n+1,[],_,h=>h
 |n+1,l::ls,q,h=>by rw[aL];exact B7 _ (fV n ls q h)
theorem r8:∀ (n:Nat) (ls:List Leaf) (q:Nat),q∈ax (ls.take n)->q∈ax ls
 |0,_,_,h=>by simp[ax]at h
 |n+1,[],_,h=>by simp[ax]at h
 |n+1,l::ls,q,h=>by
  rw[List.take_succ_cons,aL,B4]at h;rw[aL,B4];exact h.imp id (r8 n ls q)
theorem rj:∀ {ls:List Leaf} {k:Nat} {l:Leaf},ls[k]?=some l->∀ q∈ax [l],q∈ax ls
 |[],_,_,h,_,_=>by simp at h
 |y::ls,0,l,h,q,u=>by simp at h;subst h;rw[aL];exact B6 _ u
 |y::ls,k+1,l,h,q,u=>by rw[aL];exact B7 _ (rj (by simpa using h) q u)
theorem j0 {ks:List (Nat×Nat×Nat)}{ep:Nat}(h:∀ q∈EPO::ks.map (·.1),st' q=st q):bw st' ks ep=bw st ks ep:=by
 unfold bw;rw[h EPO (B9 ..)];congr 1;induction ks with
 |nil=>rfl
 |cons k ks y =>
  rw[C3,C3,y (λq u=>h q (by simp at u ⊢;rcases u with u|u;exact .inl u;exact .inr (.inr u))),h k.1 (by simp)]
theorem iK {p:Bool}{ks:List (Nat×Nat×Nat)}{ep:Nat}{u:Option (Nat×Nat×Nat)}{E:TypeId}{e:Ty}{xs:List e.den}:ax [.nal p ks ep u E e xs]=EPO::ks.map (·.1):=by simp[ax]
theorem vF {p:Bool}{ks:List (Nat×Nat×Nat)}{ep:Nat}{a:Ty}{x:a.den}{off:Nat}:ax [.np p ks ep a x off]=EPO::ks.map (·.1):=by simp[ax]
theorem cr {l:Leaf}(h:∀ q∈ax [l],st' q=st q):aE st' l=aE st l:=by
 cases l with
 |al r j v=>simp only[aE,h r (by simp[ax])]
 |nal p z ep u E e y=>rw[iK]at h;simp only[aE,j0 h]
 |_=>rfl
theorem kh:∀ (a:Ty) (ls:List Leaf) (p:Bool) (x:a.den) (u:List Leaf),be st a ls=some (p,x,u)->∃ I,ls=I++u
 |.int k,ls,p,x,u,h=>by
  simp only[be]at h;split at h
  ·split at h
   ·simp at h;exact⟨[_],by rw[<- h.2.2];rfl⟩
   ·cases h
  ·cases h
 |.bool,ls,p,x,u,h=>by
  simp only[be]at h;split at h
  ·simp at h;exact⟨[_],by rw[<- h.2.2];rfl⟩
  ·cases h
 |.str,ls,p,x,u,h=>by
  simp only[be]at h;split at h
  ·simp at h;exact⟨[_],by rw[<- h.2.2];rfl⟩
  ·cases h
 |.unit,ls,p,x,u,h=>by
  simp only[be,B3,CL]at h;exact⟨[],by rw[h.2.2];rfl⟩
 |.hdr,ls,p,x,u,h=>by
  simp only[be]at h;split at h
  ·split at h
   ·simp at h;exact⟨[_],by rw[<- h.2.2];rfl⟩
   ·cases h
  ·cases h
 |.pair a b,ls,p,x,u,h=>by
  simp only[be]at h;split at h
  ·rename_i q y H X;split at h
   ·rename_i Y z J O;simp at h;obtain⟨I,M⟩:=kh a ls q y H X;obtain⟨Z,e2⟩:=kh b H Y z J O;exact⟨I++Z,by rw[M,e2,h.2.2,CX]⟩
   ·cases h
  ·cases h
 |.list m E e,ls,p,x,u,h=>by
  simp only[be]at h;split at h
  ·split at h
   ·simp at h;exact⟨[_],by rw[<- h.2.2];rfl⟩
   ·cases h
  ·cases h
theorem gT:∀ (a:Ty) (ls:List Leaf),(∀ q∈ax ls,st' q=st q)->be st' a ls=be st a ls
 |.int k,ls,h=>rfl
 |.bool,ls,h=>rfl
 |.str,ls,h=>rfl
 |.unit,ls,h=>rfl
 |.hdr,ls,h=>by
  cases ls with
  |nil=>rfl
  |cons l ls =>
   simp only[be];rw[cr (l:=l) (λq z=>h q (by rw[aL];exact B6 _ z))]
 |.pair a b,ls,h=>by
  simp only[be,gT a ls h];cases I:be st a ls with
  |none=>rfl
  |some x =>
   obtain⟨p,y,u⟩:=x;obtain⟨J,H⟩:=kh a ls p y u I;simp only;rw[gT b u (λq z=>h q (by rw[H,lD];exact B7 _ z))]
 |.list m E e,ls,h=>by
  cases ls with
  |nil=>rfl
  |cons l ls =>
   simp only[be];rw[cr (l:=l) (λq z=>h q (by rw[aL];exact B6 _ z))]
theorem eU {a:Ty}{ls:List Leaf}(h:∀ q∈ax ls,st' q=st q):cY st' a ls=cY st a ls:=by
 unfold cY;rw[gT a ls h]
theorem nI {e:Ty}:∀ (n:Nat) (ls:List Leaf),(∀ q∈ax ls,st' q=st q)->fT st' e n ls=fT st e n ls
 |0,_,_=>rfl
 |n+1,ls,h=>by
  simp only[fT,eU (ls:=ls.take e.cells) (λq u=>h q (r8 _ _ q u)),nI n (ls.drop e.cells) (λq u=>h q (fV _ _ q u))]
theorem jA:∀ {ls:List Leaf},(∀ q∈ax ls,st' q=st q)->bE st' ls=bE st ls
 |[],_=>rfl
 |l::ls,h=>by
  have z:=jA (ls:=ls) (λq u=>h q (by rw[aL];exact B7 _ u));cases l with
  |al r j v=>simp only[bE,z,cr (l:=.al r j v) (λq u=>h q (by rw[aL];exact B6 _ u))]
  |nal p I ep y E e H=>simp only[bE,z,cr (l:=.nal p I ep y E e H) (λq u=>h q (by rw[aL];exact B6 _ u))]
  |_=>simpa[bE]using z
theorem pu:∀ {ls:List Leaf},(∀ q∈ax ls,st' q=st q)->ch st' ls=ch st ls
 |[],_=>rfl
 |l::ls,h=>by
  have y:=pu (ls:=ls) (λq u=>h q (by rw[aL];exact B7 _ u));cases l with
  |al r j v=>simp only[ch,y,cr (l:=.al r j v) (λq u=>h q (by rw[aL];exact B6 _ u))]
  |_=>simpa[ch]using y
theorem rl:∀ {ls:List Leaf},(∀ q∈ax ls,st' q=st q)->dH st' ls=dH st ls
 |[],_=>rfl
 |l::ls,h=>by
  have z:=rl (ls:=ls) (λq y=>h q (by rw[aL];exact B7 _ y));cases l with
  |nal p I ep u E e H =>
   cases u with
   |none=>simp only[dH,z,cr (l:=.nal p I ep none E e H) (λq y=>h q (by rw[aL];exact B6 _ y))]
   |some x=>simpa[dH]using z
  |_=>simpa[dH]using z
theorem pv {ls:List Leaf}(h:∀ q∈ax ls,st' q=st q):dS st' ls=dS st ls:=by
 unfold dS;induction ls with
 |nil=>rfl
 |cons l ls y =>
  rw[CR,CR,y (λq u=>h q (by rw[aL];exact B7 _ u))];unfold gz;rw[cr (λq u=>h q (by rw[aL];exact B6 _ u))]
theorem eL:∀ {ls:List Leaf} {x:Nat×Nat},x∈bE st ls->x.1∈ax ls
 |[],_,h=>by simp[bE]at h
 |l::ls,x,h=>by
  cases l with
  |al r j v =>
   simp only[bE,B4]at h;rcases h with h|h
   ·split at h
    ·simp at h;subst h;simp[ax]
    ·simp at h
   ·rw[aL];exact B7 _ (eL h)
  |nal p H ep u E e z =>
   simp only[bE,B4]at h;rcases h with h|h
   ·split at h
    ·obtain⟨k,y,rfl⟩:=CE.1 h;rw[aL,iK];exact B6 _ (B8 _ (CE.2 ⟨k,y,rfl⟩))
    ·simp at h
   ·rw[aL];exact B7 _ (eL h)
  |_=>(simp only[bE]at h;rw[aL];exact B7 _ (eL h))
theorem jB:∀ {ls:List Leaf} {x:Nat×Nat},x∈ch st ls->x.1∈ax ls
 |[],_,h=>by simp[ch]at h
 |l::ls,x,h=>by
  cases l with
  |al r j v =>
   simp only[ch,B4]at h;rcases h with h|h
   ·split at h
    ·simp at h;subst h;simp[ax]
    ·simp at h
   ·rw[aL];exact B7 _ (jB h)
  |_=>(simp only[ch]at h;rw[aL];exact B7 _ (jB h))
theorem iy:∀ {ls:List Leaf} {x:Nat×Nat},x∈dH st ls->x.1∈ax ls
 |[],_,h=>by simp[dH]at h
 |l::ls,x,h=>by
  cases l with
  |nal p I ep u E e H =>
   cases u with
   |none =>
    simp only[dH,B4]at h;rcases h with h|h
    ·split at h
     ·obtain⟨k,z,rfl⟩:=CE.1 h;rw[aL,iK];exact B6 _ (B8 _ (CE.2 ⟨k,z,rfl⟩))
     ·simp at h
    ·rw[aL];exact B7 _ (iy h)
   |some y=>(simp only[dH]at h;rw[aL];exact B7 _ (iy h))
  |_=>(simp only[dH]at h;rw[aL];exact B7 _ (iy h))
theorem iL:∀ {ks:List (Nat×Nat)},(∀ x∈ks,st' x.1=st x.1)->aN st' ks=aN st ks
 |[],_=>rfl
 |(r,j)::ks,h=>by
  simp only[aN,iL (ks:=ks) (λx u=>h x (B8 _ u)),bq (h (r,j) (B9 ..))]
theorem kD:∀ {ks:List (Nat×Nat)},(∀ x∈ks,st' x.1=st x.1)->aF st' ks=aF st ks
 |[],_=>rfl
 |(r,j)::ks,h=>by
  simp only[aF,kD (ks:=ks) (λx u=>h x (B8 _ u)),bq (h (r,j) (B9 ..))]
theorem ue {ls:List Leaf}(h:∀ q∈ax ls,st' q=st q):mvU st' ls=mvU st ls:=by
 unfold mvU;rw[rl h,pu h,kD (λx u=>h _ (iy u))];simp only;rw[iL (λx u=>bq (h _ (jB u)) _)]
theorem rm {ls:List Leaf}(h:∀ q∈ax ls,st' q=st q):iz st' ls=iz st ls:=by
 unfold iz;rw[rl h,pu h]
theorem jC:∀ (a:Ty) (ls:List Leaf),(∀ q∈ax ls,st' q=st q)->take st' a ls=take st a ls
 |.int k,ls,h=>by simp only[take,gT (.int k) ls h]
 |.bool,ls,h=>by simp only[take,gT .bool ls h]
 |.str,ls,h=>by simp only[take,gT .str ls h]
 |.unit,ls,h=>rfl
 |.hdr,ls,h=>by simp only[take,gT .hdr ls h]
 |.pair a b,ls,h=>by
  simp only[take,jC a ls h];cases H:take st a ls with
  |none=>rfl
  |some x =>
   have z:=kA.take_rest a ls x H;simp only;rw[jC b x.rest (λq y=>h q (fV a.cells ls q (by rw[<- z];exact y)))]
 |.list m E e,ls,h=>by
  cases ls with
  |nil=>rfl
  |cons l ls =>
   have u:∀ q∈ax [l],st' q=st q:=λq y=>h q (by rw[aL];exact B6 _ y)
   simp only[take,cr u,jA u];congr 1;split
   ·rename_i r j v;rw[cr u]
   ·rfl
   ·rfl
theorem ig {a:Ty}{ls:List Leaf}(h:∀ q∈ax ls,st' q=st q):co st' a ls=co st a ls:=by
 unfold co;rw[jC a ls h]
theorem oo:∀ (a:Ty) (ls:List Leaf) (t:cS a.den),take st a ls=some t->(∀ z∈t.frz,z.1∈ax ls)/\∀ z∈t.kill,z.1∈ax ls
 |.int k,ls,t,h=>by simp only[take,CB]at h;obtain⟨_,_,rfl⟩:=h;exact⟨by simp,by simp⟩
 |.bool,ls,t,h=>by simp only[take,CB]at h;obtain⟨_,_,rfl⟩:=h;exact⟨by simp,by simp⟩
 |.str,ls,t,h=>by simp only[take,CB]at h;obtain⟨_,_,rfl⟩:=h;exact⟨by simp,by simp⟩
 |.hdr,ls,t,h=>by simp only[take,CB]at h;obtain⟨_,_,rfl⟩:=h;exact⟨by simp,by simp⟩
 |.unit,ls,t,h=>by simp only[take,B3]at h;subst h;exact⟨by simp,by simp⟩
 |.pair a b,ls,t,h=>by
  simp only[take]at h;split at h
  ·rename_i x J;split at h
   ·rename_i y Z;simp only[B3]at h;subst h;have Y:=kA.take_rest a ls x J;obtain⟨O,X⟩:=oo a ls x J;obtain⟨I,M⟩:=oo b x.rest y Z;rw[Y]at I M;exact⟨λz u=>(B4.1 u).elim (O z) (λu=>fV _ _ _ (I z u)),λz u=>(B4.1 u).elim (X z) (λu=>fV _ _ _ (M z u))⟩
   ·cases h
  ·cases h
 |.list m E e,ls,t,h=>by
  cases ls with
  |nil=>simp[take]at h
  |cons l ls =>
   have H:∀ q∈ax [l],q∈ax (l::ls):=λq hq=>by rw[aL];exact B6 _ hq
   cases m with
   |false =>
    simp only[take,cond_false]at h;split at h
    ·simp only[B3]at h;subst h;exact⟨λz u=>H _ (eL u),by simp⟩
    ·cases h
   |true =>
    simp only[take,cond_true]at h;split at h
    ·split at h
     ·simp only[CB]at h;obtain⟨_,_,rfl⟩:=h;exact⟨by simp,λz u=>by simp at u;subst u;exact H _ (by simp[ax])⟩
     ·cases h
    ·simp only[B3]at h;subst h;exact⟨by simp,by simp⟩
    ·cases h
theorem jn {a:Ty}{ls:List Leaf}{t:cS a.den}(h:co st a ls=some t):(∀ z∈t.frz,z.1∈ax ls)/\∀ z∈t.kill,z.1∈ax ls:=by
 unfold co at h;split at h
 ·rename_i p x f k u;simp only[B3]at h;subst h;exact oo a ls _ u
 ·cases h
theorem ku:∀ {off n:Nat} (a:Ty) (pos:Nat) (x:a.den) (ls:List Leaf) (t:cS a.den),dm st off n a pos x ls=some t->∃ k,t.rest=ls.drop k
 |off,n,.pair a b,pos,x,ls,t,h=>by
  simp only[dm]at h;split at h
  ·rename_i u H;split at h
   ·rename_i v I;simp only[B3]at h;subst h;obtain⟨J,y⟩:=ku a pos x.1 ls u H;obtain⟨z,M⟩:=ku b (pos+a.cells) x.2 u.rest v I;exact⟨J+z,by show v.rest=_;rw[M,y,DB]⟩
   ·cases h
  ·cases h
 |off,n,.unit,pos,x,ls,t,h=>by simp only[dm,B3]at h;subst h;exact⟨0,rfl⟩
 |off,n,.hdr,pos,x,ls,t,h=>by simp[dm]at h
 |off,n,.int k,pos,x,ls,t,h=>sc (a:=.int k) h
 |off,n,.bool,pos,x,ls,t,h=>sc (a:=.bool) h
 |off,n,.str,pos,x,ls,t,h=>sc (a:=.str) h
 |off,n,.list m E e,pos,x,ls,t,h=>sc (a:=.list m E e) h
where
 sc {a:Ty} {b:Bool} {x:a.den} {ls:List Leaf} {t:cS a.den} (h:(bif b then take st a ls else some ⟨false,x,[],[],ls⟩)=some t):∃ k,t.rest=ls.drop k:=by
  cases b with
  |true=>exact⟨_,kA.take_rest a ls t h⟩
  |false=>simp only[cond_false,B3]at h;subst h;exact⟨0,rfl⟩
theorem pw:∀ {off n:Nat} (a:Ty) (pos:Nat) (x:a.den) (ls:List Leaf),(∀ q∈ax ls,st' q=st q)->dm st' off n a pos x ls=dm st off n a pos x ls
 |off,n,.pair a b,pos,x,ls,h=>by
  simp only[dm,pw a pos x.1 ls h];cases z:dm st off n a pos x.1 ls with
  |none=>rfl
  |some u =>
   obtain⟨k,e⟩:=ku a pos x.1 ls u z;simp only;rw[pw b (pos+a.cells) x.2 u.rest (λq y=>h q (fV k ls q (by rw[<- e];exact y)))]
 |off,n,.unit,pos,x,ls,h=>rfl
 |off,n,.hdr,pos,x,ls,h=>rfl
 |off,n,.int k,pos,x,ls,h=>by simp only[dm,jC (.int k) ls h]
 |off,n,.bool,pos,x,ls,h=>by simp only[dm,jC .bool ls h]
 |off,n,.str,pos,x,ls,h=>by simp only[dm,jC .str ls h]
 |off,n,.list m E e,pos,x,ls,h=>by simp only[dm,jC (.list m E e) ls h]
theorem pz:∀ {off n:Nat} (a:Ty) (pos:Nat) (x:a.den) (ls:List Leaf) (t:cS a.den),dm st off n a pos x ls=some t->(∀ z∈t.frz,z.1∈ax ls)/\∀ z∈t.kill,z.1∈ax ls
 |off,n,.pair a b,pos,x,ls,t,h=>by
  simp only[dm]at h;split at h
  ·rename_i u H;split at h
   ·rename_i v X;simp only[B3]at h;subst h;obtain⟨k,e⟩:=ku a pos x.1 ls u H;obtain⟨M,O⟩:=pz a pos x.1 ls u H;obtain⟨I,J⟩:=pz b (pos+a.cells) x.2 u.rest v X;rw[e]at I J;exact⟨λz y=>(B4.1 y).elim (M z) (λy=>fV _ _ _ (I z y)),λz y=>(B4.1 y).elim (O z) (λy=>fV _ _ _ (J z y))⟩
   ·cases h
  ·cases h
 |off,n,.unit,pos,x,ls,t,h=>by simp only[dm,B3]at h;subst h;exact⟨by simp,by simp⟩
 |off,n,.hdr,pos,x,ls,t,h=>by simp[dm]at h
 |off,n,.int k,pos,x,ls,t,h=>sc (a:=.int k) h
 |off,n,.bool,pos,x,ls,t,h=>sc (a:=.bool) h
 |off,n,.str,pos,x,ls,t,h=>sc (a:=.str) h
 |off,n,.list m E e,pos,x,ls,t,h=>sc (a:=.list m E e) h
where
 sc {a:Ty} {b:Bool} {x:a.den} {ls:List Leaf} {t:cS a.den} (h:(bif b then take st a ls else some ⟨false,x,[],[],ls⟩)=some t):(∀ z∈t.frz,z.1∈ax ls)/\∀ z∈t.kill,z.1∈ax ls:=by
  cases b with
  |true=>exact oo a ls t h
  |false=>simp only[cond_false,B3]at h;subst h;exact⟨by simp,by simp⟩
theorem vG {U:Upd}{d:Nat}{sh:aI}{ls:List Leaf}(h:st' d=st d):cn st' U d sh ls=cn st U d sh ls:=by
 simp only[cn,bq h]
theorem r9:∀ {xs:List Operand} {t:Nat},Operand.tmp t∈xs->t∈iP xs
 |[],_,h=>by simp at h
 |x::xs,t,h=>by
  rcases CH.1 h with rfl|h
  ·simp[iP]
  ·have u:=r9 h;cases x <;> simp[iP,u]
theorem nJ (t n:Nat):∀ (j:Nat) (ls:List Leaf) (q:Nat),q∈ax (bJ t n j ls)->q=t\/q∈ax ls
 |_,[],_,h=>by simp[bJ,ax]at h
 |j,l::ls,q,h=>by
  simp only[bJ]at h;rw[aL,B4]at h;rw[aL,B4];rcases h with h|h
  ·cases l with
   |own p u E e y=>simp[l8,ax]at h;exact .inl h
   |_=>exact .inr (.inl h)
  ·exact (nJ t n (j+1) ls q h).imp id .inr
theorem lE:∀ (u y:List Leaf),az (u++y)=az u++az y
 |[],_=>rfl
 |l::u,y=>by cases l <;> simp[az,lE u y]
theorem dF (l:Leaf)(ls:List Leaf):az (l::ls)=az [l]++az ls:=lE [l] ls
theorem fW:∀ {ls:List Leaf} {q:Nat},q∈ax ls->q∈az ls
 |[],_,h=>by simp[ax]at h
 |l::ls,q,h=>by
  rw[aL,B4]at h;rw[dF,B4];rcases h with h|h
  ·left;cases l with
   |nal p y ep u E e z=>simp[ax]at h;simpa[az]using h
   |np p y ep a x off=>simp[ax]at h;simpa[az]using h
   |_=>simp[ax]at h <;> simp[az,h]
  ·exact .inr (fW h)
theorem nK (t n:Nat):∀ (j:Nat) (ls:List Leaf) (q:Nat),q∈az (bJ t n j ls)->q=t\/q∈az ls
 |_,[],_,h=>by simp[bJ,az]at h
 |j,l::ls,q,h=>by
  simp only[bJ]at h;rw[dF,B4]at h;rw[dF,B4];rcases h with h|h
  ·cases l with
   |own p u E e y=>simp[l8,az]at h;exact .inl h
   |_=>exact .inr (.inl h)
  ·exact (nK t n (j+1) ls q h).imp id .inr
theorem sa {x:Operand}{q:Nat}(h:q∈ax (au st x).2):∃ t,x=.tmp t/\(q=t\/q∈ax (st t).ls):=by
 cases x with
 |tmp t =>
  simp only[au]at h;cases y:C7 t GH with
  |false=>simp[y,ax]at h
  |true=>simp only[y,cond_true]at h;exact⟨t,rfl,nJ _ _ _ _ _ h⟩
 |const v =>
  simp only[au]at h;split at h
  ·rename_i l u;unfold iM at u;split at u <;> simp at u <;> subst u <;> simp[ax]at h
  ·simp[ax]at h
 |func f=>simp[au,ax]at h
 |global g=>simp[au,ax]at h
theorem sb {x:Operand}{q:Nat}(h:q∈az (au st x).2):∃ t,x=.tmp t/\(q=t\/q∈az (st t).ls):=by
 cases x with
 |tmp t =>
  simp only[au]at h;cases y:C7 t GH with
  |false=>simp[y,az]at h
  |true=>simp only[y,cond_true]at h;exact⟨t,rfl,nK _ _ _ _ _ h⟩
 |const v =>
  simp only[au]at h;split at h
  ·rename_i l u;unfold iM at u;split at u <;> simp at u <;> subst u <;> simp[az]at h
  ·simp[az]at h
 |func f=>simp[au,az]at h
 |global g=>simp[au,az]at h
theorem rq {x:Operand}{l:Leaf}(h:one st x=l)(y:l≠.dead):(au st x).2=[l]:=by
 unfold one at h;split at h
 ·rename_i z u;rw[u,h]
 ·exact absurd h.symm y
theorem jD {x:Operand}{q:Nat}(h:q∈ax [one st x]):q∈ax (au st x).2:=by
 by_cases u:one st x=.dead
 ·rw[u]at h;simp[ax]at h
 ·rw[rq rfl u];exact h
theorem uf {x:Operand}{q:Nat}(h:q∈az [one st x]):q∈az (au st x).2:=by
 by_cases u:one st x=.dead
 ·rw[u]at h;simp[az]at h
 ·rw[rq rfl u];exact h
def jM:Leaf->Bool×Leaf
 |.own _ _ _ e u=>(true,.ep 0 0 0 e.cells u.length 0)
 |l=>(false,l)
def bQ (c:bX):Nat×aI×List (Bool×Leaf):=(c.ver,c.sh,c.ls.map jM)
theorem ug {l l':Leaf}(h:jM l'=jM l):l'=l\/∃ (p p':Bool) (z y:Option (Nat×Nat)) (E E':TypeId) (e e':Ty) (xs:List e.den) (u:List e'.den),l=.own p z E e xs/\l'=.own p' y E' e' u/\e'.cells=e.cells/\u.length=xs.length:=by
 cases l <;> cases l' <;> simp only[jM,CL,Cu,reduceCtorEq,false_and,and_false,true_and,Leaf.ep.injEq,Bool.true_eq_false]at h <;>
  first
  |exact .inr ⟨_,_,_,_,_,_,_,_,_,_,rfl,rfl,h.1,h.2.1⟩
  |exact .inr ⟨_,_,_,_,_,_,_,_,_,_,rfl,rfl,h.1,h.2⟩
  |exact .inl rfl
  |exact .inl (by rw[h])
  |exact .inl h
  |(obtain⟨rfl,rfl,rfl,rfl,rfl,rfl⟩:=h;exact .inl rfl)
theorem qu (t n:Nat):∀ (j:Nat) (ls u:List Leaf),u.map jM=ls.map jM->bJ t n j u=bJ t n j ls
 |_,[],[],_=>rfl
 |_,[],_::_,h=>by simp at h
 |_,_::_,[],h=>by simp at h
 |j,l::ls,X::u,h=>by
  simp only[CR,C8]at h;simp only[bJ,qu t n (j+1) ls u h.2];rcases ug h.1 with e|⟨p,Z,O,H,E,M,e,Y,J,z,y,I,_,_⟩
  ·rw[e]
  ·rw[y,I];rfl
theorem yD {x:Operand}(h:∀ t,x=.tmp t->bQ (st' t)=bQ (st t)):au st' x=au st x:=by
 cases x with
 |tmp t =>
  have:=h t rfl;simp only[bQ,CL]at this;simp only[au,this.1,this.2.1,qu _ _ _ _ _ this.2.2]
 |_=>rfl
theorem Ag {x:Operand}(h:∀ t,x=.tmp t->bQ (st' t)=bQ (st t)):one st' x=one st x:=by
 unfold one;rw[yD h]
theorem yE {c u:bX}(h:bQ u=bQ c)(j:Nat):jM (u.ls.getD j .dead)=jM (c.ls.getD j .dead):=by
 simp only[bQ,CL]at h;have:=congrArg (λl=>l[j]?) h.2.2;simp only[DO]at this;rw[CI,CI];generalize u.ls[j]?=a at this;generalize c.ls[j]?=b at this
 match a,b,this with
 |none,none,_=>rfl
 |some x,some y,h=>exact DW h
theorem sd (l:Leaf):lL l=(jM l).1:=by cases l <;> rfl
theorem zQ {ks:List (Nat×Nat×Nat)}{ep:Nat}(h:∀ q∈EPO::ks.map (·.1),bQ (st' q)=bQ (st q)):bw st' ks ep=bw st ks ep:=by
 unfold bw;have z:=h EPO (B9 ..);simp only[bQ,CL]at z;rw[z.1];congr 1;induction ks with
 |nil=>rfl
 |cons k ks I =>
  have y:=h k.1 (by simp);have H:(st' k.1).ver=(st k.1).ver:=by simp only[bQ,CL]at y;exact y.1
  rw[C3,C3,I (λq u=>h q (by simp at u ⊢;rcases u with u|u;exact .inl u;exact .inr (.inr u))),sd,sd,yE y,H]
end
section
variable {P:Program} {V:Env} {Γ:List Ctr} {T:TypeId->TI} {st st':St} {o:Oper} {R:Type} {κ:Upd->Option R} {r:R}
theorem uh {d:Nat}(u:o.dst=some d)(h:∀ q∈fO st o,st' q=st q):st' d=st d/\st' (B0+d)=st (B0+d):=by
 refine⟨h d ?_,h (B0+d) ?_⟩ <;> simp[fO,zY,u]
theorem lF {ls:List Leaf}(h:∀ q∈ax ls,st' q=st q):∀ x∈bE st ls,st' x.1=st x.1:=λx u=>h _ (eL u)
theorem qv {u:List (Nat×Nat×Bool)}:∀ (ps:List (Nat×Operand)) (ls:List Leaf),(∀ x∈ps,∀ t,x.2=.tmp t->st' t=st t)->fN st' u ps ls=fN st u ps ls
 |[],_,_=>rfl
 |(i,x)::ps,ls,h=>by
  simp only[fN,d9 (h (i,x) (B9 ..))];split
  ·rw[qv ps _ (λy z=>h y (B8 _ z))]
  ·rfl
theorem oO {e:Ty}:∀ (ps:List (Nat×Operand)) (k:Nat),(∀ x∈ps,(∀ t,x.2=.tmp t->st' t=st t)/\∀ q∈ax (au st x.2).2,st' q=st q)->eN st' e k ps=eN st e k ps
 |[],_,_=>rfl
 |(i,x)::ps,k,h=>by
  have u:=h (i,x) (B9 ..);simp only[eN,d9 u.1,ig u.2,oO ps (k+1) (λy z=>h y (B8 _ z))]
theorem oP {e:Ty}:∀ (ps:List (Nat×Operand)) (k:Nat) (u:cS (List e.den)),eN st e k ps=some u->∀ z,z∈u.frz\/z∈u.kill->∃ x∈ps,z.1∈ax (au st x.2).2
 |[],_,_,h=>by simp only[eN,B3]at h;subst h;simp
 |(i,x)::ps,k,u,h=>by
  simp only[eN]at h;cases O:CC i k&&decide ((au st x).1=bm e.isAgg) with
  |false=>simp[O]at h
  |true =>
   simp only[O,cond_true]at h;split at h
   ·rename_i t1 J hg M;simp only[B3]at h;subst h;intro z H;obtain⟨p1,Z⟩:=jn hg;have I:(z∈t1.frz\/z∈t1.kill)\/(z∈J.frz\/z∈J.kill):=by
     rcases H with H|H <;> rcases B4.1 H with H|H
     ·exact .inl (.inl H)
     ·exact .inr (.inl H)
     ·exact .inl (.inr H)
     ·exact .inr (.inr H)
    rcases I with H|H
    ·exact⟨(i,x),B9 ..,H.elim (p1 z) (Z z)⟩
    ·obtain⟨y,Y,X⟩:=oP ps (k+1) J M z H;exact⟨y,B8 _ Y,X⟩
   ·cases h
theorem nL {x:Option Operand}{n:Int}(h:∀ y,x=some y->∀ t,y=.tmp t->st' t=st t):du st' x n=du st x n:=by
 cases x with
 |none=>rfl
 |some y=>simp only[du,dP (h y rfl)]
theorem vH:∀ (xs:List Operand) (u:Option (List Nat)),(∀ x∈xs,∀ t,x=.tmp t->st' t=st t) ->
  xs.foldl (λ (u:Option (List Nat)) x=>u.bind λl=>match one st' x with|.bp b 0=>some (l++[b])|_=>none) u =
  xs.foldl (λ (u:Option (List Nat)) x=>u.bind λl=>match one st x with|.bp b 0=>some (l++[b])|_=>none) u
 |[],_,_=>rfl
 |x::xs,u,h=>by
  simp only[DX,dP (h x (B9 ..))];exact vH xs _ (λy z=>h y (B8 _ z))
theorem qw {l:Leaf}(I:st' TMP=st TMP)(z:st' EPO=st EPO)(h:∀ q∈ax [l],st' q=st q):ct st' l=ct st l:=by
 cases l with
 |nal p H ep u E e J =>
  rw[iK]at h;simp only[ct,j0 h,I,z];congr 1
  match H,u,h with
  |[(r,j,n)],some (i,M,off),h =>
   have y:=h r (by simp);simp only[y]
  |[(r,j,n)],none,_=>rfl
  |[],_,_=>rfl
  |_::_::_,_,_=>rfl
 |_=>rfl
theorem oQ {l l':Leaf}{U:Upd}(h:ct st l=some (U,l')):∃ n,l'=.al TMP 0 n/\∀ q,q≠TMP->∀ z∈az (ac U st q).ls,z∈az (st q).ls:=by
 cases l with
 |nal p ks ep a0 E e X =>
  simp only[ct]at h;cases H:bw st ks ep with
  |false=>simp[H]at h
  |true =>
   rw[H]at h;simp only[cond_true]at h;split at h
   ·rename_i r j n0 i sz off;split at h
    ·rename_i p' E' M J hg;cases Z:!CC r TMP&&!CC r EPO&&CC sz M.cells with
     |false=>simp[Z]at h
     |true =>
      rw[Z]at h;simp only[cond_true]at h;split at h
      ·split at h
       ·rename_i y _ _ _ _ _;simp only[B3,CL]at h;obtain⟨rfl,rfl⟩:=h;refine⟨_,rfl,λq hq z u=>?_⟩;rw[aP]at u;rcases ak r q ⟨(st r).ver,(st r).sh,aT (st r).ls j (.own p' (some (i,off)) E' M J)⟩ (ac [(TMP,⟨(st TMP).ver+1,.one,[.own (p'&&M.shy) none _ _ _]⟩),(EPO,b7 (st EPO))] st) with ⟨rfl,O⟩|⟨_,O⟩
        ·rw[O]at u;exact refs_set u
        ·rw[O,aP,aJ hq]at u;rcases ak EPO q (b7 (st EPO)) st with ⟨rfl,Y⟩|⟨_,Y⟩ <;> rw[Y]at u <;> exact u
       ·cases h
      ·cases h
    ·cases h
   ·cases h
 |_=>simp[ct]at h
where
 refs_set {I:List Leaf} {j z:Nat} {p:Bool} {hh:Option (Nat×Nat)} {E:TypeId} {e:Ty} {X:List e.den} (h:z∈az (aT I j (.own p hh E e X))):z∈az I:=by
  unfold aT at h;induction I generalizing j with
  |nil=>simpa using h
  |cons l I ih =>
   cases j with
   |zero =>
    rw[List.set_cons_zero,dF,B4]at h;rw[dF,B4];rcases h with h|h
    ·simp[az]at h
    ·exact .inr h
   |succ j =>
    rw[DL,dF,B4]at h;rw[dF,B4];exact h.imp id ih
theorem uX {l l':Leaf}{U:Upd}(h:ct st l=some (U,l')):az (ac U st TMP).ls=[]:=by
 cases l with
 |nal p M ep O E e X =>
  simp only[ct]at h;cases u:bw st M ep with
  |false=>simp[u]at h
  |true =>
   rw[u]at h;simp only[cond_true]at h;split at h
   ·rename_i r j n0 i J off;split at h
    ·rename_i p' Y I H Z;cases y:!CC r TMP&&!CC r EPO&&CC J I.cells with
     |false=>simp[y]at h
     |true =>
      rw[y]at h;simp only[cond_true]at h;have z:TMP≠r:=λe=>by subst e;simp at y
      split at h
      ·split at h
       ·simp only[B3,CL]at h;obtain⟨rfl,rfl⟩:=h;rw[aP,aJ z,aP,bo];rfl
       ·cases h
      ·cases h
    ·cases h
   ·cases h
 |_=>simp[ct]at h
theorem wT {E:TypeId}{e:Ty}{y:Leaf}(u:∀ q∈ax [y],st' q=st q):gb st' E e y=gb st E e y:=by
 unfold gb;rw[cr u,jA u,ig u]
theorem wU {E:TypeId}{e:Ty}{y:Leaf}{t:cS (List e.den)}(h:gb st E e y=some t):(∀ z∈t.frz,z.1∈ax [y])/\∀ z∈t.kill,z.1∈ax [y]:=by
 unfold gb at h;cases H:e.flat with
 |true =>
  rw[H]at h;simp only[cond_true,CB]at h;obtain⟨_,_,rfl⟩:=h;exact⟨by simp,by simp⟩
 |false =>
  rw[H]at h;simp only[cond_false]at h;cases u:decide (e.sh=e) with
  |true =>
   rw[u]at h;simp only[cond_true,CB]at h;obtain⟨_,_,rfl⟩:=h;exact⟨λz J=>eL J,by simp⟩
  |false =>
   rw[u]at h;simp only[cond_false,CB]at h;obtain⟨M,I,rfl⟩:=h;exact jn I
theorem lG {u:Upd}{d:Nat}{E:TypeId}{e:Ty}{H:Nat}{p:Bool}{xs:List e.den}{ks:List (Nat×Nat)}{y:Leaf}(O:∀ z∈ks,st' z.1=st z.1)(J:∀ q∈ax [y],st' q=st q)(hd:st' d=st d) :
  ea st' (ac u st') u d E e H p xs ks y κ=ea st (ac u st) u d E e H p xs ks y κ:=by
 unfold ea;have M:∀ q,st' q=st q->ac u st' q=ac u st q:=λq h=>bq h u
 rw[wT (st:=ac u st) (st':=ac u st') (λq hq=>M q (J q hq))];split
 ·rename_i t ht;obtain⟨Z,Y⟩:=wU ht;have X:aF (ac u st') t.frz=aF (ac u st) t.frz:=kD (λz I=>M _ (J _ (Z z I)));have e2:∀ U:Upd,aN (ac U (ac u st')) (t.kill++ks)=aN (ac U (ac u st)) (t.kill++ks):=λU=>iL (λz I=>bq (M _ ((B4.1 I).elim (λI=>J _ (Y z I)) (O z))) U)
  simp only[X,e2,vG hd]
 ·rfl
theorem wV {H:Upd}{d:Nat}{E:TypeId}{e:Ty}{u:Nat}{x y:Leaf}(I:∀ q∈ax [x],st' q=st q)(O:∀ q∈ax [y],st' q=st q)(J:st' d=st d):eH st' H d E e u x y κ=eH st H d E e u x y κ:=by
 unfold eH;cases x with
 |al r j v =>
  have Y:st' r=st r:=I r (by simp[ax]);simp only;rw[cr (st:=ac H st) (st':=ac H st') (l:=.al r j v) (λq X=>bq (I q X) H)];split
  ·rw[lG (λz M=>by simp at M;subst M;exact Y) O J]
  ·rfl
 |nil=>exact lG (by simp) O J
 |_=>rfl
theorem wW {d:Nat}{E:TypeId}{e:Ty}{H:Nat}{x y:Leaf}(J:st' TMP=st TMP)(I:∀ q∈ax [x],st' q=st q)(O:∀ q∈ax [y],st' q=st q)(X:st' d=st d):iO st' d E e H x y κ=iO st d E e H x y κ:=by
 unfold iO;rw[wV I O X,it,it];cases hn:jG x with
 |false=>rfl
 |true =>
  simp only[cond_true];have hE:st' EPO=st EPO:=by
   cases x with
   |nal p ks ep a0 E e xs=>exact I EPO (by rw[iK];exact B9 ..)
   |_=>simp[jG]at hn
  rw[qw J hE I];cases hu:ct st x with
  |none=>rfl
  |some u =>
   obtain⟨n,Z,_⟩:=oQ (U:=u.1) (l':=u.2) hu;simp only[Cf];rw[Z];unfold eH;simp only;have e2:∀ q,q=TMP->ac u.1 st' q=ac u.1 st q:=λq M=>by rw[M];exact bq J u.1
   rw[cr (st:=ac u.1 st) (st':=ac u.1 st') (l:=.al TMP 0 n) (λq M=>e2 q (by simpa[ax]using M))];split
   ·rw[lG (λz Y=>by simp at Y;subst Y;exact J) O X]
   ·rfl
structure e8 (st st':St) (ls:List Leaf):Prop where
 d1:∀ q∈az ls,st' q=st q
 d2:∀ r∈az ls,∀ q∈az (st r).ls,st' q=st q
 d3:∀ r∈az ls,∀ r2∈az (st r).ls,∀ q∈az (st r2).ls,st' q=st q
theorem kT (p:Bool):∀ (a:Ty) (x:a.den),az (cR p a x)=[]
 |.int _,_=>rfl
 |.bool,_=>rfl
 |.str,_=>rfl
 |.unit,_=>rfl
 |.hdr,_=>rfl
 |.pair a b,x=>by simp[cR,lE,kT p a,kT p b]
 |.list _ _ _,_=>rfl
theorem se {l:Leaf}(h:∀ q∈az [l],st' q=st q):target st' l=target st l:=by
 unfold target;cases l with
 |bp b off =>
  have u:=h b (by simp[az]);cases off with
  |zero=>simp only[u]
  |succ n=>rfl
 |rp p a x off=>cases off <;> rfl
 |_=>rfl
theorem lH {l:Leaf}{ls:List Leaf}(h:target st l=some ls):∀ q∈az ls,q∈az [l]\/∃ r∈az [l],q∈az (st r).ls:=by
 unfold target at h;split at h
 ·rename_i b;cases y:decide ((st b).sh=.agg) with
  |false=>simp[y]at h
  |true =>
   simp only[y,cond_true,B3]at h;subst h;intro q u;rcases nK _ _ _ _ _ u with rfl|u
   ·exact .inl (by simp[az])
   ·exact .inr ⟨b,by simp[az],u⟩
 ·simp only[B3]at h;subst h;intro q u;rw[kT]at u;simp at u
 ·simp only[B3]at h;subst h;intro q u;simp[az]at u
 ·cases h
theorem jo {x:aI×List Leaf}{q:Nat}(h:q∈az [cz x]):q∈az x.2:=by
 unfold cz at h;split at h
 ·exact h
 ·simp[az]at h
theorem e8.target {l:Leaf}{ls:List Leaf}(h:e8 st st' [l])(H:Go.Proofs.YtadlacffdemoiaaGreatEv.target st l=some ls):(∀ q∈az ls,st' q=st q)/\∀ r∈az ls,∀ q∈az (st r).ls,st' q=st q:=by
 constructor
 ·intro q y;rcases lH H q y with u|⟨r,u,z⟩
  ·exact h.d1 q u
  ·exact h.d2 r u q z
 ·intro r I q y;rcases lH H r I with u|⟨J,u,z⟩
  ·exact h.d2 r u q y
  ·exact h.d3 J u r z q y
theorem e8.one {x:aI×List Leaf}(h:e8 st st' x.2):e8 st st' [cz x] :=
 ⟨λq y=>h.d1 q (jo y),λr u=>h.d2 r (jo u),λr u=>h.d3 r (jo u)⟩
def nM {α:Type}(st st':St)(g:Got α):Prop:=(∀ z∈g.frz,st' z.1=st z.1)/\(∀ z∈g.kill,st' z.1=st z.1)
theorem nN {c:Bool×Ty}{l:Leaf}(X:e8 st st' [l]):fK st' c l=fK st c l/\∀ g,fK st c l=some g->nM st st' g:=by
 unfold fK;rw[se X.d1];cases I:target st l with
 |none=>cases c.1 <;> exact⟨rfl,by simp⟩
 |some Y =>
  have y:=X.target I;cases hc:c.1 with
  |false =>
   have u:∀ q∈ax Y,st' q=st q:=λq J=>y.1 q (fW J)
   simp only[cond_false,eU u,jA u,true_and];intro g z;simp only[CB]at z;obtain⟨_,_,rfl⟩:=z;exact⟨lF u,by simp[Got.ofRd]⟩
  |true =>
   simp only[cond_true]
   match Y,y,I with
   |[],_,_=>exact⟨rfl,by simp⟩
   |_::_::_,_,_=>exact⟨rfl,by simp⟩
   |[Z],y,I =>
    simp only[se y.1];cases H:target st Z with
    |none=>exact⟨rfl,by simp⟩
    |some M =>
     have u:∀ q∈ax M,st' q=st q:=by
      intro q J;rcases lH H q (fW J) with O|⟨r,O,h5⟩
      ·exact y.1 q O
      ·exact y.2 r O q h5
     simp only[eU u,jA u,true_and];intro g z;simp only[CB]at z;obtain⟨_,_,rfl⟩:=z;exact⟨lF u,by simp[Got.ofRd]⟩
theorem mI:∀ (cs:List (Bool×Ty)) (ls:List Leaf),(∀ l∈ls,e8 st st' [l])->cG st' cs ls=cG st cs ls/\∀ g,cG st cs ls=some g->nM st st' g
 |[],[],_=>⟨rfl,λg u=>by simp only[cG,B3]at u;subst u;exact⟨by simp,by simp⟩⟩
 |[],_::_,_=>⟨rfl,λg u=>by simp[cG]at u⟩
 |_::_,[],_=>⟨rfl,λg u=>by simp[cG]at u⟩
 |c::cs,l::ls,h=>by
  obtain⟨J,M⟩:=nN (c:=c) (h l (B9 ..));obtain⟨Z,h4⟩:=mI cs ls (λy O=>h y (B8 _ O));simp only[cG,J,Z,true_and];intro g u;split at u
  ·rename_i Y I;split at u
   ·rename_i X H;simp only[B3]at u;subst u;exact⟨λz hz=>(B4.1 hz).elim ((M Y I).1 z) ((h4 X H).1 z),by simp⟩
   ·cases u
  ·cases u
theorem oR {c:Nat}{q:Nat}:∀ {ls:List Leaf} {c:Nat},q∈ax (aT ls c .nil)->q∈ax ls
 |[],_,h=>h
 |l::ls,0,h=>by
  rw[show aT (l::ls) 0 .nil=.nil::ls from rfl,aL,B4]at h;rw[aL,B4];rcases h with h|h
  ·simp[ax]at h
  ·exact .inr h
 |l::ls,c+1,h=>by
  rw[show aT (l::ls) (c+1) .nil=l::aT ls c .nil from rfl,aL,B4]at h;rw[aL,B4];exact h.imp id (oR (c:=c))
theorem pA {caps:List Nat}{f:FuncId}(H:e8 st st' [.clo f caps]):∀ l∈caps.map (λb=>Leaf.bp b 0),e8 st st' [l]:=by
 intro l J;obtain⟨b,I,rfl⟩:=CE.1 J;have u:b∈az [Leaf.clo f caps]:=by simp[az,I]
 have y:∀ r∈az [Leaf.bp b 0],r=b:=λr z=>by simpa[az]using z
 exact⟨λq M=>H.d1 q (by rw[y q M];exact u),λr z=>H.d2 r (by rw[y r z];exact u),λr z=>H.d3 r (by rw[y r z];exact u)⟩
theorem nO {caps:List (Bool×Bool×(a:Ty)×a.den)}:∀ l∈caps.map e9,e8 st st' [l]:=by
 intro l z;obtain⟨c,H,rfl⟩:=CE.1 z;have:∀ q,q∉az [e9 c]:=by
  intro q u;unfold e9 at u;cases y:c.2.1 <;> rw[y]at u <;> simp[az]at u
 exact⟨λq u=>absurd u (this q),λq u=>absurd u (this q),λq u=>absurd u (this q)⟩
theorem eG {pk:PK}{x:aI×List Leaf}(h:e8 st st' x.2):bj st' pk x=bj st pk x/\∀ g,bj st pk x=some g->nM st st' g:=by
 have Z:∀ q∈ax x.2,st' q=st q:=λq O=>h.d1 q (fW O)
 have h1:=h.one;have H:∀ {b:Bool} {a:Ty} {g:Got a.den},(bif b then (co st a x.2).map (λt=>(⟨t.p,t.val,t.frz,t.kill,[],[]⟩:Got a.den)) else none)=some g->nM st st' g:=by
  intro b a g u;cases b with
  |false=>simp at u
  |true =>
   simp only[cond_true,CB]at u;obtain⟨t,ht,rfl⟩:=u;obtain⟨p1,p2⟩:=jn ht;exact⟨λz I=>Z _ (p1 z I),λz I=>Z _ (p2 z I)⟩
 cases pk with
 |rd a =>
  simp only[bj,eU Z,jA Z,true_and];intro g u;cases M:decide (x.1=bm a.isAgg) with
  |false=>simp[M]at u
  |true =>
   simp only[M,cond_true,CB]at u;obtain⟨y,_,rfl⟩:=u;exact⟨lF Z,by simp[Got.ofRd]⟩
 |own a =>
  simp only[bj,ig Z,true_and];exact λg u=>H u
 |io a =>
  simp only[bj,ig Z,true_and];exact λg u=>H u
 |rref a=>exact nN (c:=(false,a)) h1
 |rref2 a=>exact nN (c:=(true,a)) h1
 |iop a =>
  simp only[bj];split
  ·rename_i b Y;rw[Y]at h1;have M:=h1.d1 b (by simp[az]);have h3:∀ q∈ax (bJ b (st b).ver 0 (st b).ls),st' q=st q:=by
    intro q O;rcases nJ _ _ _ _ _ O with rfl|O
    ·exact M
    ·exact h1.d2 b (by simp[az]) q (fW O)
   simp only[M,ig h3,true_and];intro g u;cases a0:decide ((st b).sh=.agg) with
   |false=>simp[a0]at u
   |true =>
    simp only[a0,cond_true,CB]at u;obtain⟨t,ht,rfl⟩:=u;obtain⟨p1,p2⟩:=jn ht;exact⟨λz I=>h3 _ (p1 z I),λz I=>h3 _ (p2 z I)⟩
  ·exact⟨rfl,by simp⟩
 |fn As B =>
  simp only[bj,true_and];intro g u;split at u
  ·split at u
   ·simp only[B3]at u;subst u;exact⟨by simp,by simp⟩
   ·cases u
  ·cases u
 |clo f cs =>
  simp only[bj];split
  ·rename_i f' caps Y;rw[Y]at h1;have:=mI cs _ (pA h1);rw[this.1];refine⟨rfl,λg u=>?_⟩;cases M:CC f' f with
   |false=>simp[M]at u
   |true=>rw[M]at u;exact this.2 g u
  ·rename_i f' caps Y;have:=mI (st:=st) (st':=st') cs _ (nO (caps:=caps));rw[this.1];refine⟨rfl,λg u=>?_⟩;cases M:CC f' f with
   |false=>simp[M]at u
   |true=>rw[M]at u;exact this.2 g u
  ·exact⟨rfl,by simp⟩
 |hol a c off =>
  simp only[bj];have X:∀ q∈ax (aT x.2 c .nil),st' q=st q:=λq O=>Z q (oR (c:=c) O)
  rw[ig X];cases M:decide (x.1=bm a.isAgg) with
  |false=>exact⟨rfl,by simp⟩
  |true =>
   simp only[cond_true];split
   ·rename_i r j v J;have a2:x.2[c]?=some (.al r j v):=by
     rw[CI]at J;cases O:x.2[c]? with
     |none=>rw[O]at J;simp at J
     |some l0=>rw[O]at J;simp at J;rw[J]
    have hr:=λq O=>Z q (rj a2 q O)
    rw[cr hr];refine⟨rfl,λg u=>?_⟩;split at u
    ·rename_i p i o' E e xs _;cases a1:CC o' off with
     |false=>simp[a1]at u
     |true =>
      rw[a1]at u;simp only[cond_true]at u;split at u
      ·rename_i t ht;split at u
       ·simp only[B3]at u;subst u;obtain⟨p1,p2⟩:=jn ht;refine⟨λz I=>X _ (p1 z I),λz I=>?_⟩;rcases CH.1 I with rfl|I
        ·exact hr r (by simp[ax])
        ·exact X _ (p2 z I)
       ·cases u
      ·cases u
    ·cases u
   ·exact⟨rfl,by simp⟩
theorem kU {ga ga':(pk:PK)->aI×List Leaf->Option (Got pk.den)}:∀ (ps:List PK) (xs:List (aI×List Leaf)),
  (∀ x∈xs,∀ pk,ga' pk x=ga pk x/\∀ g,ga pk x=some g->nM st st' g) ->
  bf ga' ps xs=bf ga ps xs/\∀ g,bf ga ps xs=some g->nM st st' g
 |[],[],_=>⟨rfl,λg u=>by simp only[bf,B3]at u;subst u;exact⟨by simp,by simp⟩⟩
 |[],_::_,_=>⟨rfl,λg u=>by simp[bf]at u⟩
 |_::_,[],_=>⟨rfl,λg u=>by simp[bf]at u⟩
 |p::ps,x::xs,h=>by
  obtain⟨Z,M⟩:=h x (B9 ..) p;obtain⟨h3,Y⟩:=kU ps xs (λy hy=>h y (B8 _ hy));simp only[bf,Z,h3,true_and];intro g u;split at u
  ·rename_i X I;split at u
   ·rename_i O H;simp only[B3]at u;subst u;exact⟨λz J=>(B4.1 J).elim ((M X I).1 z) ((Y O H).1 z),λz J=>(B4.1 J).elim ((M X I).2 z) ((Y O H).2 z)⟩
   ·cases u
  ·cases u
theorem ui {H:List Ty}{B:Ty}{f:FuncId}{ls:List Leaf}(h:∀ l∈ls,e8 st st' [l]):kV Γ st' H B f ls=kV Γ st H B f ls/\∀ g,kV Γ st H B f ls=some g->nM st st' g:=by
 have u:=λ (q:List PK)=>kU (st:=st) (st':=st') (ga:=bj st) (ga':=bj st') q (ls.map λl=>(aI.one,[l])) (λy M Y=>by
  obtain⟨l,O,rfl⟩:=CE.1 M;exact eG (h l O))
 unfold kV;split
 ·rename_i c X;unfold sA;simp only[u3,(u _).1,true_and];intro g z;split at z
  ·cases J:(c.ps.drop H.length).all PK.reads&&B.flat&&c.fresh with
   |false=>simp[J]at z
   |true =>
    simp only[J,cond_true]at z;split at z
    ·rename_i g0 I;simp only[B3]at z;subst z;exact⟨((u _).2 g0 I).1,by simp⟩
    ·cases z
  ·cases z
 ·exact⟨rfl,by simp⟩
theorem wX {pk:PK}{x:aI×List Leaf}(h:e8 st st' x.2):cj Γ st' pk x=cj Γ st pk x/\∀ g,cj Γ st pk x=some g->nM st st' g:=by
 cases pk with
 |fn O B =>
  simp only[cj];split
  ·rename_i H y;have z:(∃ u,cz x=.clo H.1 u/\H.2=u.map λb=>Leaf.bp b 0)\/∃ u,cz x=.clr H.1 u/\H.2=u.map e9:=by
    generalize cz x=l at y;cases l <;> simp only[vQ,B3,reduceCtorEq]at y
    ·subst y;exact .inl ⟨_,rfl,rfl⟩
    ·subst y;exact .inr ⟨_,rfl,rfl⟩
   have J:=h.one;rcases z with ⟨u,z,I⟩|⟨u,z,I⟩
   ·rw[z]at J;rw[I];exact ui (pA J)
   ·rw[I];exact ui nO
  ·exact eG h
 |rd a=>exact eG (pk:=.rd a) h
 |own a=>exact eG (pk:=.own a) h
 |io a=>exact eG (pk:=.io a) h
 |rref a=>exact eG (pk:=.rref a) h
 |rref2 a=>exact eG (pk:=.rref2 a) h
 |iop a=>exact eG (pk:=.iop a) h
 |clo f M=>exact eG (pk:=.clo f M) h
 |hol a c off=>exact eG (pk:=.hol a c off) h
theorem uj:∀ (u ls:List Leaf),st' EPO=st EPO->(∀ q∈az u,st' q=st q)->ci st' u ls=ci st u ls
 |[],_,_,_=>by simp[ci]
 |x::u,[],_,_=>by cases x <;> simp[ci]
 |x::u,l::ls,z,h=>by
  have y:=uj u ls z (λq I=>h q (by rw[dF];exact B7 _ I));cases x with
  |al r j v =>
   have H:st' r=st r:=h r (by simp[az]);simp only[ci,y,bq H,bq z]
  |_=>simp only[ci,y]
theorem qx {p:Bool}:∀ (ps:List PK) (xs:List (aI×List Leaf)) (y:ah ps),st' EPO=st EPO->(∀ x∈xs,∀ q∈az x.2,st' q=st q)->aH st' p ps xs y=aH st p ps xs y
 |[],_,_,_,_=>by simp[aH]
 |I::ps,[],y,_,h=>by cases I <;> simp[aH]
 |I::ps,x::xs,y,M,h=>by
  have u:=λ (y:ah ps)=>qx (p:=p) ps xs y M (λz Y=>h z (B8 _ Y))
  have X:=h x (B9 ..);cases I with
  |io a =>
   simp only[aH,u];rw[uj x.2 _ (bq M _) (λq J=>bq (X q J) _)]
  |iop a =>
   simp only[aH,u];have O:∀ q∈az [cz x],st' q=st q:=λq J=>X q (jo J)
   congr 1;split
   ·rename_i b v H;rw[H]at O;rw[bq (O b (by simp[az]))]
   ·rfl
  |_=>exact u _
theorem qy {n q:Nat}:∀ {ls:List Leaf} {k:Nat},q∈az (aT ls k (.al TMP 0 n))->q∈az ls\/q=TMP
 |[],_,h=>.inl h
 |l::ls,0,h=>by
  rw[show aT (l::ls) 0 (.al TMP 0 n)=.al TMP 0 n::ls from rfl,dF,B4]at h;rw[dF,B4];rcases h with h|h
  ·simp[az]at h;exact .inr h
  ·exact .inl (.inr h)
 |l::ls,k+1,h=>by
  rw[show aT (l::ls) (k+1) (.al TMP 0 n)=l::aT ls k (.al TMP 0 n) from rfl,dF,B4]at h;rw[dF,B4];rcases h with h|h
  ·exact .inl (.inl h)
  ·exact (qy h).imp .inr id
theorem pB {U:Upd}{J ls:List Leaf}(hT:st' TMP=st TMP)(u:∀ q,q≠TMP->∀ z∈az (ac U st q).ls,z∈az (st q).ls)(Y:az (ac U st TMP).ls=[])(hx:e8 st st' J)(y:∀ q∈az ls,q∈az J\/q=TMP) :
  e8 (ac U st) (ac U st') ls:=by
 have I:∀ r z,z∈az (ac U st r).ls->r≠TMP:=λr z hz e=>by subst e;rw[Y]at hz;simp at hz
 refine⟨λq H=>?_,λr Z q H=>?_,λr Z O X q H=>?_⟩
 ·rcases y q H with h|h
  ·exact bq (hx.d1 q h) U
  ·subst h;exact bq hT U
 ·have M:=I r q H;exact bq (hx.d2 r ((y r Z).resolve_right M) q (u r M q H)) U
 ·have M:=I r O X;have h2:=I O q H;exact bq (hx.d3 r ((y r Z).resolve_right M) O (u r M O X) q (u O h2 q H)) U
theorem oS (hT:st' TMP=st TMP)(hE:st' EPO=st EPO):∀ (ps:List PK) (xs:List (aI×List Leaf)),(∀ x∈xs,e8 st st' x.2)->dh st' ps xs=dh st ps xs /\
  ∀ (U:Upd) (O:List (aI×List Leaf)) (b:Option (Bool×Nat×Nat)),dh st ps xs=some (U,O,b)->(∀ y∈O,e8 (ac U st) (ac U st') y.2)/\(∀ f r j,b=some (f,r,j)->st' r=st r)/\∀ ls,e8 st st' ls->e8 (ac U st) (ac U st') ls
 |[],xs,h=>⟨rfl,λU O b z=>by
   simp only[dh,B3,CL]at z;obtain⟨rfl,rfl,rfl⟩:=z;exact⟨h,(λ_ _ _ h=>by cases h),λ_ h=>h⟩⟩
 |_::_,[],h=>⟨rfl,λU O b z=>by
   simp only[dh,B3,CL]at z;obtain⟨rfl,rfl,rfl⟩:=z;exact⟨h,(λ_ _ _ h=>by cases h),λ_ h=>h⟩⟩
 |p::ps,x::xs,h=>by
  have hx:=h x (B9 ..);obtain⟨i1,i2⟩:=oS hT hE ps xs (λy M=>h y (B8 _ M));simp only[dh];cases hk:p.nest x.2 with
  |none =>
   simp only[i1,true_and];intro U O b z;simp only[CB]at z;obtain⟨u,X,z⟩:=z;simp only[CL]at z;obtain⟨rfl,rfl,rfl⟩:=z;obtain⟨j1,j2,j3⟩:=i2 u.1 u.2.1 u.2.2 X;refine⟨λy M=>?_,j2,j3⟩;rcases CH.1 M with rfl|M
   ·exact j3 _ hx
   ·exact j1 y M
  |some k =>
   obtain⟨l,Y,Z⟩:=rX hk;have hg:x.2.getD k .dead=l:=by rw[CI,Y];rfl
   have a0:∀ q∈ax [l],st' q=st q:=λq J=>hx.d1 q (fW (rj Y q J))
   simp only[hg,qw hT hE a0,true_and];intro U O b z;simp only[CB]at z;obtain⟨u,X,z⟩:=z;simp only[CL]at z;obtain⟨rfl,rfl,rfl⟩:=z;obtain⟨n,e1,H⟩:=oQ (U:=u.1) (l':=u.2) X;have I:=uX (U:=u.1) (l':=u.2) X;refine⟨λy M=>?_,λf r j hb=>?_,λls a1=>pB hT H I a1 (λq J=>.inl J)⟩
   ·rcases CH.1 M with rfl|M
    ·refine pB hT H I hx λq J=>?_
     have J:q∈az (aT x.2 k u.2):=J;rw[e1]at J;exact qy J
    ·exact pB hT H I (h y (B8 _ M)) (λq J=>.inl J)
   ·simp only[B3,CL]at hb;have hr:r=(kx l).1:=by rw[hb.2]
    rw[hr];refine a0 _ ?_;cases l with
    |nal p ks ep a2 E e xs =>
     cases ks with
     |nil =>
      exfalso;simp only[ct]at X;cases hv:bw st [] ep <;> simp[hv]at X
     |cons k ks=>rw[iK];simp[kx]
    |_=>simp[jG]at Z
theorem zR {b:Option (Bool×Nat×Nat)}{U:Upd}(u:st' TMP=st TMP)(z:st' EPO=st EPO)(y:∀ f r j,b=some (f,r,j)->st' r=st r):kj st' b U κ=kj st b U κ:=by
 unfold kj;split
 ·rename_i r j;rw[bq (y true r j rfl),bq u,bq z]
 ·rfl
theorem uk {d:Nat}{f:FuncId}{xs:List (aI×List Leaf)}(hT:st' TMP=st TMP)(X:st' EPO=st EPO)(hx:∀ x∈xs,e8 st st' x.2)(hd:st' d=st d)(hB:st' (B0+d)=st (B0+d)):jH Γ st' d f xs κ=jH Γ st d f xs κ:=by
 unfold jH;split
 ·rename_i c hc;obtain⟨n1,n2⟩:=oS hT X c.ps xs hx;rw[gR,gR,n1];cases hn:dh st c.ps xs with
  |none=>rfl
  |some u =>
   obtain⟨H,J,b⟩:=u;obtain⟨m1,m2,_⟩:=n2 H J b hn;simp only[Cf];have hg:=kU (st:=ac H st) (st':=ac H st') (ga:=cj Γ (ac H st)) (ga':=cj Γ (ac H st')) c.ps J (λx I pk=>wX (m1 x I));simp only[oX,hg.1];split
   ·rename_i g Y;obtain⟨h1,h2⟩:=hg.2 g Y;have O:gW st' d c.rs=gW st d c.rs:=by
     unfold gW;split
     ·rw[hB]
     ·rfl
    have Z:∀ q,ac H st' q=ac H st q->∀ U,ac (U++H) st' q=ac (U++H) st q:=λq h U=>by rw[bG,bG];exact bq h U
    have a1:(bif c.fresh then [] else aF (ac H st') g.frz)=(bif c.fresh then [] else aF (ac H st) g.frz):=by rw[kD h1]
    have hk:∀ (U:Upd),aN (ac U (ac H st')) g.kill=aN (ac U (ac H st)) g.kill:=λU=>iL (λz hz=>bq (h2 z hz) U)
    have ho:∀ (U:Upd) (p:Bool) (y:ah c.ps),aH (ac (U++H) st') p c.ps J y=aH (ac (U++H) st) p c.ps J y:=λU p y =>
     qx c.ps J y (Z _ (bq X H) U) (λx I q hq=>Z _ ((m1 x I).d1 q hq) U)
    have M:∀ (U:Upd),(g.frz.map λk=>(k.1,k.2,(ac (U++H) st' k.1).ver))=g.frz.map λk=>(k.1,k.2,(ac (U++H) st k.1).ver):=λU=>DF λz hz=>by rw[Z _ (h1 z hz) U]
    have a0:∀ U,ac U st' d=ac U st d:=λU=>bq hd U
    have a3:∀ U,ac U st' (B0+d)=ac U st (B0+d):=λU=>bq hB U
    have a2:∀ U,ac U st' EPO=ac U st EPO:=λU=>bq X U
    simp only[O,a1,hk,ho,a0,a3,a2,<- CX,M,zR hT X m2]
   ·rfl
 ·rfl
theorem sf:∀ (u:List Ty) (xs:List (aI×List Leaf)),(∀ x∈xs,∀ q∈ax x.2,st' q=st q)->jc st' u xs=jc st u xs
 |[],[],_=>rfl
 |[],_::_,_=>rfl
 |_::_,[],_=>rfl
 |a::u,x::xs,h=>by
  simp only[jc,eU (h x (B9 ..)),sf u xs (λy z=>h y (B8 _ z))]
theorem wY {r j i off n:Nat}{p:Bool}{E:TypeId}{e:Ty}{xs:List e.den}{h:Option (Nat×Nat)}{ls:List Leaf}(I:st' r=st r)(M:st' EPO=st EPO)(y:∀ q∈ax ls,st' q=st q):gX st' r j i off n p E e xs h ls κ=gX st r j i off n p E e xs h ls κ:=by
 unfold gX;congr 1;funext u;rw[pw e 0 u ls y];split
 ·rename_i t Y;obtain⟨O,X⟩:=pz e 0 u ls t Y;have J:aF st' t.frz=aF st t.frz:=kD (λz H=>y _ (O z H));have Z:∀ U:Upd,aN (ac U st') t.kill=aN (ac U st) t.kill:=λU=>iL (λz H=>bq (y _ (X z H)) U)
  simp only[J,Z,I,bq M]
 ·rfl
end
section
variable {P:Program} {V:Env} {Γ:List Ctr} {T:TypeId->TI} {st st':St} {o:Oper} {R:Type} {κ:Upd->Option R} {r:R}
theorem dG {H:List Nat}(h:∀ q∈H++H.flatMap (λt=>ax (st t).ls),st' q=st q){x:Operand}(z:∀ t,x=.tmp t->t∈H):(∀ t,x=.tmp t->st' t=st t)/\∀ q∈ax (au st x).2,st' q=st q:=by
 refine⟨λt y=>h t (B6 _ (z t y)),λq u=>?_⟩;obtain⟨t,y,u⟩:=sa u;rcases u with rfl|u
 ·exact h q (B6 _ (z q y))
 ·exact h q (B7 _ (CM.2 ⟨t,z t y,u⟩))
theorem nP {H:List Nat}(h:∀ q∈H++H.flatMap (λt=>az (st t).ls),st' q=st q){x:Operand}(z:∀ t,x=.tmp t->t∈H):(∀ t,x=.tmp t->st' t=st t)/\∀ q∈az (au st x).2,st' q=st q:=by
 refine⟨λt y=>h t (B6 _ (z t y)),λq u=>?_⟩;obtain⟨t,y,u⟩:=sb u;rcases u with rfl|u
 ·exact h q (B6 _ (z q y))
 ·exact h q (B7 _ (CM.2 ⟨t,z t y,u⟩))
theorem qz {y:List Nat}(h:∀ q∈kX st y,st' q=st q){x:Operand}(hx:∀ t,x=.tmp t->t∈y):e8 st st' (au st x).2:=by
 have J:∀ q,q∈y->st' q=st q:=λq u=>h q (by simp[kX];exact .inl u)
 have X:∀ q,q∈y.flatMap (λt=>az (st t).ls)->st' q=st q:=λq u=>h q (by
  unfold kX;exact B6 _ (B6 _ (B7 _ u)))
 have O:∀ q,q∈(y.flatMap (λt=>az (st t).ls)).flatMap (λt=>az (st t).ls)->st' q=st q:=λq u=>h q (by
  unfold kX;exact B6 _ (B7 _ u))
 have hc:∀ q,q∈((y.flatMap (λt=>az (st t).ls)).flatMap (λt=>az (st t).ls)).flatMap (λt=>az (st t).ls)->st' q=st q:=λq u=>h q (by
  unfold kX;exact B7 _ u)
 have Y:∀ r∈az (au st x).2,r∈y\/r∈y.flatMap (λt=>az (st t).ls):=by
  intro r H;obtain⟨t,Z,u⟩:=sb H;rcases u with rfl|u
  ·exact .inl (hx r Z)
  ·exact .inr (CM.2 ⟨t,hx t Z,u⟩)
 have l2:∀ r∈az (au st x).2,∀ q∈az (st r).ls,q∈y.flatMap (λt=>az (st t).ls)\/q∈(y.flatMap (λt=>az (st t).ls)).flatMap (λt=>az (st t).ls):=by
  intro r H q u;rcases Y r H with z|z
  ·exact .inl (CM.2 ⟨r,z,u⟩)
  ·exact .inr (CM.2 ⟨r,z,u⟩)
 refine⟨λq u=>(Y q u).elim (J q) (X q),λr H q u=>(l2 r H q u).elim (X q) (O q),λr H I M q u=>?_⟩;rcases l2 r H I M with z|z
 ·exact O q (CM.2 ⟨I,z,u⟩)
 ·exact hc q (CM.2 ⟨I,z,u⟩)
theorem bh {xs:Array Operand}{x:Operand}(h:x∈xs):∀ t,x=.tmp t->t∈iP xs.toList:=λt e=>r9 (by rw[<- e];simpa using h)
theorem op_fr (h:∀ q∈fO st o,st' q=st q)(z:∀ x,o.op≠.move x)(H:∀ t x i,o.op≠.indexAddr t x i):∀ q∈cA st o.op,st' q=st q:=λq y=>h q (by
 unfold fO;refine B6 _ ?_;cases u:o.op with
 |move x=>exact absurd u (z x)
 |indexAddr t x i=>exact absurd u (H t x i)
 |_=>rw[u]at y;exact y)
theorem AZ {α β:Type}{xs:List α}{n:Int}{K:Option β}:((idx xs n).bind λ_=>K)=if 0<=n/\n<xs.length then K else none:=by
 unfold idx;by_cases u:n<0
 ·rw[if_pos u,if_neg (by omega)];rfl
 ·rw[if_neg u];by_cases y:n.toNat<xs.length
  ·rw[CK y,if_pos (by omega)];rfl
  ·rw[C9 (by omega),if_neg (by omega)];rfl
theorem BQ (h:∀ q∈fO st o,st' q=st q)(hh:∀ q∈fj st o.op,bQ (st' q)=bQ (st q)):act Γ T o st' κ=act Γ T o st κ:=by
 have M:=op_fr h;have a0:∀ (U:Upd) (d:Nat) (sh:aI) (ls:List Leaf),o.dst=some d->cn st' U d sh ls=cn st U d sh ls:=λU d sh ls hd=>vG (uh hd h).1
 have hB:∀ d,o.dst=some d->st' (B0+d)=st (B0+d):=λd hd=>(uh hd h).2
 have hw:∀ (sh:aI) (ls:List Leaf),wrU o st' κ sh ls=wrU o st κ sh ls:=by
  intro sh ls;unfold wrU;split
  ·rename_i d hd;rw[a0 _ _ _ _ hd]
  ·rfl
 cases I:o.op with
 |move x =>
  simp only[I,fj]at hh;have e:au st' x=au st x:=yD λt Y=>hh t (bh (by simp[Op.operands]) t Y)
  simp only[act,I,e,hw]
 |assign x =>
  have H:=M (by simp[I]) (by simp[I]);simp only[I,cA]at H;have J:=dG H (x:=x) (bh (by simp[Op.operands]));have e:au st' x=au st x:=d9 J.1;simp only[act,I,e,rm J.2,pv J.2,ue J.2];split
  ·rename_i d hd;rw[a0 _ _ _ _ hd]
  ·rfl
 |pick c x y =>
  have H:=M (by simp[I]) (by simp[I]);simp only[I,cA]at H;have e1:one st' c=one st c:=dP λt Y=>H t (bh (by simp[Op.operands]) t Y)
  have e2:au st' x=au st x:=d9 λt Y=>H t (bh (by simp[Op.operands]) t Y)
  have e3:au st' y=au st y:=d9 λt Y=>H t (bh (by simp[Op.operands]) t Y)
  simp only[act,I,e1,e2,e3,hw]
 |alloc t =>
  simp only[act,I];split
  ·rename_i d hd;rw[a0 _ _ _ _ hd,hB d hd]
  ·rfl
 |box t x =>
  have H:=M (by simp[I]) (by simp[I]);simp only[I,cA]at H;have J:=dG H (x:=x) (bh (by simp[Op.operands]));have e:au st' x=au st x:=d9 J.1;have a9:sP st' x=sP st x:=by cases x <;> first|rfl|(simp only[sP];rw[J.1 _ rfl])
  simp only[act,I,e,rm J.2,pv J.2,ue J.2,a9];split
  ·rename_i d hd;simp only[a0 _ _ _ _ hd,hB d hd,bq (hB d hd)]
  ·rfl
 |build t a2 =>
  have H:=M (by simp[I]) (by simp[I]);simp only[I,cA]at H;have hb:∀ a5 ls,fN st' a5 a2.toList ls=fN st a5 a2.toList ls:=λa5 ls=>qv _ _ (λx J t Y=>H t (bh (by simp only[Op.operands,DR,CE];exact⟨x,J,rfl⟩) t Y))
  simp only[act,I,hw,hb]
 |buildSlice t n a2 =>
  have H:=M (by simp[I]) (by simp[I]);simp only[I,cA]at H;have J:∀ x∈a2.toList,(∀ t,x.2=.tmp t->st' t=st t)/\∀ q∈ax (au st x.2).2,st' q=st q:=λx J =>
   dG H (bh (by simp only[Op.operands,DR,CE];exact⟨x,J,rfl⟩))
  simp only[act,I];split
  ·rw[oO _ _ J];split
   ·rename_i u bb;have b5:=oP _ _ _ bb;have b3:∀ z,z∈u.frz\/z∈u.kill->st' z.1=st z.1:=λz hz=>by
     obtain⟨x,c0,bn⟩:=b5 z hz;exact (J x c0).2 _ bn
    have e1:aF st' u.frz=aF st u.frz:=kD λz hz=>b3 z (.inl hz)
    have e2:∀ U:Upd,aN (ac U st') u.kill=aN (ac U st) u.kill:=λU=>iL (λz hz=>bq (b3 z (.inr hz)) U)
    simp only[e1,e2];congr 1;split
    ·rename_i d hd;rw[a0 _ _ _ _ hd]
    ·rfl
   ·rfl
  ·rfl
 |load t x =>
  have H:=M (by simp[I]) (by simp[I]);simp only[I,cA]at H;have J:=nP H (x:=x) (bh (by simp[Op.operands]));have e:one st' x=one st x:=dP J.1;have X:∀ q∈az [one st x],st' q=st q:=λq O=>J.2 q (uf O)
  simp only[act,I,e,hw];congr 1;split
  ·rfl
  ·rename_i b off Z;rw[Z]at X;rw[X b (by simp[az])]
  ·rfl
  ·rename_i p ks ep a y off Z;rw[Z]at X;rw[j0 (λq O=>X q (by simpa[az]using O))]
  ·rename_i r j v i sz off Z;rw[Z]at X;rw[cr (l:=.al r j v) (λq O=>X q (by simp[ax]at O;simp[az,O])),X EPO (by simp[az])]
  ·rfl
 |store t x y =>
  have H:=M (by simp[I]) (by simp[I]);simp only[I,cA]at H;have J:=nP H (x:=x) (bh (by simp[Op.operands]));have hy:=nP H (x:=y) (bh (by simp[Op.operands]));have e:one st' x=one st x:=dP J.1;have e2:au st' y=au st y:=d9 hy.1;have X:∀ q∈az [one st x],st' q=st q:=λq O=>J.2 q (uf O)
  have a8:∀ q∈ax (au st y).2,st' q=st q:=λq O=>hy.2 q (fW O)
  simp only[act,I,e,e2,rm a8,pv a8,ue a8];split
  ·rfl
  ·congr 1;split
   ·rename_i b off Z;rw[Z]at X;have hb:=X b (by simp[az]);simp only[hb,bq hb]
   ·rename_i r j v i sz off Z;rw[Z]at X;have bl:=X r (by simp[az]);rw[cr (l:=.al r j v) (λq O=>X q (by simp[ax]at O;simp[az,O]))];split
    ·rw[wY bl (X EPO (by simp[az])) a8]
    ·rfl
   ·rfl
 |nilCheck x =>
  have H:=M (by simp[I]) (by simp[I]);simp only[I,cA]at H;have J:=dG H (x:=x) (bh (by simp[Op.operands]));have e:one st' x=one st x:=dP J.1;have X:∀ q∈ax [one st x],st' q=st q:=λq O=>J.2 q (jD O)
  simp only[act,I,e,hw];split
  ·rfl
  ·rfl
  ·rename_i r j v i sz off Z;rw[Z]at X;rw[X r (by simp[ax])]
  ·rfl
  ·rename_i p ks ep a y off Z;rw[Z,vF]at X;rw[j0 X]
  ·rfl
 |binOp op t x y t' =>
  have H:=M (by simp[I]) (by simp[I]);simp only[I,cA]at H;have J:=dG H (x:=x) (bh (by simp[Op.operands]));have hy:=dG H (x:=y) (bh (by simp[Op.operands]));have e1:one st' x=one st x:=dP J.1;have e2:one st' y=one st y:=dP hy.1;have e3:au st' x=au st x:=d9 J.1;have e4:au st' y=au st y:=d9 hy.1;simp only[act,I,e1,e2,e3,e4,hw,eU J.2,eU hy.2]
 |unOp op t x =>
  have H:=M (by simp[I]) (by simp[I]);simp only[I,cA]at H;have e1:one st' x=one st x:=dP λt Y=>H t (bh (by simp[Op.operands]) t Y)
  simp only[act,I,e1,hw]
 |convert s t x =>
  have H:=M (by simp[I]) (by simp[I]);simp only[I,cA]at H;have J:=dG H (x:=x) (bh (by simp[Op.operands]));have e1:one st' x=one st x:=dP J.1;have X:∀ q∈ax [one st x],st' q=st q:=λq O=>J.2 q (jD O)
  simp only[act,I,e1,hw];split
  ·rfl
  ·rw[cr X]
  ·rfl
  ·rfl
 |makeSlice t n c =>
  have H:=M (by simp[I]) (by simp[I]);simp only[I,cA]at H;have e1:one st' n=one st n:=dP λt Y=>H t (bh (by simp[Op.operands]) t Y)
  have e2:one st' c=one st c:=dP λt Y=>H t (bh (by simp[Op.operands]) t Y)
  simp only[act,I,e1,e2,hw]
 |slice t x lo hi mx =>
  have H:=M (by simp[I]) (by simp[I]);simp only[I,cA]at H;have hE:=H EPO (B9 ..);have H:=λq O=>H q (B8 _ O)
  have J:=dG H (x:=x) (bh (by simp[Op.operands]));have bx:∀ n,du st' lo n=du st lo n:=λn=>nL λy hy t Y=>H t (B6 _ (bh (by simp[Op.operands,hy]) t Y))
  have b9:∀ n,du st' hi n=du st hi n:=λn=>nL λy hy t Y=>H t (B6 _ (bh (by simp[Op.operands,hy]) t Y))
  have e:one st' x=one st x:=dP J.1;have X:∀ q∈ax [one st x],st' q=st q:=λq O=>J.2 q (jD O)
  have b6:∀ m,mx=some m->du st' (some m) 0=du st (some m) 0:=λm hm=>nL λy hy t Y=>H t (B6 _ (bh (by simp[Op.operands,hm,DW hy]) t Y))
  simp only[act,I,e,bx,b9,cr X,hE];cases hd:o.dst with
  |none=>cases mx <;> rfl
  |some d =>
   cases mx with
   |none=>simp only[a0 _ _ _ _ hd]
   |some m =>
    simp only[b6 m rfl];split
    ·rename_i r j v _ Z _;rw[Z]at X;rw[cr X,iL (st:=st) (st':=st') (λz hz=>by simp at hz;subst hz;exact X _ (by simp[ax]))];simp only[a0 _ _ _ _ hd]
    ·rfl
 |fieldAddr t x f =>
  have H:=M (by simp[I]) (by simp[I]);simp only[I,cA]at H;have J:=dG H (x:=x) (bh (by simp[Op.operands]));have e:one st' x=one st x:=dP J.1;have X:∀ q∈ax [one st x],st' q=st q:=λq O=>J.2 q (jD O)
  simp only[act,I,e,hw];split
  ·split
   ·split
    ·rfl
    ·rfl
    ·rename_i r j v i sz off Z;rw[Z]at X;rw[X r (by simp[ax])]
    ·rename_i p ks ep a y o' Z;rw[Z,vF]at X;rw[j0 X]
    ·rfl
   ·rfl
  ·rfl
 |field t x f =>
  have H:=M (by simp[I]) (by simp[I]);simp only[I,cA]at H;have e1:au st' x=au st x:=d9 λt Y=>H t (bh (by simp[Op.operands]) t Y)
  simp only[act,I,e1,hw]
 |indexAddr t x i =>
  simp only[I,fj]at hh;have b1:∀ y∈(Op.indexAddr t x i).operands,∀ t,y=.tmp t->bQ (st' t)=bQ (st t):=λy hy t Y=>hh t (B6 _ (bh hy t Y))
  have e:one st' x=one st x:=Ag (b1 x (by simp[Op.operands]));have e2:one st' i=one st i:=Ag (b1 i (by simp[Op.operands]));have X:∀ q∈ax [one st x],bQ (st' q)=bQ (st q):=λq O=>by
   obtain⟨t',b4,O⟩:=sa (jD O);have a6:=bh (xs:=(Op.indexAddr t x i).operands) (x:=x) (by simp[Op.operands]) t' b4;rcases O with rfl|O
   ·exact hh q (B6 _ a6)
   ·exact hh q (B7 _ (CM.2 ⟨t',a6,O⟩))
  simp only[act,I,e,e2,hw];split
  ·split
   ·rfl
   ·split
    ·rename_i r j v Z;rw[Z]at X;have O:=X r (by simp[ax]);have hv:(st' r).ver=(st r).ver:=by simp only[bQ,CL]at O;exact O.1
     simp only[aE,hv];cases CC (st r).ver v with
     |false=>rfl
     |true =>
      simp only[cond_true];rcases ug (yE O j) with e3|⟨p,p',h1,h2,E1,E2,e',c2,xs,c3,e3,e4,e5,e6⟩
      ·rw[e3]
      ·rw[e3,e4];simp only[pI,e5,AZ,e6]
    ·rfl
    ·rename_i p ks ep c1 E' e' xs Z;rw[Z,iK]at X;rw[zQ X]
    ·rfl
   ·rfl
  ·rfl
 |index t x i =>
  have H:=M (by simp[I]) (by simp[I]);simp only[I,cA]at H;have J:=dG H (x:=x) (bh (by simp[Op.operands]));have e1:one st' x=one st x:=dP J.1;have e2:one st' i=one st i:=dP (dG H (x:=i) (bh (by simp[Op.operands]))).1;have e3:au st' x=au st x:=d9 J.1;simp only[act,I,e1,e2,e3,hw,λe n=>nI (e:=e) n _ J.2]
 |extract x i =>
  have H:=M (by simp[I]) (by simp[I]);simp only[I,cA]at H;have e1:au st' x=au st x:=d9 λt Y=>H t (bh (by simp[Op.operands]) t Y)
  simp only[act,I,e1,hw]
 |makeFunc fn first a3 =>
  have H:=M (by simp[I]) (by simp[I]);simp only[I,cA]at H;cases fn with
  |func f =>
   have:sR st' a3.toList=sR st a3.toList:=vH (st:=st) (st':=st') a3.toList (some []) (λx J t Y=>H t (bh (by simp[Op.operands];exact .inr (by simpa using J)) t Y));simp only[act,I,hw,this]
  |_=>simp only[act,I]
 |call c =>
  have H:=M (by simp[I]) (by simp[I]);simp only[I,cA]at H;simp only[act,I];split
  ·rfl
  ·rename_i d hd;obtain⟨ad,b2⟩:=uh hd h;cases hc:c.callee with
   |value f =>
    simp only[hc]at H;have hT:=H TMP (B9 ..);have hE:=H EPO (B8 _ (B9 ..));have H:=λq O=>H q (B8 _ (B8 _ O))
    have b0:f∈(Op.call c).operands:=by simp[Op.operands,Call.operands,hc]
    have a7:∀ x∈c.args.toList,x∈(Op.call c).operands:=λx J=>by
     simp only[Op.operands,Call.operands,hc,DS];exact .inr (by simpa using J)
    have a6:∀ x∈(Op.call c).operands,∀ t,x=.tmp t->st' t=st t:=λx J t Y=>H t (by
     unfold kX;exact B6 _ (B6 _ (B6 _ (bh J t Y))))
    have e1:one st' f=one st f:=dP (a6 f b0);have e2:c.args.toList.map (au st')=c.args.toList.map (au st):=DF λx J=>d9 (a6 x (a7 x J))
    have a4:∀ x∈c.args.toList.map (au st),e8 st st' x.2:=by
     intro x J;obtain⟨y,hy,rfl⟩:=CE.1 J;exact qz H (bh (a7 y hy))
    simp only[e1,e2];split
    ·rename_i g a3 Z;refine uk hT hE ?_ ad b2;intro x J;rcases B4.1 J with J|J
     ·exact a4 x J
     ·obtain⟨b,hb,rfl⟩:=CE.1 J;have hf:=qz H (bh b0);rw[rq Z (by simp)]at hf;exact pA hf _ (CE.2 ⟨b,hb,rfl⟩)
    ·rename_i g a3 Z;refine uk hT hE ?_ ad b2;intro x J;rcases B4.1 J with J|J
     ·exact a4 x J
     ·obtain⟨cp,ba,rfl⟩:=CE.1 J;exact nO _ (CE.2 ⟨cp,ba,rfl⟩)
    ·rename_i As B φ Z;rw[sf As _ (λx J q O=>(a4 x J).d1 q (fW O))];simp only[hw]
    ·rfl
   |builtin b =>
    simp only[hc]at H;have hT:=H TMP (B9 ..);have H:=λq O=>H q (B8 _ O)
    have a7:∀ x∈c.args.toList,x∈(Op.call c).operands:=λx J=>by
     simp only[Op.operands,Call.operands,hc,DS];exact .inr (by simpa using J)
    have J:∀ x∈c.args.toList,one st' x=one st x/\∀ q∈ax [one st x],st' q=st q:=λx J=>by
     have:=dG H (bh (a7 x J));exact⟨dP this.1,λq O=>this.2 q (jD O)⟩
    cases b with
    |len =>
     dsimp only;split
     ·rename_i x a1;have h1:=J x (by rw[a1];simp);simp only[h1.1,cr h1.2,hw]
     ·rfl
    |append =>
     dsimp only;split
     ·rename_i x y t u a1 _;have h1:=J x (by rw[a1];simp);have h2:=J y (by rw[a1];simp);split
      ·rw[h1.1,h2.1,wW hT h1.2 h2.2 ad]
      ·rfl
     ·rfl
    |min =>
     dsimp only;split
     ·rename_i x y a1;rw[(J x (by rw[a1];simp)).1,(J y (by rw[a1];simp)).1];simp only[hw]
     ·rfl
    |max =>
     dsimp only;split
     ·rename_i x y a1;rw[(J x (by rw[a1];simp)).1,(J y (by rw[a1];simp)).1];simp only[hw]
     ·rfl
    |_=>rfl
   |invoke x n=>rfl
 |_=>simp only[act,I]
end
section
variable {P:Program} {V:Env} {Γ:List Ctr} {T:TypeId->TI} {st st':St} {o:Oper} {R:Type} {all:Array Oper}
def mJ (Γ:List Ctr)(T:TypeId->TI)(all:Array Oper)(o:Oper)(st:St)(U:Upd):Prop :=
 match o.guard with
 |none=>act Γ T o st some=some U
 |some (j,r)=>∃ t,(all[j]?).bind (·.dst)=some t /\
  ((∃ b,(st t).sh=.one/\(st t).ls=[.bool b]/\((b=r/\act Γ T o st some=some U)\/(b≠r/\U=eX st o)))\/((st t).sh=.und/\U=eX st o))
def j8 (Γ:List Ctr)(T:TypeId->TI)(all:Array Oper)(o:Oper)(st:St)(U:Upd)(t:cU):Prop :=
 ((∀ q∈U.map (·.1),q∈t.wr\/q∈t.cw)/\(∀ q∈t.wr,q∈U.map (·.1))/\∀ q,q∈U.map (·.1)->q∉t.wr->bQ (ac U st q)=bQ (st q))/\match o.guard with
 |none=>act Γ T o st some=some U/\(∀ q∈fO st o,q∈t.rd)/\∀ q∈fj st o.op,q∈t.hd
 |some (j,r)=>∃ s,(all[j]?).bind (·.dst)=some s/\s∈t.rd /\
  ((∃ b,(st s).sh=.one/\(st s).ls=[.bool b]/\((b=r/\act Γ T o st some=some U/\(∀ q∈fO st o,q∈t.rd)/\∀ q∈fj st o.op,q∈t.hd)\/(b≠r/\U=eX st o/\∀ d,o.dst=some d->d∈t.wr))) \/
   ((st s).sh=.und/\U=eX st o/\∀ d,o.dst=some d->d∈t.wr))
theorem ul {α:Type}:∀ {l:List α} {j:Nat} {x:α},l[j]?=some x->l.set j x=l
 |[],_,_,h=>by simp at h
 |y::l,0,x,h=>by simp at h;subst h;rfl
 |y::l,j+1,x,h=>by rw[DL,ul (by simpa using h)]
theorem Ba {U:Upd}(h:act Γ T o st some=some U):∀ q∈ek st o,bQ (ac U st q)=bQ (st q):=by
  intro q z;unfold ek at z;split at z
  · rename_i t x y J
    split at z
    · rename_i r j a0 i sz off hx
      simp only[Ca]at z;subst z;simp only[act,wrU,J]at h;split at h
      · cases h
      · cases M:CC (au st y).2.length (T t).cells&&decide ((au st y).1=bm (T t).agg)&&!decide ((T t).cells=0) with
        |false=>simp[M]at h
        |true =>
          simp only[M,cond_true,hx]at h;split at h
          · rename_i p hh E e xs hd
            cases hc:CC sz e.cells&&decide (off+(au st y).2.length<=e.cells)&&sC q with
            |false=>simp[hc]at h
            |true =>
              simp only[hc,cond_true]at h;obtain⟨_,hl⟩:=fC hd (by simp);have u:∀ (p':Bool) (I:Option (Nat×Nat)) (v:e.den) (X:Upd),bQ (ac ((q,⟨(st q).ver,(st q).sh,aT (st q).ls j (.own p' I E e (xs.set i v))⟩)::X) st q)=bQ (st q):=by
                intro p' I v X;rw[aP,bo];simp only[bQ,aT];rw[List.map_set,ul];rw[DO,hl];simp[jM]
              unfold gX at h;obtain⟨a1,_,h⟩:=CY.1 h;split at h
              · rename_i t _
                cases H:t.rest.isEmpty&&bc t.kill&&dN t.frz t.kill&&!((t.kill++t.frz).any λk=>CC k.1 q) with
                |false=>rw[H]at h;cases h
                |true =>
                  simp only[H,cond_true]at h;cases hh with
                  |none =>
                    simp only[B3]at h;rw[<- h];exact u _ _ _ _
                  |some hp =>
                    obtain⟨hi,Z⟩:=hp;simp only at h;cases O:DE off Z&&C7 Z (off+(au st y).2.length) with
                    |false =>
                      rw[O]at h;simp only[cond_false,B3]at h;rw[<- h];exact u _ _ _ _
                    |true =>
                      rw[O]at h;simp only[cond_true]at h;cases Y:CC i hi with
                      |false=>rw[Y]at h;cases h
                      |true =>
                        rw[Y]at h;simp only[cond_true,B3]at h;rw[<- h];exact u _ _ _ _
              · cases h
          · cases h
    · simp at z
  · simp at z
theorem pC {t:Nat}{b:Bool}(u:(st t).sh=.one)(r:(st t).ls=[.bool b]):lit st t b=st:=by
 funext q;unfold lit;rcases ak t q ⟨(st t).ver,.one,[.bool b]⟩ st with ⟨rfl,e⟩|⟨_,e⟩
 ·rw[e,<- u,<- r]
 ·exact e
theorem wZ {U:Upd}(h:act Γ T o st some=some U):(∀ q∈U.map (·.1),q∈(U.map (·.1)).filter (λq=>!((ek st o).any (CC q)))\/q∈ek st o)/\(∀ q∈(U.map (·.1)).filter (λq=>!((ek st o).any (CC q))),q∈U.map (·.1)) /\
  ∀ q,q∈U.map (·.1)->q∉(U.map (·.1)).filter (λq=>!((ek st o).any (CC q)))->bQ (ac U st q)=bQ (st q):=by
 have r:∀ q,(ek st o).any (CC q)=true->q∈ek st o:=λq u=>by
  obtain⟨x,z,H⟩:=Cq.1 u;rw[CA H];exact z
 refine⟨λq u=>?_,λq u=>(Cl.1 u).1,λq u I=>?_⟩
 ·cases y:(ek st o).any (CC q) with
  |true=>exact .inr (r q y)
  |false=>exact .inl (Cl.2 ⟨u,by rw[y];rfl⟩)
 ·refine Ba h q (r q ?_);cases y:(ek st o).any (CC q) with
  |true=>rfl
  |false=>exact absurd (Cl.2 ⟨u,by rw[y];rfl⟩) I
theorem Bb {κ:St->cU->Option R}{r:R}(h:opK Γ T all o st κ=some r):∃ U t,j8 Γ T all o st U t/\κ (ac U st) t=some r:=by
 have Y:∀ (z:List Nat),act Γ T o st (λU=>κ (ac U st) ⟨z++fO st o,fj st o.op,(U.map (·.1)).filter (λq=>!((ek st o).any (CC q))),ek st o⟩)=some r ->
   ∃ U,act Γ T o st some=some U/\κ (ac U st) ⟨z++fO st o,fj st o.op,(U.map (·.1)).filter (λq=>!((ek st o).any (CC q))),ek st o⟩=some r:=by
  intro z h;rw[ud]at h;obtain⟨U,M,X⟩:=CY.1 h;exact⟨U,M,X⟩
 have y:((∀ q∈(eX st o).map (·.1),q∈o.dst.toList\/q∈([]:List Nat))/\(∀ q∈o.dst.toList,q∈(eX st o).map (·.1))/\∀ q,q∈(eX st o).map (·.1)->q∉o.dst.toList->bQ (ac (eX st o) st q)=bQ (st q)):=by
  unfold eX;cases o.dst with
  |none=>simp
  |some d=>simp
 unfold opK at h;unfold j8;cases hg:o.guard with
 |none =>
  simp only[hg]at h;obtain⟨U,M,X⟩:=Y [] h;exact⟨U,_,⟨wZ M,M,λq I=>by simpa using I,λq I=>I⟩,X⟩
 |some jw =>
  obtain⟨j,O⟩:=jw;simp only[hg]at h;split at h
  ·rename_i t Z;have J:∀ d,o.dst=some d->d∈o.dst.toList:=λd hd=>by simp[hd]
   split at h
   ·rename_i b u H;have hl:∀ b',b'=b->lit st t b'=st:=λb' e=>pC u (by rw[H,e])
    cases b with
    |true =>
     simp only[cond_true,hl true rfl]at h;cases O with
     |true =>
      simp only[cond_true]at h;obtain⟨U,M,X⟩:=Y [t] h;exact⟨U,_,⟨wZ M,t,Z,by simp,.inl ⟨true,u,H,.inl ⟨rfl,M,λq I=>B7 _ I,λq I=>I⟩⟩⟩,X⟩
     |false =>
      simp only[cond_false]at h;exact⟨eX st o,_,⟨y,t,Z,by simp,.inl ⟨true,u,H,.inr ⟨by simp,rfl,J⟩⟩⟩,h⟩
    |false =>
     simp only[cond_false,hl false rfl]at h;cases O with
     |true =>
      simp only[cond_true]at h;exact⟨eX st o,_,⟨y,t,Z,by simp,.inl ⟨false,u,H,.inr ⟨by simp,rfl,J⟩⟩⟩,h⟩
     |false =>
      simp only[cond_false]at h;obtain⟨U,M,X⟩:=Y [t] h;exact⟨U,_,⟨wZ M,t,Z,by simp,.inl ⟨false,u,H,.inl ⟨rfl,M,λq I=>B7 _ I,λq I=>I⟩⟩⟩,X⟩
   ·rename_i u;exact⟨eX st o,_,⟨y,t,Z,by simp,.inr ⟨u,rfl,J⟩⟩,h⟩
   ·cases h
  ·cases h
theorem vI {U:Upd}(e:U=eX st o)(u:∀ d,o.dst=some d->st' d=st d):U=eX st' o:=by
 rw[e];unfold eX;cases r:o.dst with
 |none=>rfl
 |some d=>simp only[u d r]
theorem j8.frame {U:Upd}{t:cU}(h:j8 Γ T all o st U t)(u:∀ q,q∈t.rd\/q∈t.wr->st' q=st q)(hh:∀ q∈t.hd,bQ (st' q)=bQ (st q)):mJ Γ T all o st' U:=by
 obtain⟨_,h⟩:=h;have r:act Γ T o st some=some U->(∀ q∈fO st o,q∈t.rd)->(∀ q∈fj st o.op,q∈t.hd)->act Γ T o st' some=some U:=by
  intro H I O;rw[BQ (λq hq=>u q (.inl (I q hq))) (λq hq=>hh q (O q hq))];exact H
 unfold mJ;cases hg:o.guard with
 |none =>
  rw[hg]at h;exact r h.1 h.2.1 h.2.2
 |some jw =>
  obtain⟨j,a0⟩:=jw;rw[hg]at h;obtain⟨s,H,I,O⟩:=h;have J:=u s (.inl I);refine⟨s,H,?_⟩;rw[J];rcases O with ⟨b,h4,Y,h6⟩|⟨h4,Y,h6⟩
  ·refine .inl ⟨b,h4,Y,?_⟩;rcases h6 with ⟨M,y,Z,z⟩|⟨M,y,Z⟩
   ·exact .inl ⟨M,r y Z z⟩
   ·exact .inr ⟨M,vI y (λd X=>u d (.inr (Z d X)))⟩
  ·exact .inr ⟨h4,vI Y (λd X=>u d (.inr (h6 d X)))⟩
theorem w8 (hV:ay V)(hT:TOk P T)(hΓ:∀ c∈Γ,bN P c){ops:Array Oper}{i:Nat}(hi:ops[i]?=some o)(J:bU V o)(H:∀ j u,o.guard=some (j,u)->∀ s,(ops[j]?).bind (·.dst)=some s->s<V.nt)
  {U:Upd} (h:mJ Γ T ops o st U) {a:Act} {w:World} (z:Rel P V st a w) {K:Act->World->Prop} {Q:Exit->Act->World->Prop} (hK:∀ a' w',Rel P V (ac U st) a' w'->K a' w'):wpOp P ops Q i K a w:=by
 obtain⟨W,z⟩:=z;unfold wpOp;simp only[hi];have a0:act Γ T o st some=some U->o.wp P a w K Q:=by
  intro X;obtain⟨U',h2,h3⟩:=BP hV hT hΓ J X;cases h2;exact h3 W a w z K Q hK
 have y:U=eX st o->K (a.put o.dst undef) w:=by
  intro e;refine hK _ _ ?_;subst e;unfold eX;cases hd:o.dst with
  |none=>exact⟨W,z⟩
  |some d=>exact z.putLs hV d (J d hd).1 (J d hd).2 _ .und [] undef [] (Cj _) ⟨rfl,rfl⟩ trivial
 unfold mJ at h;cases M:o.guard with
 |none =>
  rw[M]at h;have O:Region.wanted o (yielded ops a.tmps)=true:=by simp[Region.wanted,M]
  rw[if_pos O];exact .inl (a0 h)
 |some jw =>
  obtain⟨j,u⟩:=jw;rw[M]at h;obtain⟨s,X,h2⟩:=h;have Z:=H j u M s X;have a1:s<GH:=DM Z hV.nt;have r:=z.slots s a1;have a2:s<a.tmps.size:=by rw[z.nt];exact Z
  have I:a.tmps[s]?=some (a.tmps.getD s undef):=by
   rw[CG,CF a2];rfl
  rcases h2 with ⟨b,h3,h4,h5⟩|⟨h3,h5⟩
  ·have Y:=z.len s;rw[h4]at Y;rw[h3]at r;have r:W.cs s=[a.tmps.getD s undef]:=r;have hv:=z.leaf s 0 (.bool b) (a.tmps.getD s undef) (by rw[h4];rfl) (by rw[r];rfl);have hv:a.tmps.getD s undef=.bool b:=hv;have hy:yielded ops a.tmps j=some b:=by simp[yielded,X,I,hv]
   rcases h5 with ⟨rfl,h6⟩|⟨h6,h7⟩
   ·have O:Region.wanted o (yielded ops a.tmps)=true:=by simp[Region.wanted,M,hy]
    rw[if_pos O];exact .inl (a0 h6)
   ·have O:Region.wanted o (yielded ops a.tmps)=false:=by
     simp only[Region.wanted,M,hy];cases b <;> cases u <;> simp at h6 <;> rfl
    rw[O];exact y h7
  ·rw[h3]at r;obtain⟨hv,_⟩:=r;have hy:yielded ops a.tmps j=none:=by
    unfold yielded;rw[X,Cf,I,hv];rfl
   have O:Region.wanted o (yielded ops a.tmps)=false:=by simp[Region.wanted,M,hy]
   rw[O];exact y h5
def Run (Γ:List Ctr)(T:TypeId->TI)(all:Array Oper):St->List Oper->List Upd->List cU->St->Prop
 |st,[],[],[],st'=>st'=st
 |st,o::y,U::r,t::u,st'=>j8 Γ T all o st U t/\Run Γ T all (ac U st) y r u st'
 |_,_,_,_,_=>False
theorem pD:∀ (H:List Oper) (st:St) (z:List cU) (y:St->List cU->Option R) (r:R),qE Γ T all H st z y=some r ->
  ∃ I u st',Run Γ T all st H I u st'/\y st' (z++u)=some r
 |[],st,z,y,r,h=>⟨[],[],st,rfl,by simpa[qE]using h⟩
 |o::H,st,z,y,r,h=>by
  simp only[qE]at h;obtain⟨U,t,M,O⟩:=Bb h;obtain⟨I,u,st',X,J⟩:=pD H (ac U st) (z++[t]) y r O;exact⟨U::I,t::u,st',⟨M,X⟩,by rw[CX]at J;exact J⟩
theorem j8.res {U:Upd}{t:cU}(h:j8 Γ T all o st U t):mJ Γ T all o st U:=h.frame (λ_ _=>rfl) (λ_ _=>rfl)
theorem vJ (X:ay V)(Z:TOk P T)(hΓ:∀ c∈Γ,bN P c){ops:Array Oper}(u:∀ (i:Nat) (o:Oper),ops[i]?=some o->bU V o)
  (r:∀ (i:Nat) (o:Oper),ops[i]?=some o->∀ j y,o.guard=some (j,y)->∀ s,(ops[j]?).bind (·.dst)=some s->s<V.nt) {Q:Exit->Act->World->Prop} :
  ∀ (z:List Oper) (k:Nat) (st:St) (us:List Upd) (H:List cU) (st':St),ops.toList.drop k=z->Run Γ T ops st z us H st'->(∀ a w,Rel P V st' a w->Q .normal a w) ->
   ∀ a w,Rel P V st a w->wpOps P ops Q (List.range' k z.length) a w
 |[],k,st,[],[],st',_,h,J,a,w,I=>by
  have h:st'=st:=h;subst h;exact J a w I
 |o::z,k,st,U::us,t::H,st',Y,h,J,a,w,I=>by
  obtain⟨h1,h2⟩:=h;have O:ops[k]?=some o:=by
   have:(ops.toList.drop k)[0]?=some o:=by rw[Y];rfl
   rw[List.getElem?_drop]at this;simpa using this
  rw[Cg,List.range'_succ,wpOps_cons];refine w8 X Z hΓ O (u k o O) (r k o O) h1.res I (λa' w' M=>?_);exact vJ X Z hΓ u r z (k+1) (ac U st) us H st' (by rw[<- DB,Y];rfl) h2 J a' w' M
end
section
variable {P:Program} {V:Env} {Γ:List Ctr} {T:TypeId->TI} {st st':St} {o:Oper} {R:Type} {all:Array Oper}
def dr (D:Nat->Bool):List Upd->St->St
 |[],st=>st
 |U::r,st=>dr (λj=>D (j+1)) r (bif D 0 then ac U st else st)
theorem jE {q:Nat}:∀ {U:Upd} (s u:St),q∈U.map (·.1)->ac U s q=ac U u q
 |[],_,_,h=>by simp at h
 |(r,c)::U,s,u,h=>by
  simp only[ac];cases y:CC q r with
  |true=>rfl
  |false =>
   simp only[cond_false];refine jE s u ?_;simp only[CR,CH]at h;rcases h with rfl|h
   ·simp at y
   ·exact h
theorem eV {q:Nat}:∀ {U:Upd} (s:St),q∉U.map (·.1)->ac U s q=s q
 |[],_,_=>rfl
 |(r,c)::U,s,h=>by
  simp only[CR,CH,not_or]at h;have u:CC q r=false:=by
   cases u:CC q r with
   |false=>rfl
   |true=>exact absurd (CA u) h.1
  simp only[ac,u,cond_false];exact eV s h.2
theorem yF {U r:Upd}(h:∀ q,q∈U.map (·.1)->q∉r.map (·.1))(s:St):ac r (ac U s)=ac U (ac r s):=by
 funext q;by_cases u:q∈U.map (·.1)
 ·rw[eV _ (h q u)];exact jE _ _ u
 ·rw[eV (U:=U) _ u];by_cases y:q∈r.map (·.1)
  ·exact jE _ _ y
  ·rw[eV _ y,eV _ y,eV _ u]
theorem mK:∀ {us:List Upd} {D D':Nat->Bool} {s:St},(∀ j,j<us.length->D j=D' j)->dr D us s=dr D' us s
 |[],_,_,_,_=>rfl
 |U::us,D,D',s,h=>by
  simp only[dr];rw[h 0 (by simp)];exact mK (λj r=>h (j+1) (by simpa using r))
theorem nQ:∀ {us:List Upd} {D:Nat->Bool} {s:St},(∀ j,D j=false)->dr D us s=s
 |[],_,_,_=>rfl
 |U::us,D,s,h=>by
  simp only[dr,h 0,cond_false];exact nQ (λj=>h (j+1))
theorem mL {q:Nat}:∀ {us:List Upd} {D D':Nat->Bool} {s r:St},s q=r q->(∀ (j:Nat) (U:Upd),us[j]?=some U->q∈U.map (·.1)->D j=D' j)->dr D us s q=dr D' us r q
 |[],_,_,_,_,h,_=>h
 |U::us,D,D',s,r,h,H=>by
  simp only[dr];refine mL ?_ (λj y z I=>H (j+1) y (by simpa using z) I);by_cases u:q∈U.map (·.1)
  ·rw[H 0 U rfl u];cases D' 0 with
   |true=>exact jE _ _ u
   |false=>exact h
  ·have J:∀ b:Bool,(bif b then ac U s else s) q=s q:=by intro b;cases b <;> simp[eV _ u]
   have M:∀ b:Bool,(bif b then ac U r else r) q=r q:=by intro b;cases b <;> simp[eV _ u]
   rw[J,M,h]
theorem nR {U:Upd}:∀ {us:List Upd} {D:Nat->Bool} {s:St},(∀ (j:Nat) (u:Upd),us[j]?=some u->D j=true->∀ q,q∈U.map (·.1)->q∉u.map (·.1))->dr D us (ac U s)=ac U (dr D us s)
 |[],_,_,_=>rfl
 |u::us,D,s,h=>by
  simp only[dr];cases H:D 0 with
  |true =>
   simp only[cond_true];rw[yF (h 0 u rfl H)];exact nR (λj r y z=>h (j+1) r (by simpa using y) z)
  |false =>
   simp only[cond_false];exact nR (λj r y z=>h (j+1) r (by simpa using y) z)
theorem oT {U:Upd}:∀ {us:List Upd} {i:Nat} {D D':Nat->Bool} {s:St},us[i]?=some U->D i=false->(∀ j,D' j=(D j||CC j i)) ->
  (∀ (j:Nat) (u:Upd),us[j]?=some u->i<j->D j=true->∀ q,q∈U.map (·.1)->q∉u.map (·.1))->dr D' us s=ac U (dr D us s)
 |[],i,_,_,_,h,_,_,_=>by simp at h
 |V::us,0,D,D',s,h,I,r,H=>by
  simp at h;subst h;simp only[dr];have z:D' 0=true:=by rw[r 0];simp
  rw[z,I];simp only[cond_true,cond_false];have e:dr (λj=>D' (j+1)) us (ac V s)=dr (λj=>D (j+1)) us (ac V s):=mK (λj _=>by rw[r (j+1)];simp[CC]);rw[e];exact nR (λj u y J=>H (j+1) u (by simpa using y) (by omega) J)
 |V::us,i+1,D,D',s,h,I,r,H=>by
  simp only[dr];have z:D' 0=D 0:=by rw[r 0];simp[CC]
  rw[z];exact oT (i:=i) (by simpa using h) I (λj=>by rw[r (j+1)];simp[CC]) (λj u y J M=>H (j+1) u (by simpa using y) (by omega) M)
theorem rr:∀ {r:List Oper} {us:List Upd} {u:List cU} {s z:St},Run Γ T all s r us u z->∀ (i:Nat) (o:Oper),r[i]?=some o ->
  ∃ U t,us[i]?=some U/\u[i]?=some t/\j8 Γ T all o (dr (λj=>decide (j<i)) us s) U t
 |[],_,_,_,_,_,i,o,h=>by simp at h
 |H::r,[],_,_,_,h,_,_,_=>h.elim
 |H::r,_::_,[],_,_,h,_,_,_=>h.elim
 |H::r,U::us,t::u,s,z,h,0,o,y=>by
  simp at y;subst y;exact⟨U,t,rfl,rfl,by rw[nQ (λj=>by simp)];exact h.1⟩
 |H::r,U::us,t::u,s,z,h,i+1,o,y=>by
  obtain⟨I,O,J,M,X⟩:=rr h.2 i o (by simpa using y);refine⟨I,O,by simpa using J,by simpa using M,?_⟩;simp only[dr];have e:(λj=>decide (j+1<i+1))=λj=>decide (j<i):=by funext j;simp
  rw[e];simpa using X
theorem vK:∀ {r:List Oper} {us:List Upd} {u:List cU} {s y:St},Run Γ T all s r us u y->us.length=r.length/\u.length=r.length/\y=dr (λ_=>true) us s
 |[],[],[],_,_,h=>⟨rfl,rfl,h⟩
 |[],_::_,_,_,_,h=>h.elim
 |[],[],_::_,_,_,h=>h.elim
 |_::_,[],_,_,_,h=>h.elim
 |_::_,_::_,[],_,_,h=>h.elim
 |o::r,U::us,t::u,s,y,h=>by
  obtain⟨z,H,I⟩:=vK h.2;exact⟨by simp[z],by simp[H],by simpa[dr]using I⟩
theorem ru {q:Nat}:∀ {os:List Oper} {us:List Upd} {H:List cU} {J s':St} {D:Nat->Bool} {F:Nat->Bool} {s sF:St} {B:Prop},Run Γ T all J os us H s'->(∀ (j:Nat) (t:cU),H[j]?=some t->F j=decide (q∈t.wr)) ->
  bQ (s q)=bQ (sF q)->(B->bQ (sF q)=bQ (J q)) ->
  (∀ (j:Nat) (t:cU) (U:Upd),H[j]?=some t->us[j]?=some U->D j=true->q∉t.wr->q∈U.map (·.1)->B/\∀ (k:Nat) (t':cU),k<j->H[k]?=some t'->q∈t'.wr->D k=true) ->
  bQ (dr D us s q)=bQ (dr (λj=>D j&&F j) us sF q)
 |[],[],[],_,_,_,_,_,_,_,_,_,I,_,_=>I
 |[],_::_,_,_,_,_,_,_,_,_,h,_,_,_,_=>h.elim
 |[],[],_::_,_,_,_,_,_,_,_,h,_,_,_,_=>h.elim
 |_::_,[],_,_,_,_,_,_,_,_,h,_,_,_,_=>h.elim
 |_::_,_::_,[],_,_,_,_,_,_,_,h,_,_,_,_=>h.elim
 |o::os,U::us,t::H,J,s',D,F,s,sF,B,h,hF,I,Y,M=>by
  obtain⟨⟨⟨k1,k2,k3⟩,_⟩,z⟩:=h;have y:=hF 0 t rfl;simp only[dr];refine ru (F:=λj=>F (j+1)) (B:=B/\(q∈t.wr->D 0=true)) z (λj t' ht=>hF (j+1) t' (by simpa using ht)) ?_ ?_ ?_
  ·by_cases r:q∈U.map (·.1)
   ·by_cases u:q∈t.wr
    ·rw[y,decide_eq_true u,C4];cases D 0 with
     |true=>simp only[cond_true];rw[jE s sF r]
     |false=>exact I
    ·rw[y,decide_eq_false u,Cv];simp only[cond_false];cases O:D 0 with
     |true =>
      simp only[cond_true];rw[jE s J r,k3 q r u];exact (Y (M 0 t U rfl rfl O u r).1).symm
     |false=>exact I
   ·have e:∀ (b:Bool) (x:St),(bif b then ac U x else x) q=x q:=by intro b x;cases b <;> simp[eV _ r]
    rw[e,e];exact I
  ·rintro⟨hB,O⟩;by_cases r:q∈U.map (·.1)
   ·by_cases u:q∈t.wr
    ·rw[y,decide_eq_true u,C4,O u];simp only[cond_true];rw[jE sF J r]
    ·rw[y,decide_eq_false u,Cv];simp only[cond_false];rw[k3 q r u];exact Y hB
   ·have e:∀ (b:Bool) (x:St),(bif b then ac U x else x) q=x q:=by intro b x;cases b <;> simp[eV _ r]
    rw[e,eV _ r];exact Y hB
  ·intro j t' U' ht hU O u r;obtain⟨g1,g2⟩:=M (j+1) t' U' (by simpa using ht) (by simpa using hU) O u r;exact⟨⟨g1,λZ=>g2 0 t (by omega) rfl Z⟩,λk t2 hk X a0=>g2 (k+1) t2 (by omega) (by simpa using X) a0⟩
theorem sg {f:Nat->Nat}{i:Nat}:∀ (l:List Edge) (s:Nat),(l.foldl (λs e=>bif Region.binds .any e then s ||| 2 ^ e.on ||| f e.on else s) s).testBit i=true ->
  s.testBit i=true\/∃ e∈l,Region.binds .any e=true/\(i=e.on\/(f e.on).testBit i=true)
 |[],s,h=>.inl h
 |e::l,s,h=>by
  simp only[DX]at h;rcases sg l _ h with h|⟨z,u,y⟩
  ·cases r:Region.binds .any e with
   |false=>rw[r]at h;exact .inl h
   |true =>
    rw[r]at h;simp only[cond_true,Nat.testBit_or,Cr]at h;rcases h with (h|h)|h
    ·exact .inl h
    ·refine .inr ⟨e,B9 ..,r,.inl ?_⟩;rw[Nat.testBit_two_pow]at h;exact (of_decide_eq_true h).symm
    ·exact .inr ⟨e,B9 ..,r,.inr h⟩
  ·exact .inr ⟨z,B8 _ u,y⟩
theorem um:∀ (z:List Oper) (r:List Nat),(∀ j,j<r.length->(j9 z r).getD j 0=r.getD j 0) /\
  ∀ (k:Nat) (o:Oper),z[k]?=some o->∃ u:List Nat,u.length=r.length+k/\(∀ j,j<u.length->u.getD j 0=(j9 z r).getD j 0) /\
   (j9 z r).getD (r.length+k) 0=o.after.toList.foldl (λs e=>bif Region.binds .any e then s ||| 2 ^ e.on ||| u.getD e.on 0 else s) 0
 |[],r=>⟨λ_ _=>rfl,λk o h=>by simp at h⟩
 |o::z,r=>by
  obtain⟨I,J⟩:=um z (r++[o.after.toList.foldl (λs e=>bif Region.binds .any e then s ||| 2 ^ e.on ||| r.getD e.on 0 else s) 0]);have y:∀ j,j<r.length->(j9 (o::z) r).getD j 0=r.getD j 0:=by
   intro j H;simp only[j9];rw[I j (by simp;omega)];simp[CI,CU H]
  refine⟨y,λk O h=>?_⟩;cases k with
  |zero =>
   simp at h;subst h;refine⟨r,rfl,λj H=>(y j H).symm,?_⟩;simp only[j9];rw[Nat.add_zero,I r.length (by simp)];simp[CI]
  |succ k =>
   obtain⟨u,M,X,Y⟩:=J k O (by simpa using h);refine⟨u,by simp at M;omega,λj H=>X j H,?_⟩;simp only[j9];have e:r.length+(k+1)=(r++[o.after.toList.foldl (λs e=>bif Region.binds .any e then s ||| 2 ^ e.on ||| r.getD e.on 0 else s) 0]).length+k:=by simp;omega
   rw[e];exact Y
theorem jN {ops:Array Oper}{D:Nat->Prop}(z:∀ (j:Nat) (o:Oper),ops[j]?=some o->D j->∀ e∈o.after.toList,Region.binds .any e=true->D e.on) :
  ∀ (n j:Nat),j<n->∀ (o:Oper),ops[j]?=some o->(∀ e∈o.after.toList,Region.binds .any e=true->D e.on)->∀ i,((j9 ops.toList []).getD j 0).testBit i=true->D i
 |0,_,h,_,_,_,_,_=>by omega
 |n+1,j,hj,o,I,O,i,Y=>by
  obtain⟨r,Z,h2,J⟩:=(um ops.toList []).2 j o (by simpa using I);simp only[List.length_nil,Ck]at Z J;rw[J]at Y;rcases sg (f:=λk=>r.getD k 0) _ _ Y with h|⟨e,X,M,y⟩
  ·simp at h
  ·rcases y with rfl|y
   ·exact O e X M
   ·have H:e.on<r.length:=by
     apply CV;intro hn;have:r.getD e.on 0=0:=by
      rw[CI,C9 (by omega)];rfl
     rw[this]at y;simp at y
    rw[h2 _ H]at y;have hD:=O e X M;have u:e.on<ops.size:=by
     have:=(Cw.1 I).1;omega
    exact jN z n e.on (by omega) ops[e.on] (CF u) (z e.on _ (CF u) hD) i y
theorem gi {a b:List Nat}(h:mf a b=false){q:Nat}(u:q∈a):q∉b:=by
 intro r;unfold mf at h;rw[C0]at h;have:=h q u;simp only[Cq,not_exists,not_and]at this;exact this q r (by simp)
theorem lI {r:List Nat}{z:List cU}(h:pL r z=true){i j:Nat}(u:i<j){x y:cU}(M:z[i]?=some x)(J:z[j]?=some y):(r.getD j 0).testBit i=true\/x.apart y=true:=by
 unfold pL at h;rw[CQ]at h;have O:=(CD.1 J).1;have H:=h j (by simpa using O);rw[CQ]at H;have I:=H i (by simpa using u);simp only[M,J,Cr]at I;exact I
theorem qA {p p':Nat->Bool}{i:Nat}(I:p i=true)(r:p' i=false)(h:∀ j,j≠i->p' j=p j):∀ (l:List Nat),l.Nodup->i∈l->l.countP p'+1=l.countP p
 |[],_,H=>by simp at H
 |x::l,z,H=>by
  rw[Cb]at z;by_cases u:x=i
  ·subst u;have e:l.countP p'=l.countP p:=by
    apply List.countP_congr;intro y J;rw[h y (λe=>z.1 (e ▸ J))]
   simp[I,r,e]
  ·have M:=qA I r h l z.2 ((CH.1 H).resolve_left (λe=>u e.symm));simp only[DT,h x u];omega
theorem BR (hV:ay V)(hT:TOk P T)(hΓ:∀ c∈Γ,bN P c){ops:Array Oper}(e0:∀ (i:Nat) (o:Oper),ops[i]?=some o->bU V o)
  (b4:∀ (i:Nat) (o:Oper),ops[i]?=some o->∀ j cb,o.guard=some (j,cb)->∀ s,(ops[j]?).bind (·.dst)=some s->s<V.nt) {Q:Exit->Act->World->Prop}
  {us:List Upd} {ts:List cU} {s0 s1:St} (a3:Run Γ T ops s0 ops.toList us ts s1) (a4:nW ops=true) (bx:pL (j9 ops.toList []) ts=true) (hQ:∀ a w,Rel P V s1 a w->Q .normal a w) :
  ∀ (a2:Nat) (r:Array Bool) (a:Act) (w:World),r.size=ops.size->(DZ ops.size).countP (λi=>!r.getD i true)=a2 ->
   (∀ (j:Nat) (o:Oper),ops[j]?=some o->r.getD j false=true->∀ e∈o.after.toList,Region.binds .any e=true->r.getD e.on false=true) ->
   Rel P V (dr (λj=>r.getD j false) us s0) a w->wpAny P .any ops Q a2 r a w:=by
 obtain⟨ed,eb,cx⟩:=vK a3;have ec:ops.toList.length=ops.size:=DG;have b5:∀ (r:Array Bool),r.size=ops.size->Region.ready .any ops r=[]->∀ i,i<ops.size->r.getD i false=true:=by
  intro r a0 hr i;induction i using DY with
  |ind i ih =>
   intro hi;cases hl:r.getD i false with
   |true=>rfl
   |false =>
    exfalso;have e7:r.getD i true=false:=by
     rw[CG,CF (by omega)]at hl ⊢;exact hl
    have ho:ops[i]?=some ops[i]:=CF hi;have bl:i∈Region.ready .any ops r:=by
     unfold Region.ready;rw[Cl];refine⟨by simpa using hi,?_⟩;rw[e7,ho];simp only[Da,DK,CT,DU];rw[Cn];intro e he;cases e4:Region.binds .any e with
     |false=>rfl
     |true =>
      simp only[Bool.not_true,Bool.false_or];have b9:e.on<i:=by
       unfold nW at a4;rw[CQ]at a4;have:=a4 i (by simpa using hi);simp only[ho]at this;rw[CQ]at this;have:=this e (by simpa using he);simpa[e4]using this
      exact ih e.on b9 (by omega)
    rw[hr]at bl;simp at bl
 have ba:∀ (r:Array Bool) (a:Act) (w:World),r.size=ops.size->Rel P V (dr (λj=>r.getD j false) us s0) a w->Region.ready .any ops r=[]->Q .normal a w:=by
  intro r a w a0 hr b6;refine hQ a w ?_;rw[cx];have:dr (λ_=>true) us s0=dr (λj=>r.getD j false) us s0:=mK (λj J=>(b5 r a0 b6 j (by omega)).symm);rw[this];exact hr
 intro a2;induction a2 with
 |zero =>
  intro r a w a0 O b1 hr;have b6:Region.ready .any ops r=[]:=by
   unfold Region.ready;rw[List.filter_eq_nil_iff];intro i hi hc;rw[DH]at O;have:=O i hi;simp only[B5]at hc;exact this hc.1
  exact⟨b6,ba r a w a0 hr b6⟩
 |succ a2 ih =>
  intro r a w a0 O b1 hr;refine⟨ba r a w a0 hr,λi hi=>?_⟩;unfold Region.ready at hi;rw[Cl]at hi;obtain⟨b0,c0⟩:=hi;have b0:i<ops.size:=by simpa using b0
  have ho:ops[i]?=some ops[i]:=CF b0;rw[ho]at c0;simp only[B5,Ce,CT,DU]at c0;obtain⟨b2,a7⟩:=c0;rw[Cn]at a7;have X:r.getD i false=false:=by
   rw[CG,CF (by omega)]at b2 ⊢;exact b2
  have cu:∀ e∈(ops[i]).after.toList,Region.binds .any e=true->r.getD e.on false=true:=by
   intro e he hb;have:=a7 e (by simpa using he);simpa[hb]using this
  obtain⟨U,t,hU,ht,a8⟩:=rr a3 i ops[i] (by simp);have b3:∀ (j:Nat) (o:Oper),ops[j]?=some o->(λk=>r.getD k false=true) j->∀ e∈o.after.toList,Region.binds .any e=true->(λk=>r.getD k false=true) e.on:=b1;obtain⟨e5,_,_⟩:=a8.1;have Y:∀ (j:Nat) (M:Upd),us[j]?=some M->∃ H,ts[j]?=some H/\(∀ q∈M.map (·.1),q∈H.wr\/q∈H.cw)/\∀ q∈H.wr,q∈M.map (·.1):=by
   intro j M J;have a5:j<ops.size:=by
    have:=(CD.1 J).1;omega
   obtain⟨U2,t2,h1,Z,h3⟩:=rr a3 j ops[j] (by simp[a5]);rw[J]at h1;cases h1;exact⟨t2,Z,h3.1.1,h3.1.2.1⟩
  have d1:∀ (j:Nat) (M:Upd),us[j]?=some M->j≠i->r.getD j false≠decide (j<i)->∃ H,ts[j]?=some H/\(∀ q∈M.map (·.1),q∈H.wr\/q∈H.cw)/\(H.apart t=true\/t.apart H=true):=by
   intro j M J a9 u;obtain⟨H,h1,Z,_⟩:=Y j M J;refine⟨H,h1,Z,?_⟩;rcases Nat.lt_or_gt_of_ne a9 with b9|dc
   ·have hl:r.getD j false=false:=by
     cases hl:r.getD j false with
     |false=>rfl
     |true=>rw[hl]at u;simp[b9]at u
    rcases lI bx b9 h1 ht with h3|h3
    ·have:=jN b3 (i+1) i (Cj _) ops[i] ho cu j h3;rw[hl]at this;cases this
    ·exact .inl h3
   ·have hl:r.getD j false=true:=by
     cases hl:r.getD j false with
     |true=>rfl
     |false=>rw[hl]at u;simp at u;omega
    have a5:j<ops.size:=by
     have:=(CD.1 J).1;omega
    have ad:ops[j]?=some ops[j]:=CF a5;rcases lI bx dc ht h1 with h3|h3
    ·have:=jN b3 (j+1) j (Cj _) ops[j] ad (b1 j _ ad hl) i h3;rw[X]at this;cases this
    ·exact .inr h3
  have a1:∀ (x y:cU),x.apart y=true->(∀ q,q∈x.wr\/q∈x.cw->(q∉y.wr/\q∉y.cw)/\q∉y.rd)/\(∀ q,q∈y.wr\/q∈y.cw->(q∉x.wr/\q∉x.cw)/\q∉x.rd)/\(∀ q∈x.wr,q∉y.hd)/\∀ q∈y.wr,q∉x.hd:=by
   intro x y h;unfold cU.apart at h;simp only[B5,Ce]at h;obtain⟨⟨⟨⟨h1,Z⟩,h3⟩,h4⟩,h5⟩:=h;refine⟨λq I=>?_,λq I=>?_,λq I=>gi h4 I,λq I hx=>gi h5 hx I⟩
   ·have I:=B4.2 I;have:=gi h1 I;simp only[B4,not_or]at this;exact⟨this,gi Z I⟩
   ·have I:=B4.2 I;have:q∉x.wr++x.cw:=λhx=>gi h1 hx I
    simp only[B4,not_or]at this;exact⟨this,λhx=>gi h3 hx I⟩
  have bb:∀ (j:Nat) (M:Upd),us[j]?=some M->j≠i->r.getD j false≠decide (j<i)->∀ q∈M.map (·.1),(q∉t.wr/\q∉t.cw)/\q∉t.rd:=by
   intro j M J a9 u q I;obtain⟨H,_,h1,Z⟩:=d1 j M J a9 u;rcases Z with Z|Z
   ·exact (a1 _ _ Z).1 q (h1 q I)
   ·exact (a1 _ _ Z).2.1 q (h1 q I)
  have bn:∀ (j:Nat) (H:cU),ts[j]?=some H->j≠i->r.getD j false≠decide (j<i)->∀ q∈H.wr,q∉t.hd:=by
   intro j H J a9 u q I;have a5:j<us.length:=by
    have:=(CD.1 J).1;omega
   obtain⟨t2,h0,_,Z⟩:=d1 j us[j] (CK a5) a9 u;rw[J]at h0;cases h0;rcases Z with Z|Z
   ·exact (a1 _ _ Z).2.2.1 q I
   ·exact (a1 _ _ Z).2.2.2 q I
  have d3:mJ Γ T ops ops[i] (dr (λj=>r.getD j false) us s0) U:=by
   refine a8.frame (λq I=>?_) (λq I=>?_)
   ·refine mL rfl λj M J cp=>?_
    by_cases z:j=i
    ·subst z;rw[X];simp
    ·apply CV;intro u;have:=bb j M J z u q cp;rcases I with I|I
     ·exact this.2 I
     ·exact this.1.1 I
   ·have c4:∀ (j:Nat) (H:cU),ts[j]?=some H->(λj=>match ts[j]? with|some H=>decide (q∈H.wr)|none=>false) j=decide (q∈H.wr):=λj H h=>by simp only[h]
    have e1:=ru (q:=q) (D:=λj=>r.getD j false) (F:=λj=>match ts[j]? with|some H=>decide (q∈H.wr)|none=>false) (s:=s0) (sF:=s0) (B:=True) a3 c4 rfl (λ_=>rfl) (λj H M J hU hD hw cc=>by
     refine⟨trivial,λk t2 hk c3 cy=>?_⟩;obtain⟨t3,h3,h4,_⟩:=Y j M hU;rw[J]at h3;cases h3;have e6:=(h4 q cc).resolve_left hw;have a5:j<ops.size:=by
      have:=(CD.1 hU).1;omega
     have ad:ops[j]?=some ops[j]:=CF a5;rcases lI bx hk c3 J with h5|h5
     ·exact jN b3 (j+1) j (Cj _) ops[j] ad (b1 j _ ad hD) k h5
     ·exact absurd e6 ((a1 _ _ h5).1 q (.inl cy)).1.2)
    have e2:=ru (q:=q) (D:=λj=>decide (j<i)) (F:=λj=>match ts[j]? with|some H=>decide (q∈H.wr)|none=>false) (s:=s0) (sF:=s0) (B:=True) a3 c4 rfl (λ_=>rfl) (λj H M J hU hD hw cc=>by
     refine⟨trivial,λk t2 hk c3 cy=>?_⟩;have:=of_decide_eq_true hD;exact decide_eq_true (by omega))
    rw[e1,e2];congr 1;refine mL rfl λj M J cp=>?_
    obtain⟨H,h1,Z,_⟩:=Y j M J;simp only[h1];by_cases hw:q∈H.wr
    ·rw[decide_eq_true hw,C4,C4];by_cases z:j=i
     ·subst z;rw[X];simp
     ·apply CV;intro u;exact bn j H h1 z u q hw I
    ·rw[decide_eq_false hw,Cv,Cv]
  refine w8 hV hT hΓ ho (e0 i _ ho) (b4 i _ ho) d3 hr λa' w' e3=>?_
  have a6:∀ (b:Bool) (j:Nat),(r.setIfInBounds i true).getD j b=if j=i then true else r.getD j b:=by
   intro b j;simp only[CG,Array.getElem?_setIfInBounds];by_cases z:j=i
   ·subst z;simp[a0,b0]
   ·rw[if_neg (λe=>z e.symm),if_neg z]
  refine ih _ a' w' (by simpa using a0) ?_ ?_ ?_
  ·have:=qA (p:=λj=>!r.getD j true) (p':=λj=>!(r.setIfInBounds i true).getD j true) (i:=i) (by simp[b2]) (by simp[a6]) (λj J=>by simp[a6,J]) (DZ ops.size) List.nodup_range (by simpa using b0);omega
  ·intro j o' J c1 e he hb;rw[a6]at c1 ⊢;by_cases c2:e.on=i
   ·rw[if_pos c2]
   ·rw[if_neg c2];by_cases z:j=i
    ·subst z;rw[ho]at J;cases J;exact cu e he hb
    ·rw[if_neg z]at c1;exact b1 j o' J c1 e he hb
  ·have d2:=oT (U:=U) (us:=us) (i:=i) (D:=λj=>r.getD j false) (D':=λj=>(r.setIfInBounds i true).getD j false) (s:=s0) hU X (λj=>by
     simp only[a6];by_cases z:j=i
     ·subst z;simp
     ·have:CC j i=false:=by
       cases hb:CC j i with
       |false=>rfl
       |true=>exact absurd (CA hb) z
      simp[z,this])
    (λj M J ef hD q I dd=>by
     have:=bb j M J (by omega) (by rw[hD];simp;omega) q dd;exact (e5 q I).elim this.1.1 this.1.2)
   rw[d2];exact e3
theorem BS (Z:ay V)(hT:TOk P T)(hΓ:∀ c∈Γ,bN P c)(O:P.follows .mixedOrders=true){id:Nat}{ops:Array Oper}{z:Bool}(M:∀ (i:Nat) (o:Oper),ops[i]?=some o->bU V o)
  (u:∀ (i:Nat) (o:Oper),ops[i]?=some o->∀ j X,o.guard=some (j,X)->∀ s,(ops[j]?).bind (·.dst)=some s->s<V.nt) {Q:Exit->Act->World->Prop} {κ:St->Option R} {r:R}
  (h:regK Γ T ops z st κ=some r) (hκ:∀ H,κ H=some r->∀ a w,Rel P V H a w->Q .normal a w) {a:Act} {w:World} (Y:Rel P V st a w):(Code.region id ops z).wp P Q a w:=by
 unfold regK at h;cases z with
 |true =>
  simp only[cond_true]at h;obtain⟨us,ts,H,y,I⟩:=pD _ _ _ _ _ h;simp only[CZ]at I;cases J:nW ops&&pL (j9 ops.toList []) ts with
  |false=>simp[J]at I
  |true =>
   simp only[J,cond_true]at I;simp only[B5]at J;refine wp_region_any O ?_;have hD:∀ j,(Cc ops.size false).getD j false=false:=by
    intro j;simp only[CG,C5];split <;> rfl
   refine BR Z hT hΓ M u y J.1 J.2 (hκ H I) ops.size (Cc ops.size false) a _ (by simp) ?_ ?_ ?_
   ·rw[List.countP_eq_length.2]
    ·simp
    ·intro i hi;have hi:i<ops.size:=by simpa using hi
     simp[CG,C5,hi]
   ·intro j o' _ hl;rw[hD]at hl;cases hl
   ·rw[nQ (λj=>hD j)];obtain⟨W,Y⟩:=Y;exact⟨W,Y.world Z (w':={ w with drawn:=w.drawn+1 }) (DC _) rfl rfl rfl (λ_ _=>rfl)⟩
 |false =>
  simp only[cond_false]at h;obtain⟨us,ts,H,y,I⟩:=pD _ _ _ _ _ h;refine wp_region ?_;have:=vJ Z hT hΓ M u ops.toList 0 st us ts H (by simp) y (hκ H I) a w Y;rw[DG,<- List.range_eq_range']at this;exact this
end
section
variable {P:Program} {V:Env} {Γ:List Ctr} {T:TypeId->TI} {st st':St} {o:Oper} {R:Type} {all:Array Oper}
theorem lj (live:List Nat):∀ (cs:List Coe) (ls:List Leaf),(di st live cs ls).length=ls.length
 |[],[]=>rfl
 |_::_,[]=>rfl
 |[],_::ls=>by simp[di,lj live [] ls]
 |_::cs,_::ls=>by simp[di,lj live cs ls]
theorem pE (live:List Nat):∀ (cs:List Coe) (ls:List Leaf) (j:Nat) (l:Leaf),(di st live cs ls)[j]?=some l->∃ r,ls[j]?=some r/\(l=.dead\/∃ c,l=bC st live c r)
 |[],[],j,l,h=>by simp[di]at h
 |_::_,[],j,l,h=>by simp[di]at h
 |[],r::ls,0,l,h=>by simp[di]at h;exact⟨r,rfl,.inl h.symm⟩
 |c::cs,r::ls,0,l,h=>by simp[di]at h;exact⟨r,rfl,.inr ⟨c,h.symm⟩⟩
 |[],r::ls,j+1,l,h=>by
  simp only[di,C6]at h;obtain⟨z,u,y⟩:=pE live [] ls j l h;exact⟨z,by simpa using u,y⟩
 |c::cs,r::ls,j+1,l,h=>by
  simp only[di,C6]at h;obtain⟨z,u,y⟩:=pE live cs ls j l h;exact⟨z,by simpa using u,y⟩
theorem Bc (live:List (Nat×List Coe))(q:Nat):mg live st q=bX.none/\q∉live.map (·.1)\/∃ y,mg live st q=⟨0,(st q).sh,di st (live.map (·.1)) y (st q).ls⟩/\q∈live.map (·.1):=by
 have H:∀ (u:List Nat) (l:List (Nat×List Coe)),(av (l.map λr=>(r.1,⟨0,(st r.1).sh,di st u r.2 (st r.1).ls⟩)) q=bX.none/\q∉l.map (·.1)) \/
   ∃ y,av (l.map λr=>(r.1,⟨0,(st r.1).sh,di st u r.2 (st r.1).ls⟩)) q=⟨0,(st q).sh,di st u y (st q).ls⟩/\q∈l.map (·.1):=by
  intro u l;induction l with
  |nil=>exact .inl ⟨rfl,by simp⟩
  |cons x l O =>
   obtain⟨r,y⟩:=x;by_cases h:q=r
   ·subst h;exact .inr ⟨y,by simp[av,ac],by simp⟩
   ·have z:CC q r=false:=by
     cases z:CC q r with
     |false=>rfl
     |true=>exact absurd (CA z) h
    rcases O with ⟨I,J⟩|⟨M,I,J⟩
    ·refine .inl ⟨?_,by simpa[h]using J⟩;rw[<- I];simp[av,ac,z]
    ·refine .inr ⟨M,?_,by simp only[CR,CH];exact .inr J⟩;rw[<- I];simp[av,ac,z]
 exact H (live.map (·.1)) live
theorem yG {keys:List Nat}{c:Coe}{r:Leaf}(h:ao (bC st keys c r)):ao r\/r=.nil:=by
 cases r with
 |own p u E e y=>exact .inl trivial
 |nil=>exact .inr rfl
 |_ =>
  exfalso;revert h;cases c <;> simp only[bC] <;> first
   |exact id
   |(cases (!_||_:Bool) <;> first | exact id | (split <;> exact id))
   |(cases (_&&_:Bool) <;> exact id)
   |(cases (List.any _ _:Bool) <;> exact id)
   |(cases (List.all _ _:Bool) <;> exact id)
theorem jd.nw {W W':Wit}{w:World}{c:Bool×Bool×(a:Ty)×a.den}{u:Value}(r:∀ k,W.nw k->W'.nw k)(h:jd V W w c u):jd V W' w c u:=by
 have z:∀ (p:Bool) k,gd V W p k->gd V W' p k:=λp k hk=>hk.imp (r k) id
 unfold jd at h ⊢;split at h
 ·rename_i I;rw[if_pos I];obtain⟨b,ob,g,Y,Z,X,J,y,M,H,O⟩:=h;exact⟨b,ob,g,Y,Z,X,J.imp (r b) id,y,M.imp (r g) id,Rd.mono (z _) H,O⟩
 ·rename_i I;rw[if_neg I];obtain⟨g,Y,Z,X,M,H,O⟩:=h;exact⟨g,Y,Z,X,M.imp (r g) id,Rd.mono (z _) H,O⟩
theorem xa {W W':Wit}{w:World}{keys:List Nat}{bs bs':List Nat}{c:Coe}{M:Leaf}{v:Value}(h:aK P V W st w bs M v)
  (J:∀ k,W.nw k->W'.nw k) (hβ:W'.β=W.β) (a5:∀ q,keys.any (CC q)=true->W'.cs q=W.cs q) (I:∀ b,keys.any (CC b)=true->(st b).sh=.agg->(st' b).sh=.agg)
  (a2:ao M->bs'=bs) (a1:M=.nil->bs'=[]) (a3:ao M->¬ ao (bC st keys c M)->(∃ p E e,c=.ro p E e)->∀ k∈bs,W'.nw k) :
  aK P V W' st' w bs' (bC st keys c M) v:=by
 have z:∀ (p q:Bool),(!q||p)=true->∀ k,gd V W q k->gd V W' p k:=by
  intro p q a6 k H;rcases H with H|⟨X,H⟩
  ·exact .inl (J k H)
  ·refine .inr ⟨?_,H⟩;subst X;simpa using a6
 cases c with
 |kill=>simp only[bC];trivial
 |keep =>
  cases M with
  |int k n=>exact h
  |bool b=>exact h
  |str s=>exact h
  |nil=>exact h
  |hdr n=>exact h
  |fn As B φ=>exact h
  |clr f O =>
   obtain⟨us,X,h2,h3⟩:=h;exact⟨us,X,h2,λi c u g1 g2=>(h3 i c u g1 g2).nw J⟩
  |al r j n =>
   simp only[bC];cases y:keys.any (CC r)&&CC (st r).ver n with
   |false=>trivial
   |true =>
    simp only[B5]at y;exact⟨DV _,λ_=>by rw[a5 r y.1];exact h.2 (CA y.2)⟩
  |bp b off =>
   simp only[bC];cases y:keys.any (CC b) with
   |false=>trivial
   |true =>
    obtain⟨X,h2,h3⟩:=h;exact⟨X,I b y h2,by rw[hβ];exact h3⟩
  |clo f O =>
   simp only[bC];cases y:O.all (λb=>keys.any (CC b)) with
   |false=>trivial
   |true =>
    obtain⟨X,h2⟩:=h;rw[CQ]at y;exact⟨by rw[hβ];exact X,λb a0=>⟨(h2 b a0).1,I b (y b a0) (h2 b a0).2⟩⟩
  |_=>simp only[bC];trivial
 |own p E e =>
  cases M with
  |nil =>
   have hv:v=.slice none 0 0:=h;subst hv;rw[a1 rfl];exact OwH.nil w _ E e
  |own q hh E' e' xs =>
   cases hh with
   |some x=>simp only[bC];trivial
   |none =>
    simp only[bC];cases y:(!q||p) with
    |false=>trivial
    |true =>
     rw[a2 trivial];exact OwH.carry h (z p q y) (λ_ _=>rfl) (λ_ _=>rfl)
  |_=>simp only[bC];trivial
 |ro p E e =>
  cases M with
  |nil =>
   have hv:v=.slice none 0 0:=h;subst hv;exact Rd.nil w _ false E e
  |ro q E' e' xs =>
   simp only[bC];cases y:(!q||p) with
   |false=>trivial
   |true =>
    simp only[cond_true];split
    ·rename_i ys Z;exact Rd.castSh (m:=false) (m':=false) (E:=E) Z (Rd.mono (z p q y) h)
    ·trivial
  |own q hh E' e' xs =>
   cases hh with
   |some x=>simp only[bC];trivial
   |none =>
    have a7:=a3 trivial (by
     simp only[bC];cases (!q||p) with
     |false=>exact id
     |true=>simp only[cond_true];split <;> exact id) ⟨p,E,e,rfl⟩
    simp only[bC];cases y:(!q||p) with
    |false=>trivial
    |true =>
     simp only[cond_true];split
     ·rename_i ys Z;refine Rd.castSh (m:=false) (m':=false) (E:=E) (E':=E') Z (Rd.mono (λk H=>?_) (OwH.rd (m:=false) (E':=E') h));rcases H with H|H
      ·exact z p q y k H
      ·exact .inl (a7 k H)
     ·trivial
  |_=>simp only[bC];trivial
 |rp p =>
  cases M with
  |rpp q a x =>
   simp only[bC];cases y:(!q||p) with
   |false=>trivial
   |true =>
    obtain⟨b,ob,g,o',c,hv,a4,Y,hg,hr,Z⟩:=h;exact⟨b,ob,g,o',c,hv,a4.imp (J b) id,Y,hg.imp (J g) id,Rd.mono (z p q y) hr,Z⟩
  |rp q a x off =>
   simp only[bC];cases y:(!q||p) with
   |false=>trivial
   |true =>
    obtain⟨g,o',c,hv,hg,hr,Z⟩:=h;exact⟨g,o',c,hv,hg.imp (J g) id,Rd.mono (z p q y) hr,Z⟩
  |_=>simp only[bC];trivial
open Classical in
theorem vL (_hV:ay V){a:Act}{w:World}(h:Rel P V st a w)(live:List (Nat×List Coe))(a9:∀ x∈V.fixb,x.1∈live.map (·.1)):Rel P V (mg live st) a w:=by
 obtain⟨W,h⟩:=h;have J:=Bc (st:=st) live;have X:∀ b,Go.Proofs.YtadlacffdemoiaaGreatEv.live (mg live st) b->Go.Proofs.YtadlacffdemoiaaGreatEv.live st b:=by
  rintro b ⟨y,z⟩;rcases J b with ⟨e,_⟩|⟨cs,e,_⟩
  ·rw[e]at z;cases z
  ·rw[e]at z;exact⟨y,z⟩
 have a2:∀ (q j:Nat) (l:Leaf),(mg live st q).ls[j]?=some l->q∈live.map (·.1)/\∃ r,(st q).ls[j]?=some r/\(l=.dead\/∃ c,l=bC st (live.map (·.1)) c r):=by
  intro q j l Y;rcases J q with ⟨e,_⟩|⟨cs,e,H⟩
  ·rw[e]at Y;simp[bX.none]at Y
  ·rw[e]at Y;exact⟨H,pE _ _ _ _ _ Y⟩
 have b3:∀ (q j:Nat) (l:Leaf),(mg live st q).ls[j]?=some l->ao l->∃ r,(st q).ls[j]?=some r/\(ao r\/r=.nil):=by
  intro q j l Y ho;obtain⟨_,r,y,z⟩:=a2 q j l Y;rcases z with rfl|⟨c,rfl⟩
  ·exact ho.elim
  ·exact⟨r,y,yG ho⟩
 have a0:∀ b,(live.map (·.1)).any (CC b)=true->b∈live.map (·.1):=λb O=>by
  rw[Cq]at O;obtain⟨x,hx,he⟩:=O;rw[CA he];exact hx
 let I:Nat->Nat->List Nat:=λq j=>if (∃ r,(st q).ls[j]?=some r/\ao r) then W.bs q j else []
 let a1:Nat->Prop:=λk=>W.nw k\/∃ q j r l,(st q).ls[j]?=some r/\ao r/\(mg live st q).ls[j]?=some l/\¬ ao l/\k∈W.bs q j
 have Z:∀ (q j k:Nat),k∈I q j->(∃ r,(st q).ls[j]?=some r/\ao r)/\k∈W.bs q j:=by
  intro q j k M;by_cases hc:∃ r,(st q).ls[j]?=some r/\ao r
  ·simp only[I,if_pos hc]at M;exact⟨hc,M⟩
  ·simp only[I,if_neg hc]at M;simp at M
 refine⟨{ β:=W.β,cs:=λq=>if q∈live.map (·.1) then W.cs q else [],bs:=I,nw:=a1 },?_⟩
 exact {
  nt:=h.nt,df:=h.df
  slots:=λt ht=>by
   rcases J t with ⟨e,H⟩|⟨cs,e,H⟩
   ·rw[e];simp[H,bX.none,ey]
   ·rw[e];simp only[H,if_true];exact h.slots t ht
  boxes:=λb O=>by
   rcases J b with ⟨e,H⟩|⟨cs,e,H⟩
   ·rw[e];exact .inl ⟨rfl,rfl⟩
   ·rw[e];rcases h.boxes b O with ⟨y,z⟩|⟨y,E,z⟩
    ·exact .inl ⟨y,by rw[z];exact List.eq_nil_of_length_eq_zero (by rw[lj];rfl)⟩
    ·exact .inr ⟨y,E,by simp only[H,if_true];exact z⟩
  len:=λq=>by
   rcases J q with ⟨e,H⟩|⟨cs,e,H⟩
   ·rw[e];simp[H,bX.none]
   ·rw[e];simp only[H,if_true,lj];exact h.len q
  one:=λq u hu=>by
   by_cases H:q∈live.map (·.1)
   ·simp only[H,if_true]at hu;exact h.one q u hu
   ·simp only[H,if_false]at hu;simp at hu
  leaf:=λq j l v Y hv=>by
   obtain⟨H,r,y,z⟩:=a2 q j l Y;simp only[H,if_true]at hv;have ad:=h.leaf q j r v y hv;rcases z with rfl|⟨c,rfl⟩
   ·trivial
   ·refine xa (st:=st) (W:=W) (W':={ β:=W.β,cs:=λq=>if q∈live.map (·.1) then W.cs q else [],bs:=I,nw:=a1 }) (keys:=live.map (·.1)) ad (λk M=>Or.inl M) rfl (λq hq=>if_pos (a0 q hq)) ?_ ?_ ?_ ?_
    ·intro b O a7;have a3:=a0 b O;rcases J b with ⟨_,b2⟩|⟨cs,e,_⟩
     ·exact absurd a3 b2
     ·rw[e];exact a7
    ·intro ho;show I q j=_;simp only[I,if_pos (⟨r,y,ho⟩:∃ r,(st q).ls[j]?=some r/\ao r)]
    ·intro e;show I q j=_;have hc:¬ ∃ r,(st q).ls[j]?=some r/\ao r:=by
      rintro⟨l1,h3,h4⟩;rw[y,e]at h3;cases h3;exact h4.elim
     simp only[I,if_neg hc]
    ·intro ho hn _ k M;exact .inr ⟨q,j,r,_,y,ho,Y,hn,M⟩
  ownb:=λq j l Y ho k M=>by
   obtain⟨⟨r,y,z⟩,h3⟩:=Z q j k M;obtain⟨q1,q2,q3⟩:=h.ownb q j r y z k h3;refine⟨?_,q2,λb O=>q3 b (X b O)⟩;rintro (hn|⟨q',j',l1,l2,h4,h5,h6,h7,h8⟩)
   ·exact q1 hn
   ·obtain⟨rfl,rfl⟩:=h.sep q j r q' j' l1 y z h4 h5 k h3 h8;rw[Y]at h6;cases h6;exact h7 ho
  sep:=λq j l q' j' l' _ _ _ _ k M a8=>by
   obtain⟨⟨r,y,z⟩,h3⟩:=Z q j k M;obtain⟨⟨b1,b0,a6⟩,a5⟩:=Z q' j' k a8;exact h.sep q j r q' j' b1 y z b0 a6 k h3 a5
  box:=λb O=>by
   obtain⟨q1,q2⟩:=h.box b (X b O);refine⟨?_,q2⟩;rintro (hn|⟨q',j',l1,l2,h4,h5,h6,h7,h8⟩)
   ·exact q1 hn
   ·exact (h.ownb q' j' l1 h4 h5 _ h8).2.2 b (X b O) rfl
  inj:=λb b' O a4=>h.inj b b' (X b O) (X b' a4)
  nwlt:=λk M=>by
   rcases M with hn|⟨q',j',l1,l2,h4,h5,h6,h7,h8⟩
   ·exact h.nwlt k hn
   ·exact⟨h.own_lt h4 h5 k h8,(h.ownb q' j' l1 h4 h5 k h8).2.1⟩
  os:=h.os,tape:=h.tape,output:=h.output,size:=h.size,keep:=h.keep
  fixb:=λx hx=>by
   obtain⟨⟨y,z⟩,h3⟩:=h.fixb x hx;refine⟨⟨y,?_⟩,h3⟩;rcases J x.1 with ⟨_,H⟩|⟨cs,e,_⟩
   ·exact absurd (a9 x hx) H
   ·rw[e];exact z
  fixt:=h.fixt }
def exOf:Ex->Exit
 |.normal=>.normal
 |.exit id=>.exit id
 |.ret=>.ret
theorem mM {nt:Nat}{fix:List Nat}(u:V.nt=nt)(r:∀ x∈V.fixt,x.1∈fix)(h:lO nt fix all o=true):bU V o:=by
 intro d I;simp only[lO,I,B5,Ce,C0]at h;obtain⟨⟨z,H⟩,_⟩:=h;refine⟨by rw[u];simpa[Cm]using z,λx y e=>?_⟩;exact H _ (r x y) (by simp[e])
end
section
variable {P:Program} {V:Env} {Γ:List Ctr} {T:TypeId->TI} {R:Type}
open Classical in
theorem un {Q:Exit->Act->World->Prop}{a:Act}{w:World}{c:Code}(J:Nat->Act->World->Prop)(h0:∃ n,J n a w)(hz:∀ a w,¬ J 0 a w)
  (y:∀ n a w,J (n+1) a w->c.wp P (Exit.then (J n) Q) a w):(Code.loop c).wp P Q a w:=by
 have u:∀ (a:Act) (w:World) (n:Nat),J n a w->∃ m,J m a w/\m<=n/\∀ k,J k a w->m<=k:=by
  intro a w n;induction n using DY with
  |ind n ih =>
   intro z;by_cases h:∃ k,k<n/\J k a w
   ·obtain⟨k,M,hJ⟩:=h;obtain⟨m,r,I,O⟩:=ih k M hJ;exact⟨m,r,by omega,O⟩
   ·refine⟨n,z,DC _,λk M=>?_⟩;apply CV;intro a0;exact h ⟨k,by omega,M⟩
 let H:Act->World->Nat:=λa w=>if h:∃ m,J m a w/\∀ k,J k a w->m<=k then h.choose else 0
 have hμ:∀ a w n,J n a w->J (H a w) a w/\H a w<=n:=by
  intro a w n z;obtain⟨m,r,_,O⟩:=u a w n z;have h:∃ m,J m a w/\∀ k,J k a w->m<=k:=⟨m,r,O⟩;have e:H a w=h.choose:=by simp only[H];rw[dif_pos h]
  rw[e];exact⟨h.choose_spec.1,h.choose_spec.2 n z⟩
 refine wp_loop (λa w=>∃ n,J n a w) H h0 λa w ⟨n,z⟩=>?_
 obtain⟨r,_⟩:=hμ a w n z;cases X:H a w with
 |zero=>rw[X]at r;exact absurd r (hz a w)
 |succ m =>
  rw[X]at r;refine wp_mono (y m a w r) λe Y w' Z=>?_
  cases e with
  |normal =>
   have I:J m Y w':=Z;exact⟨⟨m,I⟩,Nat.lt_succ_of_le (hμ Y w' m I).2⟩
  |_=>exact Z
theorem zS {st:St}{a:Act}{w:World}(u:Rel P V st a w){t:Nat}(y:t<GH){b:Bool}(H:(st t).sh=.one)(I:(st t).ls=[.bool b]):a.eval (.tmp t)=.bool b:=by
 obtain⟨W,u⟩:=u;have r:=u.slots t y;rw[H]at r;have r:W.cs t=[a.tmps.getD t undef]:=r;have z:=u.leaf t 0 (.bool b) (a.tmps.getD t undef) (by rw[I];rfl) (by rw[r];rfl);exact z
theorem sO (hV:ay V)(hT:TOk P T)(hΓ:∀ c∈Γ,bN P c)(a2:P.follows .mixedOrders=true){fx:List Nat}(a5:∀ x∈V.fixb,x.1∈fx){nt:Nat}{fix:List Nat}(a1:V.nt=nt)(a4:∀ x∈V.fixt,x.1∈fix)
  {L:List (Nat×List (Nat×List Coe))} {X:Nat}:∀ (c:Code),d6 nt fix c=true->dz L fx c=true->∀ (st:St) (I:Ex->St->Option R) (r:R) (Q:Exit->Act->World->Prop),evK Γ T L X c st I=some r ->
   (∀ ex J,I ex J=some r->∀ a w,Rel P V J a w->Q (exOf ex) a w)->∀ a w,Rel P V st a w->c.wp P Q a w:=by
 intro c;induction c with
 |skip=>exact λ_ _ st I r Q h z a w u=>wp_skip (z .normal st h a w u)
 |region id a3 a6 =>
  intro hc hlp st I r Q h z a w u;simp only[d6,CQ]at hc;have a0:∀ (i:Nat) (o:Oper),a3[i]?=some o->lO nt fix a3 o=true:=λi o hi=>hc o (by simpa using DA hi)
  refine BS hV hT hΓ a2 (λi o hi=>mM a1 a4 (a0 i o hi)) (λi o hi j a7 hg s hs=>?_) h (λJ H a w u=>z .normal J H a w u) u;have:=a0 i o hi;simp only[lO,hg,hs,B5]at this;rw[a1];simpa[Cm]using this.2
 |seq x y Z Y =>
  intro hc hlp st I r Q h z a w u;simp only[d6,B5]at hc;simp only[dz,B5]at hlp;simp only[evK]at h;refine wp_seq (Z hc.1 hlp.1 st _ r _ h (λex J H a w u=>?_) a w u);cases ex with
  |normal=>exact Y hc.2 hlp.2 J I r Q H z a w u
  |exit id=>exact z (.exit id) J H a w u
  |ret=>exact z .ret J H a w u
 |cond t x y Z Y =>
  intro hc hlp st I r Q h z a w u;simp only[d6,B5]at hc;simp only[dz,B5]at hlp;simp only[evK]at h;unfold zZ at h;split at h
  ·rename_i t;split at h
   ·rename_i b H h2;have hv:=zS u (DM (by have:=hc.1.1;simp only[xf,Cm]at this;rw[a1];exact this) hV.nt) H h2;cases b with
    |true =>
     simp only[cond_true]at h;rw[pC H h2]at h;exact wp_cond_true hv (Z hc.1.2 hlp.1 st I r Q h z a w u)
    |false =>
     simp only[cond_false]at h;rw[pC H h2]at h;exact wp_cond_false hv (Y hc.2 hlp.2 st I r Q h z a w u)
   ·cases h
  ·rename_i b;cases b with
   |true=>exact wp_cond_true rfl (Z hc.1.2 hlp.1 st I r Q h z a w u)
   |false=>exact wp_cond_false rfl (Y hc.2 hlp.2 st I r Q h z a w u)
  ·cases h
 |block id c ih =>
  intro hc hlp st I r Q h z a w u;simp only[d6]at hc;simp only[dz]at hlp;simp only[evK]at h;refine wp_block (ih hc hlp st _ r _ h (λex J H a w u=>?_) a w u);cases ex with
  |normal=>exact z .normal J H a w u
  |exit M =>
   simp only[sS]at H;show if M=id then Q .normal a w else Q (.exit M) a w
   by_cases e:M=id
   ·rw[if_pos e];subst e;simp only[Nat.beq_refl,cond_true]at H;exact z .normal J H a w u
   ·rw[if_neg e];have hb:CC M id=false:=by
     cases hb:CC M id with
     |false=>rfl
     |true=>exact absurd (CA hb) e
    rw[hb]at H;exact z (.exit M) J H a w u
  |ret=>exact z .ret J H a w u
 |loop c ih =>
  intro hc hlp st I r Q h z a w u;simp only[d6]at hc;simp only[dz,B5,CQ]at hlp;simp only[evK]at h;have O:∀ x∈V.fixb,x.1∈(lN L (fb c)).map (·.1):=λx hx=>by
   obtain⟨r,u,he⟩:=Cq.1 (hlp.1 x.1 (a5 x hx));exact CE.2 ⟨r,u,CA he⟩
  refine un (λn a w=>∃ st,aX (lN L (fb c)) (evK Γ T L X c) n st I=some r/\Rel P V st a w) ⟨X,_,h,vL hV u _ O⟩ ?_ ?_
  ·rintro a w ⟨st,H,_⟩;cases H
  ·rintro n a w ⟨st,H,u⟩;simp only[aX]at H;refine ih hc hlp.2 st _ r _ H (λex J h2 a w u=>?_) a w u;cases ex with
   |normal=>exact⟨_,h2,vL hV u _ O⟩
   |exit id=>exact z (.exit id) J h2 a w u
   |ret=>exact z .ret J h2 a w u
 |exit id=>exact λ_ _ st I r Q h z a w u=>wp_exit (z (.exit id) st h a w u)
 |ret=>exact λ_ _ st I r Q h z a w u=>wp_ret (z .ret st h a w u)
 |_=>intro _ _ st I r Q h;simp[evK]at h
end
section
variable {P:Program} {Γ:List Ctr} {T:TypeId->TI} {R:Type} {w:World} {ro pr:Nat->Prop}
theorem jp {G:Nat->Prop}{p:Bool}:∀ {b:Ty} {h:Option Nat} {pos:Nat} {x:b.den} {cs:List Value} {bs:List Nat},Mx w G b h pos x cs bs->bs.Nodup ->
  ∃ a2:Nat->List Nat,
   (∀ (V:Env) (W:Wit) (st:St),(∀ k,G k->gd V W p k)->∀ (j:Nat) (l:Leaf) (u:Value),h≠some (pos+j)->(aq p b x)[j]?=some l->cs[j]?=some u->aK P V W st w (a2 j) l u) /\
   (∀ (j:Nat) (l:Leaf),h≠some (pos+j)->(aq p b x)[j]?=some l->ao l->∀ k∈a2 j,k∈bs) /\
   (∀ (j J:Nat) (l l':Leaf),h≠some (pos+j)->h≠some (pos+J)->(aq p b x)[j]?=some l->ao l->(aq p b x)[J]?=some l'->ao l'->∀ k,k∈a2 j->k∈a2 J->j=J)
 |.int k,_,_,x,cs,bs,H,_=>by
  obtain⟨rfl,rfl⟩:=H;exact⟨λ_=>[],λV W st _ j l u _ y X=>by cases j with|zero=>simp[aq]at y X;subst y;subst X;rfl|succ j=>simp[aq]at y,λj l _ y _ k r=>by simp at r,λj J l l' _ _ _ _ _ _ k r=>by simp at r⟩
 |.bool,_,_,x,cs,bs,H,_=>by
  obtain⟨rfl,rfl⟩:=H;exact⟨λ_=>[],λV W st _ j l u _ y X=>by cases j with|zero=>simp[aq]at y X;subst y;subst X;rfl|succ j=>simp[aq]at y,λj l _ y _ k r=>by simp at r,λj J l l' _ _ _ _ _ _ k r=>by simp at r⟩
 |.str,_,_,x,cs,bs,H,_=>by
  obtain⟨rfl,rfl⟩:=H;exact⟨λ_=>[],λV W st _ j l u _ y X=>by cases j with|zero=>simp[aq]at y X;subst y;subst X;rfl|succ j=>simp[aq]at y,λj l _ y _ k r=>by simp at r,λj J l l' _ _ _ _ _ _ k r=>by simp at r⟩
 |.unit,_,_,x,cs,bs,H,_=>by
  obtain⟨rfl,rfl⟩:=H;exact⟨λ_=>[],λV W st _ j l u _ y X=>by simp[aq]at y,λj l _ y _ k r=>by simp at r,λj J l l' _ _ _ _ _ _ k r=>by simp at r⟩
 |.hdr,_,_,x,cs,bs,H,_=>by
  obtain⟨⟨A,a7,rfl⟩,rfl⟩:=H;exact⟨λ_=>[],λV W st _ j l u _ y X=>by cases j with|zero=>simp[aq]at y X;subst y;subst X;exact⟨A,a7,rfl⟩|succ j=>simp[aq]at y,λj l _ y _ k r=>by simp at r,λj J l l' _ _ _ _ _ _ k r=>by simp at r⟩
 |.pair b c,h,pos,x,cs,bs,⟨c1,c2,b1,b2,e1,e2,y,X⟩,Y=>by
  subst e1;subst e2;rw[Ch]at Y;obtain⟨d1,f2,f3,f4⟩:=jp y Y.1;obtain⟨d2,g2,g3,g4⟩:=jp X Y.2.1;have a9:=cQ p b x.1;have a8:=y.len;have I:∀ (j:Nat) (l:Leaf),(aq p b x.1++aq p c x.2)[j]?=some l->(j<b.cells/\(aq p b x.1)[j]?=some l)\/(b.cells<=j/\(aq p c x.2)[j-b.cells]?=some l):=by
   intro j l z;by_cases M:j<b.cells
   ·rw[CU (by omega)]at z;exact .inl ⟨M,z⟩
   ·rw[CS (by omega),a9]at z;exact .inr ⟨by omega,z⟩
  have a1:∀ j,b.cells<=j->h≠some (pos+j)->h≠some (pos+b.cells+(j-b.cells)):=λj z hh=>by rwa [show pos+b.cells+(j-b.cells)=pos+j by omega]
  refine⟨λj=>if j<b.cells then d1 j else d2 (j-b.cells),λV W st hG j l u hh z hu=>?_,λj l hh z ho k r=>?_,λj J l l' hh a3 z ho Z a4 k r O=>?_⟩
  ·rcases I j l z with ⟨M,z⟩|⟨a0,z⟩
   ·rw[CU (by omega)]at hu;simp only[if_pos M];exact f2 V W st hG j l u hh z hu
   ·rw[CS (by omega),a8]at hu;simp only[if_neg (show ¬ j<b.cells by omega)];exact g2 V W st hG _ l u (a1 j a0 hh) z hu
  ·rcases I j l z with ⟨M,z⟩|⟨a0,z⟩
   ·simp only[if_pos M]at r;exact B6 _ (f3 j l hh z ho k r)
   ·simp only[if_neg (show ¬ j<b.cells by omega)]at r;exact B7 _ (g3 _ l (a1 j a0 hh) z ho k r)
  ·rcases I j l z with ⟨M,z⟩|⟨a0,z⟩ <;> rcases I J l' Z with ⟨a6,Z⟩|⟨a5,Z⟩
   ·simp only[if_pos M]at r;simp only[if_pos a6]at O;exact f4 j J l l' hh a3 z ho Z a4 k r O
   ·simp only[if_pos M]at r;simp only[if_neg (show ¬ J<b.cells by omega)]at O;exact absurd rfl (Y.2.2 k (f3 j l hh z ho k r) k (g3 _ l' (a1 J a5 a3) Z a4 k O))
   ·simp only[if_neg (show ¬ j<b.cells by omega)]at r;simp only[if_pos a6]at O;exact absurd rfl (Y.2.2 k (f3 J l' a3 Z a4 k O) k (g3 _ l (a1 j a0 hh) z ho k r))
   ·simp only[if_neg (show ¬ j<b.cells by omega)]at r;simp only[if_neg (show ¬ J<b.cells by omega)]at O;have:=g4 _ _ l l' (a1 j a0 hh) (a1 J a5 a3) z ho Z a4 k r O;omega
 |.list m E e,h,pos,xs,cs,bs,H,Y=>by
  cases m with
  |false =>
   rw[cB]at H;obtain⟨rfl,A,a7,rfl,X,h3⟩:=H;refine⟨λ_=>[],λV W st hG j l u _ y h4=>?_,λj l _ y _ k r=>by simp at r,λj J l l' _ _ _ _ _ _ k r=>by simp at r⟩;cases j with
   |zero =>
    simp[aq]at y h4;subst y;subst h4;exact Rd.mono hG (⟨A,a7,rfl,X,h3⟩:Rd w G (.list false E e) xs _)
   |succ j=>simp[aq]at y
  |true =>
   refine⟨λ_=>bs,λV W st hG j l u hh y h4=>?_,λj l _ y _ k r=>r,λj J l l' _ _ y _ h3 _ k _ _=>?_⟩
   ·cases j with
    |zero =>
     rw[Nat.add_zero]at hh;rw[bP hh]at H;obtain⟨v,rfl,hO⟩:=H;simp[aq]at y h4;subst y;subst h4;exact⟨Y,OwB.shy (hO.carry hG (λ_ _=>rfl) (λ_ _=>rfl))⟩
    |succ j=>simp[aq]at y
   ·have h7:j<1:=by simpa[aq]using (CD.1 y).1
    have h8:J<1:=by simpa[aq]using (CD.1 h3).1
    omega
theorem mN {p:Bool}{off:Nat}:∀ {a:Ty} {pos:Nat} {x:a.den} {E:TypeId} {e:Ty} {xs:List e.den},bg off a pos x=some ⟨E,e,xs⟩->(aq p a x)[off-pos]?=some (.own (p&&e.shy) none E e xs)
 |.pair a b,pos,x,E,e,xs,h=>by
  have H:=cQ p a x.1;simp only[bg]at h;simp only[aq];split at h
  ·rename_i u z;simp only[B3]at h;subst h;have y:=gO z;rw[CU (by omega)];exact mN z
  ·have y:=gO h;rw[CS (by omega),H,show off-pos-a.cells=off-(pos+a.cells) by omega];exact mN h
 |.list m I M,pos,J,E,e,xs,h=>by
  simp only[bg]at h;cases r:m&&CC pos off with
  |false=>simp[r]at h
  |true =>
   rw[r]at h;simp only[cond_true,B3,Sigma.mk.injEq]at h;obtain⟨rfl,h⟩:=h;simp only[B5]at r;obtain⟨rfl,r⟩:=r;have r:=CA r;subst r;rw[heq_eq_eq,Sigma.mk.injEq]at h;obtain⟨rfl,h⟩:=h;rw[heq_eq_eq]at h;subst h;simp[aq]
 |.int _,_,_,_,_,_,h=>by simp[bg]at h
 |.bool,_,_,_,_,_,h=>by simp[bg]at h
 |.str,_,_,_,_,_,h=>by simp[bg]at h
 |.unit,_,_,_,_,_,h=>by simp[bg]at h
 |.hdr,_,_,_,_,_,h=>by simp[bg]at h
theorem uo (V:Env)(W:Wit)(I:V.ro0=ro)(r:V.prot=pr):∀ {cs:List (Bool×Ty)} {x:ma cs} {us:List Value},jZ w ro pr cs x us->us.length=(kk true cs x).length /\
  ∀ (i:Nat) (c:Bool×Bool×(a:Ty)×a.den) (u:Value),(kk true cs x)[i]?=some c->us[i]?=some u->jd V W w c u
 |[],_,us,h=>by
  have h:us=[]:=h;subst h;exact⟨rfl,λi c u z _=>by simp[kk]at z⟩
 |c::cs,x,us,⟨u,a0,e,z,h2⟩=>by
  subst e;obtain⟨i1,i2⟩:=uo V W I r h2;refine⟨by simp[kk,i1],λi c' u' Y h4=>?_⟩;cases i with
  |succ i=>exact i2 i c' u' (by simpa[kk]using Y) (by simpa using h4)
  |zero =>
   simp[kk]at Y h4;subst Y;subst h4;have hG:∀ k,ro k->gd V W true k:=λk hk=>.inr ⟨rfl,by rw[I];exact hk⟩
   unfold jd;unfold ib at z;split at z
   ·rename_i H;simp only[H,if_true];obtain⟨b,ob,g,o,J,hv,O,y,X,M,Z⟩:=z;exact⟨b,ob,g,o,J,hv,.inr (by rw[r];exact O),y,.inr (by rw[r];exact X),M.mono hG,Z⟩
   ·rename_i H;have H:c.1=false:=by simpa using H
    simp only[H,Cu,if_false];obtain⟨g,o,J,hv,X,M,Z⟩:=z;exact⟨g,o,J,by rw[hv];rfl,.inr (by rw[r];exact X),M.mono hG,Z⟩
structure Ent where
 r:Nat
 c:bX
 cs:List Value
 bs:Nat->List Nat
 bl:List Nat
 g:Nat
structure qB (P:Program) (w:World) (ro pr:Nat->Prop) (bx:List (Nat×Nat)) (e:Ent):Prop where
 len:e.c.ls.length=e.cs.length
 one:∀ u∈e.cs,u.oneCell'=true
 leaf:∀ (V:Env) (W:Wit) (st:St),V.w0=w->V.ro0=ro->V.prot=pr->(∀ z∈bx,B0<=z.1/\(st z.1).sh=.agg/\W.β z.1=z.2)->∀ (j:Nat) (l:Leaf) (u:Value),e.c.ls[j]?=some l->e.cs[j]?=some u->aK P V W st w (e.bs j) l u
 own:∀ (j:Nat) (l:Leaf),e.c.ls[j]?=some l->ao l->∀ k∈e.bs j,k∈e.bl
 sep:∀ (j j':Nat) (l l':Leaf),e.c.ls[j]?=some l->ao l->e.c.ls[j']?=some l'->ao l'->∀ k,k∈e.bs j->k∈e.bs j'->j=j'
 box:B0<=e.r->e.c.sh=.agg/\e.g∈e.bl/\(∀ (j:Nat) (l:Leaf),e.c.ls[j]?=some l->ao l->e.g∉e.bs j)/\(∃ E,w.heap[e.g]?=some (.cells e.cs.toArray E (0,0)))/\(e.r,e.g)∈bx
theorem qB.mono {y r:List (Nat×Nat)}{e:Ent}(h:qB P w ro pr y e)(u:∀ z∈y,z∈r):qB P w ro pr r e :=
  { len:=h.len,one:=h.one,own:=h.own,sep:=h.sep
    leaf:=λV W st M O Z h4=>h.leaf V W st M O Z (λz hz=>h4 z (u z hz))
    box:=λX=>by obtain⟨Y,I,J,H,q5⟩:=h.box X;exact⟨Y,I,J,H,u _ q5⟩ }
structure xb (P:Program) (w:World) (ro pr:Nat->Prop) (t:Nat) (pk:PK) (v:Value) (b:List Nat) (bx:List (Nat×Nat)) (es:List Ent):Prop where
 bl:es.flatMap (·.bl)=b
 ok:∀ e∈es,qB P w ro pr bx e
 at_:∀ e∈es,e.r=t\/e.r=B0+t
 nod:(es.map (·.r)).Nodup
 slot:∃ e∈es,e.r=t/\ey e.c.sh v e.cs
 bxs:∀ z∈bx,z.1=B0+t/\(∃ e∈es,e.r=B0+t/\e.g=z.2)
theorem uq (t n:Nat){a:Ty}{x:a.den}{v:Value}{cs:List Value}{b:List Nat}(M:b.Nodup)(h1:dn a.isAgg v cs)(I:Mx w ro a none 0 x cs b)(a0:t<B0) :
    ∃ Z,xb P w ro pr t (.own a) v b [] Z/\[((t,⟨n,bm a.isAgg,aq true a x⟩):Nat×bX)]=Z.map (λe=>(e.r,e.c)):=by
  obtain⟨J,m1,m2,m3⟩:=jp (P:=P) (p:=true) I M;have H:∀ j,(none:Option Nat)≠some (0+j):=λj=>by simp
  refine⟨[⟨t,⟨n,bm a.isAgg,aq true a x⟩,cs,J,b,0⟩],⟨by simp,?_,by simp,by simp,⟨_,CO _,rfl,ky h1⟩,by simp⟩,rfl⟩;intro e Y;simp only[Ca]at Y;subst Y
  exact { len := by show (aq true a x).length = _; rw [cQ, I.len]
          one:=I.one
          leaf:=λV W st _ O _ _ j l u y z=>m1 V W st (λk hk=>.inr ⟨rfl,by rw[O];exact hk⟩) j l u (H j) y z
          own:=λj l y z=>m2 j l (H j) y z
          sep:=λj X l l' y z h5 h6=>m3 j X l l' (H j) (H X) y z h5 h6
          box:=λhr=>absurd hr (by show ¬ B0<=t;omega) }
theorem ou (t:Nat){l:Leaf}{v:Value}{pk:PK}(a0:t<B0)(J:¬ ao l)(h1:v.oneCell'=true)(z:∀ (V:Env) (W:Wit) (st:St),V.w0=w->V.ro0=ro->V.prot=pr->aK P V W st w [] l v) :
    ∃ es,xb P w ro pr t pk v [] [] es/\[((t,⟨0,.one,[l]⟩):Nat×bX)]=es.map (λe=>(e.r,e.c)):=by
  refine⟨[⟨t,⟨0,.one,[l]⟩,[v],λ_=>[],[],0⟩],⟨by simp,?_,by simp,by simp,⟨_,CO _,rfl,rfl⟩,by simp⟩,rfl⟩;intro e he;simp only[Ca]at he;subst he;have M:∀ (j:Nat) (y:Leaf),[l][j]?=some y->j=0/\y=l:=λj y X=>by
    cases j with
    |zero=>simp at X;exact⟨rfl,X.symm⟩
    |succ j=>simp at X
  exact { len := rfl
          one:=λu Z=>by simp at Z;subst Z;exact h1
          leaf:=λV W st hw O Y _ j y u I H=>by
            obtain⟨rfl,rfl⟩:=M j y I;simp at H;subst H;exact z V W st hw O Y
          own:=λj y I H=>by obtain⟨_,rfl⟩:=M j y I;exact absurd H J
          sep:=λj j' l1 l2 I H=>by obtain⟨_,rfl⟩:=M j l1 I;exact absurd H J
          box:=λhr=>absurd hr (by show ¬ B0<=t;omega) }
def ur:Value->Nat
 |.pointer (some a)=>a.block
 |_=>0
def er (t:Nat):List PK->List Value->List (Nat×Nat)
 |.iop _::r,v::u=>(B0+t,ur v)::er (t+1) r u
 |_::r,_::u=>er (t+1) r u
 |_,_=>[]
def eu (t:Nat):List PK->List Value->List (Nat×Value)
 |.io _::r,v::u=>(t,v)::eu (t+1) r u
 |.iop _::r,v::u=>(t,v)::eu (t+1) r u
 |_::r,_::u=>eu (t+1) r u
 |_,_=>[]
def PK.bx (t:Nat)(v:Value):PK->List (Nat×Nat)
 |.iop _=>[(B0+t,ur v)]
 |_=>[]
theorem BT (t:Nat)(a0:t<B0){pk:PK}{ps:List PK}{x:ab (pk::ps)}{v:Value}{b:List Nat}(a1:b.Nodup)(h:ol P w ro pr pk x.1 v b) :
    ∃ es,xb P w ro pr t pk v b (pk.bx t v) es/\dj t (pk::ps) x=es.map (λe=>(e.r,e.c))++dj (t+1) ps x.2:=by
  cases pk with
  |rd a =>
    obtain⟨rfl,cs,h1,h2⟩:=h;refine⟨[⟨t,⟨0,bm a.isAgg,cR true a x.1⟩,cs,λ_=>[],[],0⟩],⟨by simp,?_,by simp,by simp,⟨_,CO _,rfl,ky h1⟩,by simp[PK.bx]⟩,rfl⟩;intro e he;simp only[Ca]at he;subst he;have a8:∀ (V:Env) (W:Wit) (st:St),V.ro0=ro->aD P V W st w (cR true a x.1) cs:=λV W st I=>fm (G:=ro) (λk J=>.inr ⟨rfl,by rw[I];exact J⟩) h2
    have a9:∀ (j:Nat) (l:Leaf),(cR true a x.1)[j]?=some l->¬ ao l:=λj l M=>by
      have hl:=hH true a x.1;have hc:=h2.len;have bb:=(CD.1 M).1;exact ((a8 ⟨w,ro,[],0,[],[]⟩ ⟨λ_=>0,λ_=>[],λ_ _=>[],λ_=>False⟩ (λ_=>bX.none) rfl).at_ j l _ M (CK (by omega))).2.1
    exact { len := by show (cR true a x.1).length = _; rw [hH, h2.len]
            one:=h2.one
            leaf:=λV W st _ I _ _ j l u y H=>((a8 V W st I).at_ j l u y H).1
            own:=λj l y H=>absurd H (a9 j l y)
            sep:=λj j' l l' y H=>absurd H (a9 j l y)
            box:=λhr=>absurd hr (by show ¬ B0<=t;omega) }
  |own a =>
    obtain⟨cs,h1,h2⟩:=h;obtain⟨es,y,H⟩:=uq (P:=P) (pr:=pr) t 0 a1 h1 h2 a0;exact⟨es,⟨y.bl,y.ok,y.at_,y.nod,y.slot,y.bxs⟩,by rw[<- H];rfl⟩
  |io a =>
    obtain⟨cs,h1,h2⟩:=h;obtain⟨es,y,H⟩:=uq (P:=P) (pr:=pr) t 7 a1 h1 h2 a0;exact⟨es,⟨y.bl,y.ok,y.at_,y.nod,y.slot,y.bxs⟩,by rw[<- H];rfl⟩
  |rref a =>
    obtain⟨rfl,h⟩:=h;unfold ib at h;rw[if_neg (by simp)]at h;obtain⟨g,o,c,hv,hg,hr,hc⟩:=h;subst hv;obtain⟨es,y,H⟩:=ou (P:=P) (w:=w) (ro:=ro) (pr:=pr) t (pk:=.rref a) (l:=.rp true a x.1 0) (v:=.pointer (some ⟨g,o,none⟩)) a0 id rfl (λV W st hw I X=>⟨g,o,c,rfl,.inr (by rw[X];exact hg),hr.mono (λk J=>.inr ⟨rfl,by rw[I];exact J⟩),hc⟩);exact⟨es,y,by rw[<- H];rfl⟩
  |rref2 a =>
    obtain⟨rfl,h⟩:=h;unfold ib at h;rw[if_pos rfl]at h;obtain⟨b,ob,g,o,c,hv,hb,a6,hg,hr,hc⟩:=h;subst hv;obtain⟨es,y,H⟩:=ou (P:=P) (w:=w) (ro:=ro) (pr:=pr) t (pk:=.rref2 a) (l:=.rpp true a x.1) (v:=.pointer (some ⟨b,ob,none⟩)) a0 id rfl (λV W st hw I X=>⟨b,ob,g,o,c,rfl,.inr (by rw[X];exact hb),a6,.inr (by rw[X];exact hg),hr.mono (λk J=>.inr ⟨rfl,by rw[I];exact J⟩),hc⟩);exact⟨es,y,by rw[<- H];rfl⟩
  |fn As B =>
    obtain⟨rfl,h⟩:=h;have b6:v.oneCell'=true:=by
      obtain⟨f,ba,e,_⟩:=h;rw[e];rfl
    obtain⟨es,y,H⟩:=ou (P:=P) (w:=w) (ro:=ro) (pr:=pr) t (pk:=.fn As B) (l:=.fn As B x.1) (v:=v) a0 id b6 (λV W st hw I X=>by
      show iC P V.w0 V.prot As B x.1 v;rw[hw,X];exact h)
    exact⟨es,y,by rw[<- H];rfl⟩
  |clo f cs =>
    obtain⟨rfl,us,e,h⟩:=h;subst e;obtain⟨es,y,H⟩:=ou (P:=P) (w:=w) (ro:=ro) (pr:=pr) t (pk:=.clo f cs) (l:=.clr f (kk true cs x.1)) (v:=.func (.func f) #[] us.toArray) a0 id rfl (λV W st hw I X=>by
      obtain⟨i1,i2⟩:=uo V W I X h;exact⟨us,rfl,i1,i2⟩)
    exact⟨es,y,by rw[<- H];rfl⟩
  |iop a =>
    obtain⟨g,c,E,b0,hv,hg,hm,rfl⟩:=h;subst hv;rw[Cb]at a1;obtain⟨a5,m1,m2,m3⟩:=jp (P:=P) (p:=true) hm a1.2;have hn:∀ j,(none:Option Nat)≠some (0+j):=λj=>by simp
    have Y:t≠B0+t:=by simp[B0]
    refine⟨[⟨t,⟨0,.one,[.bp (B0+t) 0]⟩,[.pointer (some ⟨g,0,none⟩)],λ_=>[],[],0⟩,⟨B0+t,⟨0,.agg,aq true a x.1⟩,c,a5,g::b0,g⟩],
      ⟨by simp,?_,λe he=>by simp at he;rcases he with rfl|rfl <;> simp,by rw[CR,CR,Db,Cb];exact⟨by simpa using Y,by simp⟩,⟨_,B9 ..,rfl,rfl⟩,λz hz=>?_⟩,rfl⟩
    · intro e he
      simp only[CH,List.not_mem_nil,or_false]at he;rcases he with rfl|rfl
      · have h0:∀ (j:Nat) (l':Leaf),[Leaf.bp (B0+t) 0][j]?=some l'->j=0/\l'=.bp (B0+t) 0:=λj l' M=>by
          cases j with
          |zero=>simp at M;exact⟨rfl,M.symm⟩
          |succ j=>simp at M
        exact { len := rfl
                one:=λu hu=>by simp at hu;subst hu;rfl
                leaf:=λV W st hw I X hb j l' u y H=>by
                  obtain⟨rfl,rfl⟩:=h0 j l' y;simp at H;subst H;obtain⟨q1,q2,q3⟩:=hb (B0+t,g) (CO _);exact⟨q1,q2,by rw[q3]⟩
                own:=λj l' y H=>by obtain⟨_,rfl⟩:=h0 j l' y;exact H.elim
                sep:=λj j' l1 l2 y H=>by obtain⟨_,rfl⟩:=h0 j l1 y;exact H.elim
                box:=λhr=>absurd hr (by show ¬ B0<=t;omega) }
      · exact { len := by show (aq true a x.1).length = _; rw [cQ, hm.len]
                one:=hm.one
                leaf:=λV W st _ I _ _ j l u y H=>m1 V W st (λk J=>.inr ⟨rfl,by rw[I];exact J⟩) j l u (hn j) y H
                own:=λj l y H k J=>B8 _ (m2 j l (hn j) y H k J)
                sep:=λj j' l l' y H h5 h6=>m3 j j' l l' (hn j) (hn j') y H h5 h6
                box:=λ_=>⟨rfl,B9 ..,λj l y H J=>a1.1 (m2 j l (hn j) y H g J),⟨E,hg⟩,CO _⟩ }
    · simp only[PK.bx,Ca]at hz
      subst hz;exact⟨rfl,_,B8 _ (CO _),rfl,rfl⟩
  |hol a c off =>
    obtain⟨cs,u,b0,b1,E,e,xs,h1,h2,y,H,h5,h6⟩:=h;have a2:=bB.1 a1;have a7:b0.Nodup:=bB.2 λk=>by have:=a2 k;have:=h6 k;omega
    have b3:b1.Nodup:=bB.2 λk=>by have:=a2 k;have:=h6 k;omega
    have a4:∀ k,k∈b0->k∉b1:=λk J Z=>by
      have:=a2 k;have:=h6 k;have:=CP.2 J;have:=CP.2 Z;omega
    have b5:∀ k∈b0,k∈b:=λk J=>CP.1 (by have:=h6 k;have:=CP.2 J;omega)
    have b2:∀ k∈b1,k∈b:=λk J=>CP.1 (by have:=h6 k;have:=CP.2 J;omega)
    obtain⟨a5,m1,m2,m3⟩:=jp (P:=P) (p:=true) h2 a7;have Y:∀ j,j≠c->(some c:Option Nat)≠some (0+j):=λj M=>by simp;omega
    have b4:=mN (p:=true) H;rw[Nat.sub_zero]at b4;have b9:(aq true a x.1.1).getD c .dead=.own (true&&e.shy) none E e xs:=by rw[CI,b4];rfl
    refine⟨[⟨t,⟨0,bm a.isAgg,aT (aq true a x.1.1) c (.own (true&&e.shy) (some (x.1.2,off)) E e xs)⟩,cs,λj=>if j=c then b1 else a5 j,b,0⟩],
      ⟨by simp,?_,by simp,by simp,⟨_,CO _,rfl,ky h1⟩,by simp[PK.bx]⟩,?_⟩
    · intro en he
      simp only[Ca]at he;subst he;have O:∀ (j:Nat) (l:Leaf),(aT (aq true a x.1.1) c (.own (true&&e.shy) (some (x.1.2,off)) E e xs))[j]?=some l->(j=c/\l=.own (true&&e.shy) (some (x.1.2,off)) E e xs)\/(j≠c/\(aq true a x.1.1)[j]?=some l):=by
        intro j l M;rcases aR _ _ _ _ _ M with ⟨q1,q2,_⟩|⟨q1,q2⟩
        · exact .inl ⟨q1,q2⟩
        · exact .inr ⟨q1,q2⟩
      exact { len := by show (aT (aq true a x.1.1) c _).length = _; simp only [aT, List.length_set]; rw [cQ, h2.len]
              one:=h2.one
              leaf:=λV W st _ I _ _ j l u' h7 h8=>by
                have h8:cs[j]?=some u':=h8;rcases O j l h7 with ⟨rfl,rfl⟩|⟨M,h7⟩
                · rw[y]at h8
                  simp only[B3]at h8;subst h8;simp only[if_true];exact⟨b3,OwB.shy (p:=true) (h5.carry (λk J=>.inr ⟨rfl,by rw[I];exact J⟩) (λ_ _=>rfl) (λ_ _=>rfl))⟩
                · simp only[if_neg M]
                  exact m1 V W st (λk J=>.inr ⟨rfl,by rw[I];exact J⟩) j l u' (Y j M) h7 h8
              own:=λj l h7 h8 k J=>by
                rcases O j l h7 with ⟨rfl,rfl⟩|⟨M,h7⟩
                · simp only[if_true]at J;exact b2 k J
                · simp only[if_neg M]at J;exact b5 k (m2 j l (Y j M) h7 h8 k J)
              sep:=λj j' l l' h7 h8 h9 ad k J Z=>by
                rcases O j l h7 with ⟨rfl,rfl⟩|⟨M,h7⟩ <;> rcases O j' l' h9 with ⟨rfl,rfl⟩|⟨a3,h9⟩
                · rfl
                · simp only[if_true]at J;simp only[if_neg a3]at Z
                  exact absurd J (a4 k (m2 j' l' (Y j' a3) h9 ad k Z))
                · simp only[if_neg M]at J;simp only[if_true]at Z
                  exact absurd Z (a4 k (m2 j l (Y j M) h7 h8 k J))
                · simp only[if_neg M]at J;simp only[if_neg a3]at Z
                  exact m3 j j' l l' (Y j M) (Y j' a3) h7 h8 h9 ad k J Z
              box:=λhr=>absurd hr (by show ¬ B0<=t;omega) }
    · show (t,(⟨0,bm a.isAgg,aT (aq true a x.1.1) c (u5 x.1.2 off ((aq true a x.1.1).getD c .dead))⟩:bX))::dj (t+1) ps x.2=_
      rw[b9];rfl
theorem ut:∀ {ps:List PK} {x:ab ps} {u:List Value} {r:List (List Nat)},dl P w ro pr ps x u r->u.length=ps.length
 |[],_,_,_,h=>by rw[h.1];rfl
 |_::_,_,_,_,⟨_,_,_,_,e,_,_,h⟩=>by rw[e,Cg,Cg,ut h]
theorem vM:∀ (ps:List PK) (x:ab ps) (Z:List Value) (H:List (List Nat)) (t:Nat),dl P w ro pr ps x Z H->H.flatten.Nodup->t+ps.length<=B0 ->
  ∃ X:List Ent,dj t ps x=X.map (λe=>(e.r,e.c))/\X.flatMap (·.bl)=H.flatten/\(∀ e∈X,qB P w ro pr (er t ps Z) e) /\
   (∀ e∈X,(t<=e.r/\e.r<t+ps.length)\/(B0+t<=e.r/\e.r<B0+t+ps.length))/\(X.map (·.r)).Nodup /\
   (∀ (i:Nat) (v:Value),Z[i]?=some v->∃ e∈X,e.r=t+i/\ey e.c.sh v e.cs)/\(∀ z∈er t ps Z,∃ e∈X,e.r=z.1/\e.g=z.2/\B0<=z.1)
 |[],x,Z,H,t,⟨e1,e2⟩,_,_=>by
  subst e1;subst e2;exact⟨[],rfl,rfl,by simp,by simp,by simp,λi v h=>by simp at h,by simp[er]⟩
 |pk::ps,x,Z,H,t,⟨v,O,b,a1,e1,e2,h1,h2⟩,M,hB=>by
  subst e1;subst e2;rw[CJ,Ch]at M;simp only[Cg]at hB;obtain⟨a3,J,p2⟩:=BT t (by omega) (ps:=ps) (x:=x) M.1 h1;obtain⟨a4,q1,q2,q3,q4,q5,q6,q7⟩:=vM ps x.2 O a1 (t+1) h2 M.2.1 (by omega);have a0:er t (pk::ps) (v::O)=pk.bx t v++er (t+1) ps O:=by cases pk <;> rfl
  refine⟨a3++a4,by rw[p2,q1,Cs],by rw[List.flatMap_append,J.bl,q2,CJ],λe y=>?_,λe y=>?_,?_,λi u hi=>?_,λz I=>?_⟩
  ·rw[a0];rcases B4.1 y with y|y
   ·exact (J.ok e y).mono (λz I=>B6 _ I)
   ·exact (q3 e y).mono (λz I=>B7 _ I)
  ·simp only[Cg];rcases B4.1 y with y|y
   ·rcases J.at_ e y with h|h <;> omega
   ·rcases q4 e y with h|h <;> omega
  ·rw[Cs,Ch];refine⟨J.nod,q5,λa ha b' a2 e0=>?_⟩;subst e0;obtain⟨e,y,rfl⟩:=CE.1 ha;obtain⟨e',a5,e1⟩:=CE.1 a2;rcases J.at_ e y with h|h <;> rcases q4 e' a5 with h'|h' <;> omega
  ·cases i with
   |zero =>
    simp at hi;subst hi;obtain⟨e,y,h3,Y⟩:=J.slot;exact⟨e,B6 _ y,by omega,Y⟩
   |succ i =>
    obtain⟨e,y,h3,Y⟩:=q6 i u (by simpa using hi);exact⟨e,B7 _ y,by omega,Y⟩
  ·rw[a0]at I;rcases B4.1 I with I|I
   ·obtain⟨h3,e,y,Y,h5⟩:=J.bxs z I;exact⟨e,B6 _ y,by rw[Y,h3],h5,by rw[h3];exact Nat.le_add_right _ _⟩
   ·obtain⟨e,y,Y,h5,h6⟩:=q7 z I;exact⟨e,B7 _ y,Y,h5,h6⟩
def gw (w:World)(ro:Nat->Prop)(ps:List PK)(u:List Value)(r:List (List Nat))(nt:Nat):Env:=⟨w,ro,r.flatten,nt,er 0 ps u,eu 0 ps u⟩
theorem ov:∀ {I:List Ent},(I.flatMap (·.bl)).Nodup->∀ e∈I,∀ H∈I,∀ k,k∈e.bl->k∈H.bl->e=H
 |[],_,e,M,_,_,_,_,_=>by simp at M
 |x::I,r,e,M,H,O,k,J,u=>by
  rw[List.flatMap_cons,Ch]at r;rcases CH.1 M with y|y <;> rcases CH.1 O with z|z
  ·rw[y,z]
  ·rw[y]at J;exact absurd rfl (r.2.2 k J k (CM.2 ⟨H,z,u⟩))
  ·rw[z]at u;exact absurd rfl (r.2.2 k u k (CM.2 ⟨e,y,J⟩))
  ·exact ov r.2.1 e y H z k J u
theorem yH:∀ {I:List Ent},(I.map (·.r)).Nodup->∀ e∈I,∀ H∈I,e.r=H.r->e=H
 |[],_,e,J,_,_,_=>by simp at J
 |x::I,u,e,J,H,O,M=>by
  rw[CR,Cb]at u;rcases CH.1 J with z|z <;> rcases CH.1 O with y|y
  ·rw[z,y]
  ·exact absurd (CE.2 ⟨H,y,by rw[<- M,z]⟩) u.1
  ·exact absurd (CE.2 ⟨e,z,by rw[M,y]⟩) u.1
  ·exact yH u.2 e z H y M
theorem si:∀ (u:List Ent) (q:Nat),(av (u.map λe=>(e.r,e.c)) q=bX.none/\u.find? (λe=>e.r==q)=none)\/∃ e∈u,e.r=q/\u.find? (λe=>e.r==q)=some e/\av (u.map λe=>(e.r,e.c)) q=e.c
 |[],q=>.inl ⟨rfl,rfl⟩
 |e::u,q=>by
  by_cases h:e.r=q
  ·refine .inr ⟨e,B9 ..,h,by simp[h],?_⟩;simp[av,ac,h]
  ·have z:CC q e.r=false:=by
    cases z:CC q e.r with
    |false=>rfl
    |true=>exact absurd (CA z).symm h
   have J:av ((e::u).map λe=>(e.r,e.c)) q=av (u.map λe=>(e.r,e.c)) q:=by simp[av,ac,z]
   have X:(e::u).find? (λe=>e.r==q)=u.find? (λe=>e.r==q):=by simp[h]
   rw[J,X];rcases si u q with y|⟨O,y,H,I,M⟩
   ·exact .inl y
   ·exact .inr ⟨O,B8 _ y,H,I,M⟩
theorem vN:∀ {ps:List PK} {r:List Value} {t:Nat} {z:Nat×Value},z∈eu t ps r->∃ i,z.1=t+i/\r[i]?=some z.2
 |[],_,_,_,h=>by simp[eu]at h
 |u::ps,[],_,_,h=>by cases u <;> simp[eu]at h
 |u::ps,v::r,t,z,h=>by
  have:z=(t,v)\/z∈eu (t+1) ps r:=by cases u <;> simp[eu]at h <;> first|exact h|exact .inr h
  rcases this with rfl|h
  ·exact⟨0,rfl,rfl⟩
  ·obtain⟨i,H,y⟩:=vN h;exact⟨i+1,by omega,by simpa using y⟩
theorem vO {ps:List PK}{x:ab ps}{O:List Value}{J:List (List Nat)}{nt:Nat}(h:dl P w ro (λk=>k<w.heap.size/\k∉J.flatten) ps x O J)(a3:J.flatten.Nodup)
  (c1:ps.length<=nt) (hB:nt<=GH):Rel P (gw w ro ps O J nt) (av (dj 0 ps x)) { tmps:=O.toArray++Cc (nt-O.length) undef,defers:=[] } w:=by
 have c0:=ut h;have c2:GH<=B0:=by decide
 obtain⟨Y,q1,q2,q3,q4,q5,q6,q7⟩:=vM ps x O J 0 h a3 (by omega);rw[q1];have b9:=si Y;have a5:∀ e∈Y,∀ H∈Y,e.r=H.r->e=H:=by
  intro e he H bb hr;exact yH q5 e he H bb hr
 rw[<- q2]at a3;have a0:∀ e∈Y,∀ k∈e.bl,k∈J.flatten:=λe he k hk=>by rw[<- q2];exact CM.2 ⟨e,he,hk⟩
 have hE:∀ q,(av (Y.map λe=>(e.r,e.c)) q=bX.none/\Y.find? (λe=>e.r==q)=none)\/∃ e∈Y,e.r=q/\Y.find? (λe=>e.r==q)=some e/\av (Y.map λe=>(e.r,e.c)) q=e.c:=b9;have a1:∀ q,live (av (Y.map λe=>(e.r,e.c))) q->∃ e∈Y,e.r=q/\B0<=e.r/\Y.find? (λe=>e.r==q)=some e:=by
  rintro q ⟨h1,h2⟩;rcases hE q with ⟨I,_⟩|⟨e,I,y,h5,M⟩
  ·rw[I]at h2;cases h2
  ·exact⟨e,I,y,by rw[y];exact h1,h5⟩
 let β:Nat->Nat:=λq=>match Y.find? (λe=>e.r==q) with|some e=>e.g|none=>0
 let cs:Nat->List Value:=λq=>match Y.find? (λe=>e.r==q) with|some e=>e.cs|none=>[]
 let bs:Nat->Nat->List Nat:=λq j=>match Y.find? (λe=>e.r==q) with|some e=>e.bs j|none=>[]
 have a7:∀ z∈er 0 ps O,B0<=z.1/\(av (Y.map λe=>(e.r,e.c)) z.1).sh=.agg/\β z.1=z.2:=by
  intro z hz;obtain⟨e,he,h1,h2,I⟩:=q7 z hz;refine⟨I,?_⟩;rcases hE z.1 with ⟨_,y⟩|⟨H,y,h5,M,Z⟩
  ·exfalso;rw[DN]at y;exact y e he (by simp[h1])
  ·have:H=e:=a5 H y e he (by rw[h5,h1]);subst this;rw[Z];exact⟨((q3 H he).box (by rw[h1];exact I)).1,by simp only[β,M];exact h2⟩
 refine⟨{ β:=β,cs:=cs,bs:=bs,nw:=λ_=>False },?_⟩;have b6:(gw w ro ps O J nt).prot=λk=>k<w.heap.size/\k∉J.flatten:=rfl
 exact {
  nt:=by show (O.toArray++Cc (nt-O.length) undef).size=nt;simp;omega
  df:=rfl
  slots:=λt ht=>by
   show ey _ ((O.toArray++Cc (nt-O.length) undef).getD t undef) (cs t);by_cases hq:t<ps.length
   ·have hv:=CK (show t<O.length by omega);have:(O.toArray++Cc (nt-O.length) undef).getD t undef=O[t]:=by
     rw[CG,Cx (by simp;omega)];simp[hv]
    rw[this];obtain⟨e,he,h1,h2⟩:=q6 t _ hv;rw[Ck]at h1;rcases hE t with ⟨_,y⟩|⟨H,y,h5,M,Z⟩
    ·exfalso;rw[DN]at y;exact y e he (by simp[h1])
    ·have:H=e:=a5 H y e he (by rw[h5,h1]);subst this;rw[Z];simp only[cs,M];exact h2
   ·rcases hE t with ⟨I,y⟩|⟨H,y,h5,M,Z⟩
    ·rw[I];simp only[cs,y];rfl
    ·rcases q4 H y with h8|h8 <;> omega
  boxes:=λb hb=>by
   rcases hE b with ⟨I,y⟩|⟨H,y,h5,M,Z⟩
   ·rw[I];exact .inl ⟨rfl,rfl⟩
   ·obtain⟨g1,g2,g3,⟨E,g4⟩,g5⟩:=(q3 H y).box (by rw[h5];exact hb);rw[Z];exact .inr ⟨g1,E,by simp only[β,cs,M];exact g4⟩
  len:=λq=>by
   rcases hE q with ⟨I,y⟩|⟨H,y,h5,M,Z⟩
   ·rw[I];simp only[cs,y];rfl
   ·rw[Z];simp only[cs,M];exact (q3 H y).len
  one:=λq u hu=>by
   have hu:u∈cs q:=hu;rcases hE q with ⟨I,y⟩|⟨H,y,h5,M,Z⟩
   ·simp only[cs,y]at hu;simp at hu
   ·simp only[cs,M]at hu;exact (q3 H y).one u hu
  leaf:=λq j l v X hv=>by
   have hv:(cs q)[j]?=some v:=hv;rcases hE q with ⟨I,y⟩|⟨H,y,h5,M,Z⟩
   ·rw[I]at X;simp[bX.none]at X
   ·rw[Z]at X;simp only[cs,M]at hv;show aK P _ _ _ w (bs q j) l v;simp only[bs,M];exact (q3 H y).leaf (gw w ro ps O J nt) _ _ rfl rfl rfl a7 j l v X hv
  ownb:=λq j l X ho k hk=>by
   have hk:k∈bs q j:=hk;rcases hE q with ⟨I,y⟩|⟨H,y,h5,M,Z⟩
   ·rw[I]at X;simp[bX.none]at X
   ·rw[Z]at X;simp only[bs,M]at hk;have ad:=(q3 H y).own j l X ho k hk;refine⟨id,λhp=>hp.2 (a0 H y k ad),λb hb e0=>?_⟩;obtain⟨e2,g1,g2,g3,g4⟩:=a1 b hb;have a6:=(q3 e2 g1).box g3;have e0:β b=k:=e0;simp only[β,g4]at e0;have:=ov a3 H y e2 g1 k ad (by rw[<- e0];exact a6.2.1);subst this;exact a6.2.2.1 j l X ho (by rw[e0];exact hk)
  sep:=λq j l q' j' l' X ho a2 a9 k hk a4=>by
   have hk:k∈bs q j:=hk;have a4:k∈bs q' j':=a4;rcases hE q with ⟨I,y⟩|⟨e1,y,h5,M,Z⟩
   ·rw[I]at X;simp[bX.none]at X
   ·rcases hE q' with ⟨b5,a8⟩|⟨e2,a8,bn,b1,ba⟩
    ·rw[b5]at a2;simp[bX.none]at a2
    ·rw[Z]at X;rw[ba]at a2;simp only[bs,M]at hk;simp only[bs,b1]at a4;have:=ov a3 e1 y e2 a8 k ((q3 e1 y).own j l X ho k hk) ((q3 e2 a8).own j' l' a2 a9 k a4);subst this;exact⟨by rw[<- h5,<- bn],(q3 e1 y).sep j j' l l' X ho a2 a9 k hk a4⟩
  box:=λb hb=>by
   obtain⟨e2,g1,g2,g3,g4⟩:=a1 b hb;have a6:=(q3 e2 g1).box g3;refine⟨id,λhp=>hp.2 ?_⟩;show β b∈_;simp only[β,g4];exact a0 e2 g1 _ a6.2.1
  inj:=λb b' hb bx e0=>by
   obtain⟨e1,g1,g2,g3,g4⟩:=a1 b hb;obtain⟨e2,b0,b3,b2,b4⟩:=a1 b' bx;have e0:β b=β b':=e0;simp only[β,g4,b4]at e0;have:=ov a3 e1 g1 e2 b0 e1.g ((q3 e1 g1).box g3).2.1 (by rw[e0];exact ((q3 e2 b0).box b2).2.1);subst this;rw[<- g2,<- b3]
  nwlt:=λk hk=>hk.elim
  os:=rfl,tape:=rfl,output:=rfl,size:=DC _,keep:=λ_ _=>rfl
  fixb:=λz hz=>by
   obtain⟨h1,h2,I⟩:=a7 z hz;exact⟨⟨h1,h2⟩,I⟩
  fixt:=λz hz=>by
   obtain⟨i,h1,h2⟩:=vN hz;rw[Ck]at h1;show (O.toArray++Cc (nt-O.length) undef).getD z.1 undef=z.2;rw[h1,CG,Cx (by simpa using (CD.1 h2).1)];simp[h2] }
end
section
variable {P:Program} {V:Env} {W:Wit} {Γ:List Ctr} {T:TypeId->TI} {R:Type} {st:St} {a:Act} {w:World} {ro:Nat->Prop}
theorem BU (hT:TOk P T)(h:ap P V W st a w)(x:ResultVar)(I:pM st T x≠.off) :
  ∃ v O,(match x with|.tmp t=>(pure (a.tmps.getD t undef):Sem Value)|.cell b t=>(do loadVar t (<- asAddr (a.tmps.getD b undef)):Sem Value)).run P w=.ok v w /\
   ey (pM st T x) v O/\aD P V W st w (vR st T x) O:=by
 cases x with
 |tmp t =>
  obtain⟨O,h1,M⟩:=c8 h (.tmp t);exact⟨_,O,rfl,h1,M⟩
 |cell t u =>
  simp only[pM]at I ⊢;split at I
  ·rename_i b off Y;cases X:decide ((st b).sh=.agg)&&DE (off+(T u).cells) (st b).ls.length&&!CC (T u).cells 0 with
   |false=>rw[X]at I;exact absurd rfl I
   |true =>
    simp only[Y,X,cond_true,vR];simp only[B5,decide_eq_true_eq,Ce]at X;obtain⟨⟨h1,M⟩,h3⟩:=X;have M:off+(T u).cells<=(st b).ls.length:=CW M;have a1:T u≠.none:=by
     intro e;rw[e]at h3;simp[TI.cells]at h3
    obtain⟨hp,_,_,_,_⟩:=bA h (.tmp t) (by rw[Y];simp);rw[Y]at hp;obtain⟨hB,a0,H⟩:=hp;have H:a.tmps.getD t undef=.pointer (some ⟨W.β b,off,none⟩):=H;rcases h.boxes b hB with ⟨J,_⟩|⟨_,E,J⟩
    ·rw[a0]at J;cases J
    ·have r:de w (W.β b) 0 (W.cs b):=λi v H=>by
      rw[Ck,cell_of_row w (W.β b) i _ E (0,0) J];simpa using H
     have a2:=h.len b;have z:=r.sub off (T u).cells;rw[Ck]at z;obtain⟨v,y,Z⟩:=oC (hT u) a1 z (by simp;omega);refine⟨v,_,?_,Z,((iQ h b).drop off).take _⟩;simp only[H];simpa[asAddr]using y
  ·exact absurd rfl I
def nS (a:Act):ResultVar->Sem Value
 |.tmp t=>pure (a.tmps.getD t undef)
 |.cell b t=>do loadVar t (<- asAddr (a.tmps.getD b undef))
def nT (P:Program)(a:Act)(w:World):List ResultVar->List Value->Prop
 |[],u=>u=[]
 |x::y,u=>∃ v r,u=v::r/\(nS a x).run P w=.ok v w/\nT P a w y r
theorem sj:∀ (l:List ResultVar) (u:List Value),nT P a w l u->(l.mapM (nS a)).run P w=.ok u w
 |[],_,h=>by rw[show _=_ from h];rfl
 |x::l,_,⟨v,r,e,y,z⟩=>by subst e;simp[DD,y,sj l r z]
theorem Bd (b:Bool):bm b≠.off:=by cases b <;> simp[bm]
def RK.isBox:RK->Bool
 |.box _=>true
 |_=>false
theorem uu (hV:ay V)(hT:TOk P T)(h:ap P V W st a w)(a9:V.ro0=ro){fx:List Nat}:∀ (rs:List RK) (I:List ResultVar) (y:cS (ai rs)),kF st T fx rs I=some y ->
  ∀ {G:Nat->Prop},(∀ k,br V W y.p y.frz k->G k) ->
  ∃ (us:List Value) (H:List (List Nat)) (bx:List Nat),nT P a w I us/\gP w G ro rs y.val us H/\(∀ k,H.flatten.count k=(aY W y.kill).count k+(bx.map W.β).count k) /\
   (∀ b∈bx,live st b/\fx.any (CC b)=false)/\bx.length=rs.countP RK.isBox/\(∀ z∈y.frz,aC st z)/\∀ z∈y.kill,aC st z
 |[],[],y,J,G,hG=>by
  simp only[kF,B3]at J;subst J;exact⟨[],[],[],rfl,⟨rfl,rfl⟩,λk=>by simp[aY],by simp,rfl,by simp,by simp⟩
 |[],_::_,_,J,_,_=>by simp[kF]at J
 |_::_,[],_,J,_,_=>by simp[kF]at J
 |r::rs,x::I,y,J,G,hG=>by
  simp only[kF]at J;cases O:decide (pM st T x=r.sh) with
  |false=>simp[O]at J
  |true =>
   simp only[O,cond_true]at J;have O:=of_decide_eq_true O;split at J
   ·rename_i X y2 u b1;simp only[B3]at J;subst J;obtain⟨v,a1,a6,M,Y⟩:=BU hT h x (by rw[O];cases r <;> simp only[RK.sh] <;> first|exact Bd _|simp);rw[O]at M;have a0:∀ k,br V W X.p X.frz k->G k:=λk hk=>hG k (d7.1 k hk)
    have ad:∀ k,br V W y2.p y2.frz k->G k:=λk hk=>hG k (d7.2 k hk)
    obtain⟨us,H,bx,i1,i2,i3,i4,i5,i6,i7⟩:=uu hV hT h a9 rs I y2 b1 ad;have a3:(nS a x).run P w=.ok v w:=by cases x <;> exact a6
    have a4:∀ (b:List Nat) (Z:List Nat),qp w G ro r X.val v b->(∀ k,b.count k=(aY W X.kill).count k+(Z.map W.β).count k)->(∀ b∈Z,live st b/\fx.any (CC b)=false)->Z.length=(if r.isBox then 1 else 0)->(∀ z∈X.frz,aC st z)->(∀ z∈X.kill,aC st z) ->
      ∃ (us:List Value) (H:List (List Nat)) (bx:List Nat),nT P a w (x::I) us/\gP w G ro (r::rs) (X.val,y2.val) us H/\(∀ k,H.flatten.count k=(aY W (X.kill++y2.kill)).count k+(bx.map W.β).count k) /\
       (∀ b∈bx,live st b/\fx.any (CC b)=false)/\bx.length=(r::rs).countP RK.isBox/\(∀ z∈X.frz++y2.frz,aC st z)/\∀ z∈X.kill++y2.kill,aC st z:=by
     intro b Z f1 f2 f3 f4 f5 f6;refine⟨v::us,b::H,Z++bx,⟨v,us,rfl,a3,i1⟩,⟨v,us,b,H,rfl,rfl,f1,i2⟩,λk=>?_,λz hz=>(B4.1 hz).elim (f3 z) (i4 z),?_,λz hz=>(B4.1 hz).elim (f5 z) (i6 z),λz hz=>(B4.1 hz).elim (f6 z) (i7 z)⟩
     ·rw[CJ,CN,f2 k,i3 k,dU,CN,Cs,CN];omega
     ·rw[List.length_append,f4,i5,DT];cases r.isBox <;> simp <;> omega
    cases r with
    |v b =>
     simp only[sD]at u;obtain⟨g1,g2,g3⟩:=d5 (pos:=0) h Y u;exact a4 (aY W X.kill) [] ⟨a1,gQ M,g1.mono a0⟩ (λk=>by simp) (by simp) rfl g2 g3
    |bv b =>
     simp only[sD,CB]at u;obtain⟨⟨p,z⟩,hz,rfl⟩:=u;have g1:=eO h Y hz;refine a4 [] [] ⟨rfl,a1,gQ M,g1.mono λk hk=>?_⟩ (λk=>by simp[aY]) (by simp) rfl (λz hz=>eC Y hz) (by simp);rcases hk with (hk|⟨_,hk⟩)|hk
     ·exact .inl (a0 k (.inl (.inl hk)))
     ·exact .inr (by rw[<- a9];exact hk)
     ·exact .inl (a0 k (.inr hk))
    |box b =>
     simp only[sD]at u;split at u
     ·rename_i b0 b2;cases a2:!(fx.any (CC b0)) with
      |false=>rw[a2]at u;cases u
      |true =>
       rw[a2]at u;simp only[cond_true]at u;have M:a1=[v]:=M;subst M;rw[b2]at Y;obtain⟨hB,a8,a5⟩:=Y.1.1;obtain⟨g1,g2,g3⟩:=d5 (pos:=0) h (iQ h b0) u;rcases h.boxes b0 hB with ⟨h8,_⟩|⟨_,E,h8⟩
       ·rw[a8]at h8;cases h8
       ·exact a4 (W.β b0::aY W X.kill) [b0] ⟨W.β b0,W.cs b0,E,_,a5,h8,g1.mono a0,rfl⟩ (λk=>by
         rw[Ct,CR,Db,Ct,List.count_nil];omega) (λb' a7=>by
         simp at a7;subst a7;exact⟨⟨hB,a8⟩,by simpa using a2⟩) rfl g2 g3
     ·cases u
   ·cases J
theorem mO (hV:ay V)(h:ap P V W st a w){w0:World}{pr:Nat->Prop}(a7:V.nt<=GH):∀ (ps:List PK) (x:ab ps) (vs:List Value) (a6:List (List Nat)) (t:Nat) (o:cS (ah ps)),dl P w0 ro pr ps x vs a6->iA st t ps=some o->t+ps.length<=V.nt ->
  (∀ z∈eu t ps vs,a.tmps.getD z.1 undef=z.2)->(∀ z∈er t ps vs,live st z.1/\W.β z.1=z.2)->∀ {G:Nat->Prop},(∀ k,br V W o.p o.frz k->G k) ->
  ∃ r,bS w G ps o.val vs r/\(∀ k,r.flatten.count k=(aY W o.kill).count k+((bK t ps).map W.β).count k)/\(∀ z∈o.frz,aC st z)/\(∀ z∈o.kill,aC st z)/\∀ b∈bK t ps,live st b
 |[],x,vs,a6,t,o,⟨e1,e2⟩,y,_,_,_,G,hG=>by
  simp only[iA,B3]at y;subst y;subst e1;exact⟨[],trivial,λk=>by simp[aY,bK],by simp,by simp,by simp[bK]⟩
 |pk::ps,x,vs,a6,t,o,⟨v,Y,b,a0,e1,e2,h1,h2⟩,y,ht,a1,a2,G,hG=>by
  subst e1;subst e2;simp only[Cg]at ht;have u:∀ (o':cS (ah ps)),iA st (t+1) ps=some o'->eu t (pk::ps) (v::Y)=eu (t+1) ps Y->er t (pk::ps) (v::Y)=er (t+1) ps Y->(∀ k,br V W o'.p o'.frz k->G k) ->
    ∃ r,bS w G ps o'.val Y r/\(∀ k,r.flatten.count k=(aY W o'.kill).count k+((bK (t+1) ps).map W.β).count k)/\(∀ z∈o'.frz,aC st z)/\(∀ z∈o'.kill,aC st z)/\∀ b∈bK (t+1) ps,live st b:=by
   intro o' a9 e1 e2 a8;exact mO hV h a7 ps x.2 Y a0 (t+1) o' h2 a9 (by omega) (λz H=>a1 z (by rw[e1];exact H)) (λz H=>a2 z (by rw[e2];exact H)) a8
  cases pk with
  |io b =>
   simp only[iA]at y;split at y
   ·rename_i y1 y2 Z a5;simp only[B3]at y;subst y;obtain⟨r,X,I,J,M,O⟩:=mO hV h a7 ps x.2 Y a0 (t+1) y2 h2 a5 (by omega) (λz H=>a1 z (B8 _ H)) (λz H=>a2 z H) (λk hk=>hG k (d7.2 k hk));cases hb:decide ((au st (.tmp t)).1=bm b.isAgg) with
    |false=>rw[hb]at Z;cases Z
    |true =>
     rw[hb]at Z;simp only[cond_true]at Z;obtain⟨cs,h3,h4⟩:=c8 h (.tmp t);rw[of_decide_eq_true hb]at h3;have hv:a.eval (.tmp t)=v:=a1 (t,v) (B9 ..);rw[hv]at h3;obtain⟨g1,g2,g3⟩:=d5 (pos:=0) h h4 Z;refine⟨aY W y1.kill::r,⟨?_,X⟩,λk=>?_,λz H=>(B4.1 H).elim (g2 z) (J z),λz H=>(B4.1 H).elim (g3 z) (M z),O⟩
     ·unfold jL;rw[if_neg (by simp)];exact⟨cs,gQ h3,g1.mono (λk hk=>hG k (d7.1 k hk))⟩
     ·rw[CJ,CN,I k,dU,CN];show _=_+((bK (t+1) ps).map W.β).count k;omega
   ·cases y
  |iop b =>
   simp only[iA]at y;split at y
   ·rename_i y1 y2 Z a5;simp only[B3]at y;subst y;obtain⟨r,X,I,J,M,O⟩:=mO hV h a7 ps x.2 Y a0 (t+1) y2 h2 a5 (by omega) (λz H=>a1 z (B8 _ H)) (λz H=>a2 z (B8 _ H)) (λk hk=>hG k (d7.2 k hk));obtain⟨g,c,E,b0,hv,_,_,_⟩:=h1;subst hv;obtain⟨a4,hβ⟩:=a2 (B0+t,ur (.pointer (some ⟨g,0,none⟩))) (B9 ..);have hβ:W.β (B0+t)=g:=hβ;obtain⟨g1,g2,g3⟩:=d5 (pos:=0) h (iQ h (B0+t)) Z;rcases h.boxes (B0+t) a4.1 with ⟨h8,_⟩|⟨_,E',h8⟩
    ·have:=a4.2;rw[h8]at this;cases this
    ·refine⟨(g::aY W y1.kill)::r,⟨?_,X⟩,λk=>?_,λz H=>(B4.1 H).elim (g2 z) (J z),λz H=>(B4.1 H).elim (g3 z) (M z),λb' a3=>?_⟩
     ·unfold jL;rw[if_pos rfl];exact⟨g,W.cs (B0+t),E',_,rfl,by rw[<- hβ];exact h8,g1.mono (λk hk=>hG k (d7.1 k hk)),rfl⟩
     ·rw[CJ,CN,I k,dU,CN,Ct];show _=_+(W.β (B0+t)::(bK (t+1) ps).map W.β).count k;rw[Ct,hβ];omega
     ·rcases CH.1 a3 with rfl|a3
      ·exact a4
      ·exact O b' a3
   ·cases y
  |rd b =>
   obtain⟨r,X,I,J,M,O⟩:=u o y rfl rfl hG;exact⟨[]::r,⟨rfl,X⟩,λk=>by rw[CJ,CZ];exact I k,J,M,O⟩
  |own b =>
   obtain⟨r,X,I,J,M,O⟩:=u o y rfl rfl hG;exact⟨[]::r,⟨rfl,X⟩,λk=>by rw[CJ,CZ];exact I k,J,M,O⟩
  |rref b =>
   obtain⟨r,X,I,J,M,O⟩:=u o y rfl rfl hG;exact⟨[]::r,⟨rfl,X⟩,λk=>by rw[CJ,CZ];exact I k,J,M,O⟩
  |rref2 b =>
   obtain⟨r,X,I,J,M,O⟩:=u o y rfl rfl hG;exact⟨[]::r,⟨rfl,X⟩,λk=>by rw[CJ,CZ];exact I k,J,M,O⟩
  |fn As B =>
   obtain⟨r,X,I,J,M,O⟩:=u o y rfl rfl hG;exact⟨[]::r,⟨rfl,X⟩,λk=>by rw[CJ,CZ];exact I k,J,M,O⟩
  |clo f cs =>
   obtain⟨r,X,I,J,M,O⟩:=u o y rfl rfl hG;exact⟨[]::r,⟨rfl,X⟩,λk=>by rw[CJ,CZ];exact I k,J,M,O⟩
  |hol b c off =>
   obtain⟨r,X,I,J,M,O⟩:=u o y rfl rfl hG;exact⟨[]::r,⟨rfl,X⟩,λk=>by rw[CJ,CZ];exact I k,J,M,O⟩
end
section
variable {P:Program} {Γ:List Ctr} {T:TypeId->TI} {w:World} {ro:Nat->Prop}
theorem uY {fn:Func}{a:Act}{w:World}{r:List Value}(h:nT P a w fn.results.toList r):(results fn a.tmps).run P w=.ok (if h:r.toArray.size=1 then r.toArray[0] else .tuple r.toArray) w:=by
 have y:=sj _ _ h;have e:results fn a.tmps=(fn.results.mapM (nS a) >>= λu=>pure (if h:u.size=1 then u[0] else .tuple u)):=by
  unfold results;congr 1
 have z:(fn.results.mapM (nS a)).run P w=.ok r.toArray w:=by
  rw[Array.mapM_eq_mapM_toList];simp[y]
 rw[e];simp only[Co,z,Ci,DP]
theorem BV (us:List Value):sM us (if h:us.toArray.size=1 then us.toArray[0] else .tuple us.toArray):=by
 match us with
 |[]=>rfl
 |[u]=>rfl
 |u::r::us =>
  rw[dif_neg (by simp)];rfl
theorem sk:∀ (ps:List PK) (t:Nat),(bK t ps).Nodup/\∀ b∈bK t ps,B0+t<=b
 |[],t=>⟨Cy,by simp[bK]⟩
 |H::ps,t=>by
  obtain⟨u,y⟩:=sk ps (t+1);have z:∀ b∈bK (t+1) ps,B0+t<=b:=λb r=>by have:=y b r;omega
  cases H with
  |iop a =>
   refine⟨Cb.2 ⟨λI=>?_,u⟩,λb r=>?_⟩
   ·have:=y _ I;omega
   ·rcases CH.1 r with rfl|r
    ·exact DC _
    ·exact z b r
  |_=>exact⟨u,z⟩
theorem BW {u:List RK}(h:qG u=true):u.countP RK.isBox<=1:=by
 unfold qG at h;split at h
 ·simp[RK.isBox]
 ·rw[DH.2]
  ·exact DV _
  ·intro r y;rw[CQ]at h;have:=h r y;cases r <;> simp[RK.isV,RK.isBox]at this ⊢
theorem sl {β:Nat->Nat}:∀ {bs:List Nat},bs.Nodup->(∀ b∈bs,∀ u∈bs,β b=β u->b=u)->(bs.map β).Nodup
 |[],_,_=>Cy
 |b::bs,z,H=>by
  rw[Cb]at z;rw[CR,Cb];refine⟨λJ=>?_,sl z.2 (λx I y M=>H x (B8 _ I) y (B8 _ M))⟩;obtain⟨u,r,e⟩:=CE.1 J;have:=H u (B8 _ r) b (B9 ..) e;exact z.1 (by rw[<- this];exact r)
theorem yI (hT:TOk P T){c:Ctr}(bl:qG c.rs=true){vs:List Value}{I:List (List Nat)}{fn:Func}{nt:Nat}(hV:ay (gw w ro c.ps vs I nt)){x:ab c.ps}{pr:Nat->Prop}(b3:dl P w ro pr c.ps x vs I)(bn:c.ps.length<=nt){ex:Ex}{s1:St}{y:ai c.rs×ah c.ps}
  (r:c9 T c.ps c.rs c.fresh fn.results.toList ex s1=some y) {a:Act} {w':World} (u:Rel P (gw w ro c.ps vs I nt) s1 a w') :
  (ex=.normal\/ex=.ret)/\∃ v,(results fn a.tmps).run P w'=.ok v w'/\tW c w ro vs I y (.returned v) w':=by
 obtain⟨W,u⟩:=u;have b6:ex=.normal\/ex=.ret:=by
  cases ex with
  |normal=>exact .inl rfl
  |ret=>exact .inr rfl
  |exit id=>cases r
 refine⟨b6,?_⟩;have r:finR T c.ps c.rs c.fresh fn.results.toList s1=some y:=by
  rcases b6 with rfl|rfl <;> exact r
 unfold finR at r;split at r
 ·rename_i M O bb ba;cases Y:bc (M.kill++O.kill)&&dN (M.frz++O.frz) (M.kill++O.kill)&&(!c.fresh||!(M.p||O.p)) with
  |false=>rw[Y]at r;cases r
  |true =>
   rw[Y]at r;simp only[cond_true,B3]at r;subst r;simp only[B5]at Y;obtain⟨⟨b4,c2⟩,b9⟩:=Y;let N:Nat->Prop:=λk=>W.nw k\/∃ z∈M.frz++O.frz,k∈W.bs z.1 z.2
   have hG:∀ (p:Bool) (b1:List (Nat×Nat)),(p=true->(M.p||O.p)=true)->(∀ z∈b1,z∈M.frz++O.frz)->∀ k,br (gw w ro c.ps vs I nt) W p b1 k->N k\/(c.fresh=false/\ro k):=by
    intro p b1 hp H k J;rcases J with (J|⟨hq,J⟩)|⟨z,Z,J⟩
    ·exact .inl (.inl J)
    ·refine .inr ⟨?_,J⟩;rw[hp hq]at b9;simpa using b9
    ·exact .inl (.inr ⟨z,H z Z,J⟩)
   obtain⟨us,a7,bx,r1,r2,r3,r4,r5,r6,r7⟩:=uu hV hT u rfl c.rs fn.results.toList M bb (G:=λk=>N k\/(c.fresh=false/\ro k)) (hG M.p M.frz (by intro h;simp[h]) (λz H=>B6 _ H));obtain⟨a6,o1,o2,o3,o4,o5⟩:=mO hV u hV.nt c.ps x vs I 0 O b3 ba (by rw[Ck];exact bn) (λz H=>u.fixt z H) (λz H=>u.fixb z H) (G:=λk=>N k\/(c.fresh=false/\ro k)) (hG O.p O.frz (by intro h;simp[h]) (λz H=>B7 _ H));have a2:∀ z∈M.kill++O.kill,aC s1 z:=λz H=>(B4.1 H).elim (r7 z) (o4 z)
   have a1:∀ z∈M.frz++O.frz,aC s1 z:=λz H=>(B4.1 H).elim (r6 z) (o3 z)
   have a4:∀ k,k<w'.heap.size->¬ (gw w ro c.ps vs I nt).prot k->qq w w' I.flatten k:=by
    intro k J hp;refine⟨J,?_⟩;by_cases c3:k<w.heap.size
    ·right;apply CV;intro hn;exact hp ⟨c3,hn⟩
    ·exact .inl (by omega)
   have c0:∀ k,N k->qq w w' I.flatten k:=by
    rintro k (J|⟨z,H,J⟩)
    ·exact a4 k (u.nwlt k J).1 (u.nwlt k J).2
    ·obtain⟨l,h7,h8⟩:=a1 z H;exact a4 k (u.own_lt h7 h8 k J) (u.ownb z.1 z.2 l h7 h8 k J).2.1
   have X:∀ b∈bx++bK 0 c.ps,live s1 b:=λb R=>(B4.1 R).elim (λR=>(r4 b R).1) (o5 b)
   have b5:(bx++bK 0 c.ps).Nodup:=by
    rw[Ch];refine⟨?_,(sk c.ps 0).1,λb R b' b2 e=>?_⟩
    ·have:=BW bl;rw[<- r5]at this
     match bx,this with
     |[],_=>exact Cy
     |[b],_=>simp
    ·subst e;have:=C0.1 (r4 b R).2 b b2;simp at this
   have ad:=sl (β:=W.β) b5 (λb R b' b2 e=>u.inj b b' (X b R) (X b' b2) e);have a5:∀ k,(a6.flatten++a7.flatten).count k=(aY W (M.kill++O.kill)).count k+((bx++bK 0 c.ps).map W.β).count k:=λk=>by
    rw[CN,o2 k,r3 k,dU,CN,Cs,CN];omega
   have c1:=bB.1 (ia u b4 a2);have a8:∀ k∈a6.flatten++a7.flatten,(∃ z∈M.kill++O.kill,k∈W.bs z.1 z.2)\/∃ b,live s1 b/\W.β b=k:=λk J=>by
    have h5:=CP.2 J;rw[a5 k]at h5;by_cases h6:k∈aY W (M.kill++O.kill)
    ·exact .inl (gB.1 h6)
    ·have:=Cz.2 h6;obtain⟨b,R,e⟩:=CE.1 (CP.1 (show 0<((bx++bK 0 c.ps).map W.β).count k by omega));exact .inr ⟨b,X b R,e⟩
   refine⟨_,uY r1,_,us,N,a6,a7,rfl,BV us,u.size,u.os,u.tape,u.output,λk h1 h2=>u.keep k ⟨h1,h2⟩,c0,o1,r2,bB.2 λk=>?_,λk J=>?_⟩
   ·rw[a5 k];have h5:=c1 k;have h6:=bB.1 ad k;by_cases h7:k∈(bx++bK 0 c.ps).map W.β
    ·have:(aY W (M.kill++O.kill)).count k=0:=Cz.2 λhm=>by
      obtain⟨b,R,e⟩:=CE.1 h7;obtain⟨z,H,a0⟩:=gB.1 hm;obtain⟨l,hl,ho⟩:=a2 z H;exact (u.ownb z.1 z.2 l hl ho k a0).2.2 b (X b R) e
     omega
    ·have:=Cz.2 h7;omega
   ·rcases a8 k J with ⟨z,H,a0⟩|⟨b,R,e⟩
    ·obtain⟨l,hl,ho⟩:=a2 z H;have h9:=u.ownb z.1 z.2 l hl ho k a0;refine⟨a4 k (u.own_lt hl ho k a0) h9.2.1,?_⟩;rintro (hn|⟨z',Z,a3⟩)
     ·exact h9.1 hn
     ·obtain⟨l',b0,a9⟩:=a1 z' Z;obtain⟨e1,e2⟩:=u.sep z.1 z.2 l z'.1 z'.2 l' hl ho b0 a9 k a0 a3;exact nX c2 z' Z (by rw[show z'=z from Prod.ext e1.symm e2.symm];exact H)
    ·subst e;have h9:=u.box b R;refine⟨a4 _ (u.box_lt R) h9.2,?_⟩;rintro (hn|⟨z',Z,a3⟩)
     ·exact h9.1 hn
     ·obtain⟨l',b0,a9⟩:=a1 z' Z;exact (u.ownb z'.1 z'.2 l' b0 a9 _ a3).2.2 b R rfl
 ·cases r
theorem kv:∀ {ps:List PK} {u:List Value} {t:Nat} {z:Nat×Value},z∈eu t ps u->z.1∈gA t ps
 |[],_,_,_,h=>by simp[eu]at h
 |r::ps,[],_,_,h=>by cases r <;> simp[eu]at h
 |r::ps,v::u,t,z,h=>by
  cases r <;> simp only[eu,gA,CH]at h ⊢ <;> first
   |exact kv h
   |exact h.imp (λe=>by rw[e]) kv
theorem kw:∀ {ps:List PK} {u:List Value} {t:Nat} {z:Nat×Nat},z∈er t ps u->z.1∈bK t ps
 |[],_,_,_,h=>by simp[er]at h
 |r::ps,[],_,_,h=>by cases r <;> simp[er]at h
 |r::ps,v::u,t,z,h=>by
  cases r <;> simp only[er,bK,CH]at h ⊢ <;> first
   |exact kw h
   |exact h.imp (λe=>by rw[e]) kw
theorem dy {f:FuncId}{fn:Func}{c:Code}(z:P.funcs[f]?=some fn)(H:(fn.name== "runtime.NumGoroutine")=false) (y:fn.body=some c):gf P f:=by
 intro u w;have r:fn.name≠ "runtime.NumGoroutine" := by simpa using H
 simp[callFunc,z,r,y]
theorem pF (hT:TOk P T)(hΓ:∀ c∈Γ,bN P c)(Y:P.follows .mixedOrders=true){c:Ctr}{fn:Func}(hf:P.funcs[c.f]?=some fn)(hn:(fn.name== "runtime.NumGoroutine")=false)
  {L:List (Nat×List (Nat×List Coe))} {a0:Nat} (M:fn.body.isSome=true) (R:∀ x,evF Γ T L a0 fn c.ps c.rs c.fresh x=c.den x):bN P c:=by
 obtain⟨u,M⟩:=Option.isSome_iff_exists.1 M;refine⟨dy hf hn M,λw ro x vs a3 y H a5 a1 J=>?_⟩;rw[<- R]at J;unfold evF at J;simp only[M]at J;cases r:d6 fn.ntmps (gA 0 c.ps) u&&DE c.ps.length fn.ntmps&&DE fn.ntmps GH&&qG c.rs&&dz L (bK 0 c.ps) u with
 |false=>simp[r]at J
 |true =>
  simp only[r,cond_true]at J;simp only[B5]at r;obtain⟨⟨⟨⟨h1,h2⟩,h3⟩,h4⟩,h5⟩:=r;have h2:=CW h2;have h3:=CW h3;have hV:ay (gw w ro c.ps vs a3 fn.ntmps):=⟨λk hk=>a5 k hk,h3⟩;have Z:=vO (P:=P) (ro:=ro) H a1 h2 h3;refine calls_of_wp hf M ?_;rw[DQ];refine sO hV hT hΓ Y (λz hz=>kw hz) (nt:=fn.ntmps) (fix:=gA 0 c.ps) rfl (λz hz=>kv hz) u h1 h5 _ _ y _ J (λex s1 X a' w' hr=>?_) _ _ Z;obtain⟨a4,v,O,I⟩:=yI hT h4 hV H h2 X hr;have a2:a'.defers=[]:=by obtain⟨W,hr⟩:=hr;exact hr.df
  rcases a4 with rfl|rfl <;> exact⟨a2,v,O,I⟩
end
section
variable {P:Program}
def szB (P:Program)(t:TypeId)(n:Nat):Bool :=
 match P.info? t with
 |some i=>CC i.size n
 |none=>false
theorem f9 {t:TypeId}{n:Nat}(h:szB P t n=true):bW P t n:=by
 unfold szB at h;unfold bW;split at h
 ·rename_i i r;rw[r];simp only[CT];rw[CA h]
 ·cases h
def uv (P:Program)(t:TypeId)(agg:Bool):Bool :=
 match P.underlying t with
 |some (.struct _)|some (.array _ _)=>agg
 |some _=>!agg
 |none=>false
theorem rv {t:TypeId}{agg:Bool}(h:uv P t agg=true):(P.underlying t).map (λd=>match d with|.struct _|.array _ _=>true|_=>false)=some agg:=by
 unfold uv at h;split at h
 ·rename_i r;rw[r];simp[h]
 ·rename_i r;rw[r];simp[h]
 ·rename_i d u y r;rw[r];simp only[CT,B3];cases agg with
  |true=>cases h
  |false =>
   cases d <;> first|rfl|(exact absurd r (u _))|(exact absurd r (y _ _))
 ·cases h
theorem Be {t:TypeId}{agg:Bool}(h:(P.underlying t).map (λd=>match d with|.struct _|.array _ _=>true|_=>false)=some agg)(w:World):(isAgg t).run P w=.ok agg w:=by
 unfold isAgg;cases r:P.underlying t with
 |none=>simp[r]at h
 |some u =>
  rw[r]at h;simp only[CT,B3]at h;subst h;rw[Co,run_underlying r w];cases u <;> rfl
def l6 (P:Program)(f:Field)(off:Nat)(b:Ty):Bool:=(f.name != "_")&&CC f.offset off&&szB P f.type b.cells&&uv P f.type b.isAgg
def eqF (P:Program)(g:Ty->TypeId->Bool):List Field->Nat->Ty->Bool
 |[],_,_=>false
 |[f],off,b=>l6 P f off b&&g b f.type
 |f::r,off,.pair b c=>l6 P f off b&&g b f.type&&eqF P g r (off+b.cells) c
 |_,_,_=>false
def eqT (P:Program):Nat->Ty->TypeId->Bool
 |0,_,_=>false
 |n+1,a,t=>match a with
  |.int k=>(match P.underlying t with|some (.int k')=>decide (k'=k)|_=>false)
  |.bool=>(match P.underlying t with|some .bool=>true|_=>false)
  |.str=>(match P.underlying t with|some .string=>true|_=>false)
  |.pair b c=>(match P.underlying t with|some (.struct fs)=>!P.stoodInHeld t&&eqF P (eqT P n) fs.toList 0 (.pair b c)|_=>false)
  |_=>false
theorem zT:∀ (b:Ty),b.isAgg=false->b.cells=1
 |.int _,_=>rfl
 |.bool,_=>rfl
 |.str,_=>rfl
 |.list _ _ _,_=>rfl
 |.hdr,_=>rfl
 |.unit,h=>by cases h
 |.pair _ _,h=>by cases h
theorem mP {f:Field}{off:Nat}{b:Ty}(h:l6 P f off b=true){xs p c s:List Value}(J:xs=p++c++s)(M:p.length=off)(H:c.length=b.cells)(w:World) :
  ∃ v,(part f.type xs.toArray f.offset).run P w=.ok v w/\dn b.isAgg v c:=by
 unfold l6 at h;simp only[B5]at h;obtain⟨⟨⟨_,y⟩,R⟩,X⟩:=h;have y:=CA y;have r:=Be (rv X) w;have I:=dE (f9 R) w;have u:(xs.drop off).take b.cells=c:=by
  rw[J,CX,<- M,List.drop_left,<- H,List.take_left]
 cases z:b.isAgg with
 |true =>
  rw[z]at r;refine⟨.agg c.toArray,?_,rfl⟩;have e:xs.toArray.extract off (off+b.cells)=c.toArray:=by
   rw[List.extract_toArray,List.extract_eq_take_drop,Nat.add_sub_cancel_left,u]
  simp only[part,Co,r,Ci,if_true,I,DP,y,e]
 |false =>
  rw[z]at r;have O:=zT b z;rw[O]at H
  match c,H with
  |[v],_ =>
   refine⟨v,?_,rfl⟩;have e:xs.toArray[off]?=some v:=by
    simp only[List.getElem?_toArray];rw[J,CX,CS (by omega)];simp[M]
   simp only[part,Co,r,Ci,Cu,if_false,y,e,DP]
def Ah (P:Program)(d:Nat)(b:Ty)(t:TypeId):Prop:=∀ (w:World) (G:Nat->Prop) (x y:b.den) (u r:Value) (H z:List Value),dn b.isAgg u H->Rd w G b x H->dn b.isAgg r z->Rd w G b y z ->
 (Op.equalIn d t u r).run P w=.ok (b.eqv x y) w
theorem yJ {d:Nat}{g:Ty->TypeId->Bool}(hg:∀ b t,g b t=true->Ah P d b t):∀ (fs:List Field) (off:Nat) (b:Ty),eqF P g fs off b=true->∀ (w:World) (G:Nat->Prop) (x y:b.den) (r M u J:List Value),
  r.length=off->u.length=off->Rd w G b x M->Rd w G b y J->(Op.eqFields d (r++M).toArray (u++J).toArray fs).run P w=.ok (b.eqv x y) w
 |[],_,_,h=>by simp[eqF]at h
 |[f],off,b,h=>by
  intro w G x y r M u J z H hx hy;simp only[eqF,B5]at h;obtain⟨v1,h1,h2⟩:=mP h.1 (xs:=r++M) (p:=r) (c:=M) (s:=[]) (by simp) z hx.len w;obtain⟨v2,h3,h4⟩:=mP h.1 (xs:=u++J) (p:=u) (c:=J) (s:=[]) (by simp) H hy.len w;have h5:=hg b f.type h.2 w G x y v1 v2 M J h2 hx h4 hy;have hn:f.name≠ "_" := by
   have:=h.1;unfold l6 at this;simp only[B5]at this;simpa using this.1.1.1
  simp only[Op.eqFields,if_pos hn,Co,h1,h3,h5,Ci];cases b.eqv x y <;> simp
 |f::O::fs,off,.pair b c,h=>by
  intro w G x y r M u J z H hx hy;simp only[eqF,B5]at h;obtain⟨⟨Y,a2⟩,R⟩:=h;obtain⟨c1,c2,rfl,X,a0⟩:=hx;obtain⟨Z,d2,rfl,I,a1⟩:=hy;obtain⟨v1,h1,h2⟩:=mP Y (xs:=r++(c1++c2)) (p:=r) (c:=c1) (s:=c2) (by simp) z X.len w;obtain⟨v2,h3,h4⟩:=mP Y (xs:=u++(Z++d2)) (p:=u) (c:=Z) (s:=d2) (by simp) H I.len w;have h5:=hg b f.type a2 w G x.1 y.1 v1 v2 c1 Z h2 X h4 I;have h6:=yJ hg (O::fs) (off+b.cells) c R w G x.2 y.2 (r++c1) c2 (u++Z) d2 (by simp[z,X.len]) (by simp[H,I.len]) a0 a1;rw[CX,CX]at h6;have hn:f.name≠ "_" := by
   unfold l6 at Y;simp only[B5]at Y;simpa using Y.1.1.1
  rw[Op.eqFields];simp only[if_pos hn,Co,h1,h3,h5,Ci];show _=Result.ok (b.eqv x.1 y.1&&c.eqv x.2 y.2) w;cases b.eqv x.1 y.1 with
  |false=>simp
  |true=>simpa using h6
 |f::O::fs,off,.int _,h=>by simp[eqF]at h
 |f::O::fs,off,.bool,h=>by simp[eqF]at h
 |f::O::fs,off,.str,h=>by simp[eqF]at h
 |f::O::fs,off,.unit,h=>by simp[eqF]at h
 |f::O::fs,off,.list _ _ _,h=>by simp[eqF]at h
 |f::O::fs,off,.hdr,h=>by simp[eqF]at h
theorem sm (x y:ByteArray):(x==y)=decide (x=y):=by
 rw[beq_toListBytes];by_cases h:x=y
 ·subst h;simp
 ·rw[decide_eq_false h];cases r:(x.toList==y.toList) with
  |false=>rfl
  |true =>
   exfalso;apply h;have:=eq_of_beq r;rw[DI,DI]at this;apply ByteArray.ext;exact Array.ext' this
theorem yK:∀ (n:Nat) (a:Ty) (t:TypeId),eqT P n a t=true->∀ d,n<=d->Ah P d a t
 |0,_,_,h=>by simp[eqT]at h
 |n+1,a,t,h=>by
  intro d hd;obtain⟨d,rfl⟩:∃ d',d=d'+1:=⟨d-1,by omega⟩;intro w G x y O R J I u H r z;cases a with
  |int k =>
   simp only[eqT]at h;split at h
   ·rename_i Z M;have hk:=of_decide_eq_true h;subst hk;have H:J=[.int Z x]:=H;have z:I=[.int Z y]:=z;have u:J=[O]:=u;have r:I=[R]:=r;rw[H]at u;rw[z]at r;simp at u r;subst u;subst r;simp[Op.equalIn,run_underlying M,Ty.eqv];rfl
   ·cases h
  |bool =>
   simp only[eqT]at h;split at h
   ·rename_i M;have H:J=[.bool x]:=H;have z:I=[.bool y]:=z;have u:J=[O]:=u;have r:I=[R]:=r;rw[H]at u;rw[z]at r;simp at u r;subst u;subst r;simp[Op.equalIn,run_underlying M,Ty.eqv]
   ·cases h
  |str =>
   simp only[eqT]at h;split at h
   ·rename_i M;have H:J=[.string x]:=H;have z:I=[.string y]:=z;have u:J=[O]:=u;have r:I=[R]:=r;rw[H]at u;rw[z]at r;simp at u r;subst u;subst r;have:=sm x y;simp[Op.equalIn,run_underlying M,Ty.eqv,this]
   ·cases h
  |pair b c =>
   simp only[eqT]at h;split at h
   ·rename_i X M;simp only[B5,Ce]at h;have Y:P.fieldsOf t=X:=by simp[Program.fieldsOf,M]
    have u:O=.agg J.toArray:=u;have r:R=.agg I.toArray:=r;subst u;subst r;rw[run_equalIn_struct (P:=P) w d t _ _ (by rw[Y];exact M) h.1,Y];have:=yJ (P:=P) (λb t hb=>yK n b t hb d (by omega)) X.toList 0 (.pair b c) h.2 w G x y [] J [] I rfl rfl H z;simpa using this
   ·cases h
  |unit=>simp[eqT]at h
  |hdr=>simp[eqT]at h
  |list m E e=>simp[eqT]at h
theorem Bf {t:TypeId}{a:Ty}(h:eqT P 64 a t=true)(r:a.isAgg=true):EqAt P t a:=by
 intro _ w G x y z u H I;have:=yK 64 a t h Op.maxDepth (by decide) w G x y (.agg z.toArray) (.agg u.toArray) z u (by rw[r];rfl) H (by rw[r];rfl) I;exact this
def xc:Value->Value->Bool
 |.int k n,.int z y=>decide (k=z)&&decide (n=y)
 |.bool b,.bool r=>b==r
 |.string s,.string u=>decide (s.toList=u.toList)
 |.slice none 0 0,.slice none 0 0=>true
 |.pointer none,.pointer none=>true
 |.nilFunc,.nilFunc=>true
 |_,_=>false
def lk:List Value->List Value->Bool
 |[],[]=>true
 |v::y,u::r=>xc v u&&lk y r
 |_,_=>false
theorem zU {v u:Value}(h:xc v u=true):v=u:=by
 unfold xc at h;split at h
 ·simp only[B5,decide_eq_true_eq]at h;rw[h.1,h.2]
 ·rw[eq_of_beq h]
 ·rename_i s y;have:s=y:=by
   have r:=sm s y;rw[beq_toListBytes,of_decide_eq_true h]at r;simpa using r.symm
  rw[this]
 ·rfl
 ·rfl
 ·rfl
 ·cases h
theorem mQ:∀ {r us:List Value},lk r us=true->r=us
 |[],[],_=>rfl
 |v::r,u::us,h=>by
  simp only[lk,B5]at h;rw[zU h.1,mQ h.2]
 |[],_::_,h=>by simp[lk]at h
 |_::_,[],h=>by simp[lk]at h
def zB (P:Program)(t:TypeId)(agg:Bool)(cs:List Value):Bool :=
 match P.info? t with
 |some i=>match i.zero with
  |some (.agg r)=>agg&&lk r.toList cs
  |some v=>!agg&&lk [v] cs
  |none=>false
 |none=>false
theorem yL {t:TypeId}{cs:List Value}(h:zB P t true cs=true):el P t (.agg cs.toArray):=by
 unfold zB at h;unfold el;split at h
 ·rename_i i u;rw[u];split at h
  ·rename_i y r;simp only[DK]at h;rw[CT,r,<- mQ h,Array.toArray_toList]
  ·cases h
  ·cases h
 ·cases h
theorem l7 {t:TypeId}{v:Value}(h:zB P t false [v]=true):el P t v:=by
 unfold zB at h;unfold el;split at h
 ·rename_i i y;rw[y];split at h
  ·cases h
  ·rename_i u _ r;simp only[Da,DK]at h;have:=mQ h;simp only[C8,and_true]at this;rw[CT,r,this]
  ·cases h
 ·cases h
def kE (P:Program)(n:Nat):List Field->List (Nat×Nat×Bool)->Bool
 |[],[]=>true
 |f::r,(off,k,agg)::u=>CC f.offset off&&szB P f.type k&&uv P f.type agg&&C7 0 k&&DE (off+k) n&&(agg||CC k 1)&&kE P n r u
 |_,_=>false
def isU8:Ty->Bool
 |.int .u8=>true
 |_=>false
def u8B (P:Program)(E:TypeId):Bool :=
 match P.underlying E with
 |some (.int .u8)=>true
 |_=>false
def tiB (P:Program)(t:TypeId):TI->Bool
 |.int k=>(match P.underlying t with|some (.int k')=>decide (k'=k)|_=>false)&&szB P t 1&&zB P t false [.int k 0]
 |.bool=>(match P.underlying t with|some .bool=>true|_=>false)&&szB P t 1&&zB P t false [.bool false]
 |.str=>(match P.underlying t with|some .string=>true|_=>false)&&szB P t 1&&zB P t false [.string ByteArray.empty]
 |.slice E e r=>(match P.underlying t with|some (.slice E')=>CC E' E|_=>false)&&szB P t 1&&zB P t false [.slice none 0 0]&&C7 0 e.cells&&C7 0 r &&
  szB P E e.cells&&(match P.info? E with | some i=>CC i.bytes r&&(match i.zero with | some z=>lk z.cells.toList (zeroCells e) | none=>false) | none=>false)&&(!isU8 e||u8B P E)
 |.arr e n=>(match P.underlying t with|some (.array m E)=>CC m n&&szB P E e.cells&&uv P E e.isAgg|_=>false)&&C7 0 e.cells&&szB P t (n*e.cells)&&zB P t true (List.replicate n (zeroCells e)).flatten
 |.struct a u=>(match P.underlying t with | some (.struct y)=>kE P a.cells y.toList u | _=>false)&&szB P t a.cells&&zB P t true (zeroCells a)&&a.isAgg&&(!a.flat||eqT P 64 a t)&&!P.eqGuardType P.depth t
 |.ptr=>(match P.underlying t with|some (.pointer _)=>true|_=>false)&&szB P t 1&&zB P t false [.pointer none]
 |.fn=>(match P.underlying t with|some (.func _ _ _)=>true|_=>false)&&szB P t 1&&zB P t false [.nilFunc]
 |.none=>true
theorem qC {n:Nat}:∀ {fs:List Field} {xs:List (Nat×Nat×Bool)},kE P n fs xs=true ->
  fs.mapM (λf=>(P.info? f.type).map λi=>(f.offset,i.size))=some (xs.map λx=>(x.1,x.2.1)) /\
  ∀ (i off k:Nat) (agg:Bool),xs[i]?=some (off,k,agg)->(agg=false->k=1)/\∃ f:Field,fs[i]?=some f/\f.offset=off/\0<k/\off+k<=n/\bW P f.type k /\
   (P.underlying f.type).map (λd=>match d with|.struct _|.array _ _=>true|_=>false)=some agg
 |[],[],_=>⟨rfl,λi off k agg h=>by simp at h⟩
 |[],_::_,h=>by simp[kE]at h
 |_::_,[],h=>by simp[kE]at h
 |f::fs,(off,k,agg)::xs,h=>by
  simp only[kE,B5,Cr]at h;obtain⟨⟨⟨⟨⟨⟨H,X⟩,h3⟩,h4⟩,h5⟩,u⟩,h7⟩:=h;have H:=CA H;have r:=f9 X;obtain⟨M,h9⟩:=qC h7;constructor
  ·unfold bW at r;cases J:P.info? f.type with
   |none=>rw[J]at r;cases r
   |some i =>
    rw[J]at r;simp only[CT,B3]at r;simp[DD,J,M,r,H]
  ·intro i z k' y I;cases i with
   |zero =>
    simp at I;obtain⟨rfl,rfl,rfl⟩:=I;refine⟨λZ=>?_,f,rfl,H,by simpa[Cm]using h4,CW h5,r,rv h3⟩;rcases u with u|u
    ·rw[Z]at u;cases u
    ·exact CA u
   |succ i =>
    obtain⟨Y,f',O,R⟩:=h9 i z k' y (by simpa using I);exact⟨Y,f',by simpa using O,R⟩
theorem BX {t:TypeId}{i:TI}(h:tiB P t i=true):o6 P t i:=by
 cases i with
 |none=>trivial
 |int k =>
  simp only[tiB,B5]at h;obtain⟨⟨r,H⟩,I⟩:=h;split at r
  ·rename_i k' u;rw[of_decide_eq_true r]at u;exact⟨u,f9 H,l7 I⟩
  ·cases r
 |bool =>
  simp only[tiB,B5]at h;obtain⟨⟨r,H⟩,I⟩:=h;split at r
  ·rename_i u;exact⟨u,f9 H,l7 I⟩
  ·cases r
 |str =>
  simp only[tiB,B5]at h;obtain⟨⟨r,H⟩,I⟩:=h;split at r
  ·rename_i u;exact⟨u,f9 H,l7 I⟩
  ·cases r
 |ptr =>
  simp only[tiB,B5]at h;obtain⟨⟨r,H⟩,I⟩:=h;split at r
  ·rename_i e u;exact⟨⟨e,u⟩,f9 H,l7 I⟩
  ·cases r
 |fn =>
  simp only[tiB,B5]at h;obtain⟨⟨r,H⟩,I⟩:=h;split at r
  ·rename_i x y z u;exact⟨⟨x,y,z,u⟩,f9 H,l7 I⟩
  ·cases r
 |slice E e a0 =>
  simp only[tiB,B5]at h;obtain⟨⟨⟨⟨⟨⟨⟨r,H⟩,I⟩,Y⟩,M⟩,Z⟩,R⟩,J⟩:=h;have a1:e=.int .u8->P.underlying E=some (.int .u8):=by
   intro he;subst he;have J:u8B P E=true:=by simpa[isU8]using J
   unfold u8B at J;split at J
   ·rename_i hq;exact hq
   ·cases J
  split at r
  ·rename_i E' u;rw[CA r]at u;split at R
   ·rename_i ti X;simp only[B5]at R;obtain⟨h8,h9⟩:=R;split at h9
    ·rename_i z hz;have O:=f9 Z;unfold bW at O;rw[X]at O;simp only[CT,B3]at O;exact⟨u,f9 H,l7 I,by simpa[Cm]using Y,⟨by simpa[Cm]using M,a1⟩,ti,z,X,O,CA h8,hz,mQ h9⟩
    ·cases h9
   ·cases R
  ·cases r
 |arr e n =>
  simp only[tiB,B5]at h;obtain⟨⟨⟨r,H⟩,I⟩,Y⟩:=h;split at r
  ·rename_i m E u;simp only[B5]at r;obtain⟨⟨M,Z⟩,R⟩:=r;rw[CA M]at u;exact⟨⟨E,u,f9 Z,rv R⟩,by simpa[Cm]using H,f9 I,yL Y⟩
  ·cases r
 |struct a a2 =>
  simp only[tiB,B5,Cr,Ce]at h;obtain⟨⟨⟨⟨⟨r,H⟩,I⟩,Y⟩,M⟩,Z⟩:=h;split at r
  ·rename_i fs u;obtain⟨R,h8⟩:=qC r;refine⟨⟨fs,u,R,λi off n agg hx=>?_⟩,f9 H,yL I,?_,Z⟩
   ·obtain⟨q1,f,q2,q3⟩:=h8 i off n agg hx;exact⟨q1,f,by simpa using q2,q3⟩
   ·intro hf;rcases M with M|M
    ·rw[hf]at M;cases M
    ·exact Bf M Y hf
  ·cases r
def tlB (P:Program):List (TypeId×TI)->Bool
 |[]=>true
 |x::l=>tiB P x.1 x.2&&tlB P l
theorem iu:∀ {l:List (TypeId×TI)},tlB P l=true->TOk P (gn l):=by
 intro l h;refine ta ?_;induction l with
 |nil=>simp
 |cons x l u =>
  simp only[tlB,B5]at h;intro y r;rcases CH.1 r with rfl|r
  ·exact BX h.1
  ·exact u h.2 y r
end
section
variable {P:Program} {T:TypeId->TI}
theorem ll (hT:TOk P T)(Y:P.follows .mixedOrders=true){f:FuncId}{fn:Func}(hf:P.funcs[f]?=some fn)(hn:(fn.name== "runtime.NumGoroutine")=false) {E:TypeId} {e:Ty} {rs:List RK} {r:Bool}
  {Z:ab [PK.rd (.list false E e)]->Option (ai rs×ah [PK.rd (.list false E e)])} {R0 A B C:Code} {rid:Nat} {o0 o1:Oper} {d0 q t t':Nat} {x0:Operand} {L:List (Nat×List (Nat×List Coe))} {K:Nat}
  (hb:fn.body=some (.seq R0 (.seq (.seq (.region rid #[o0,o1] false) (.cond (.tmp q) A B)) C))) (bb:o0.guard=none) (d1:o0.op=.move x0) (b5:o1.op=.binOp .eql t (.tmp d0) (.const (.slice none 0 0)) t') (cb:o1.guard=none) (b0:o1.dst=some q)
  {E':TypeId} (ht:P.underlying t=some (.slice E'))
  (a4:(d6 fn.ntmps [] (.seq R0 (.seq (.seq (.region rid #[o0,o1] false) (.cond (.tmp q) A B)) C))&&DE 1 fn.ntmps&&DE fn.ntmps GH&&qG rs&&dz L [] (.seq R0 (.seq (.seq (.region rid #[o0,o1] false) (.cond (.tmp q) A B)) C)))=true)
  {S1:ab [PK.rd (.list false E e)]->St}
  (b9:∀ x,evK [] T L K R0 (av (dj 0 [PK.rd (.list false E e)] x)) (oZ (λs _=>act [] T o0 s (λU=>some (ac U s))) (λ_ _=>none))=some (S1 x))
  (O:∀ x,one (S1 x) (.tmp d0)=.ro true E e x.1)
  (hF:∀ x,evK [] T L K (.seq (.cond (.tmp q) A B) C) (ac (cn (S1 x) [] q .one [.bool false]) (S1 x)) (c9 T [PK.rd (.list false E e)] rs r fn.results.toList)=Z x)
  (cc:∀ x y,x.1=[]->Z x=some y->evK [] T L K (.seq (.cond (.tmp q) A B) C) (ac (cn (S1 x) [] q .one [.bool true]) (S1 x)) (c9 T [PK.rd (.list false E e)] rs r fn.results.toList)=some y) :
  bN P ⟨f,[PK.rd (.list false E e)],rs,r,Z⟩:=by
 refine⟨dy hf hn hb,λw ro x vs u y a0 c1 cw hy=>?_⟩;simp only[B5]at a4;obtain⟨⟨⟨⟨h1,h2⟩,h3⟩,h4⟩,h5⟩:=a4;have h2:=CW h2;have h3:=CW h3;have hV:ay (gw w ro [PK.rd (.list false E e)] vs u fn.ntmps):=⟨λk hk=>c1 k hk,h3⟩;have bl:=vO (P:=P) (ro:=ro) a0 cw h2 h3;have hnoΓ:∀ c∈([]:List Ctr),bN P c:=by simp
 have a7:∀ z∈(gw w ro [PK.rd (.list false E e)] vs u fn.ntmps).fixb,z.1∈([]:List Nat):=λz hz=>kw (ps:=[PK.rd (.list false E e)]) hz
 have M:∀ z∈(gw w ro [PK.rd (.list false E e)] vs u fn.ntmps).fixt,z.1∈([]:List Nat):=λz hz=>kv (ps:=[PK.rd (.list false E e)]) hz
 simp only[d6,B5]at h1;simp only[dz,B5]at h5;obtain⟨c3,⟨b1,cp⟩,c0⟩:=h1;obtain⟨cu,⟨_,c4⟩,bn⟩:=h5;refine calls_of_wp hf hb ?_;rw[DQ];generalize bx:bodyPost P fn (tW ⟨f,[PK.rd (.list false E e)],rs,r,Z⟩ w ro vs u y)=Q;have hQ:∀ ex s1,c9 T [PK.rd (.list false E e)] rs r fn.results.toList ex s1=some y->∀ a H,Rel P (gw w ro [PK.rd (.list false E e)] vs u fn.ntmps) s1 a H->Q (exOf ex) a H:=by
  intro ex s1 b2 a' H J;obtain⟨cy,v,X,a8⟩:=yI (c:=⟨f,[PK.rd (.list false E e)],rs,r,Z⟩) hT h4 hV a0 h2 b2 J;have cx:a'.defers=[]:=by obtain⟨W,J⟩:=J;exact J.df
  subst bx;rcases cy with rfl|rfl <;> exact⟨cx,v,X,a8⟩
 have a9:∀ (b:Bool),evK [] T L K (.seq (.cond (.tmp q) A B) C) (ac (cn (S1 x) [] q .one [.bool b]) (S1 x)) (c9 T [PK.rd (.list false E e)] rs r fn.results.toList)=some y ->
   ∀ a H,Rel P (gw w ro [PK.rd (.list false E e)] vs u fn.ntmps) (ac (cn (S1 x) [] q .one [.bool b]) (S1 x)) a H->(Code.cond (.tmp q) A B).wp P (Exit.then (C.wp P Q) Q) a H:=by
  intro b a6 a H J;refine sO hV hT hnoΓ Y a7 (nt:=fn.ntmps) (fix:=[]) rfl M (.cond (.tmp q) A B) (by simp only[d6,B5];exact cp) (by simp only[dz,B5];exact c4) _ _ y _ a6 (λex s1 I a H J=>?_) a H J;cases ex with
  |normal=>exact sO hV hT hnoΓ Y a7 (nt:=fn.ntmps) (fix:=[]) rfl M C c0 bn s1 _ y Q I hQ a H J
  |exit b6=>exact hQ (.exit b6) s1 I a H J
  |ret=>exact hQ .ret s1 I a H J
 have a3:∀ (i:Nat) (o:Oper),(#[o0,o1]:Array Oper)[i]?=some o->lO fn.ntmps [] #[o0,o1] o=true:=λi o hi=>by
  simp only[CQ]at b1;exact b1 o (by simpa using DA hi)
 refine wp_seq (sO hV hT hnoΓ Y a7 (nt:=fn.ntmps) (fix:=[]) rfl M R0 c3 cu _ _ (S1 x) _ (b9 x) (λex s0 I a H J=>?_) _ _ bl);cases ex with
 |exit b6=>cases I
 |ret=>cases I
 |normal =>
  have I:act [] T o0 s0 (λU=>some (ac U s0))=some (S1 x):=I;rw[ud]at I;obtain⟨U,hU,I⟩:=CY.1 I;simp only[B3]at I;refine wp_seq (wp_seq (wp_region ?_));have a2:DZ (#[o0,o1]:Array Oper).size=[0,1]:=rfl;rw[a2,wpOps_cons];refine w8 hV hT hnoΓ (ops:=#[o0,o1]) (i:=0) (o:=o0) rfl (mM rfl M (a3 0 o0 rfl)) (λj d2 hg=>by rw[bb]at hg;cases hg) (U:=U) (by unfold mJ;rw[bb];exact hU) J (λa1 w1 R=>?_);rw[I]at R;rw[wpOps_cons];obtain⟨W1,R⟩:=R;have a5:bU (gw w ro [PK.rd (.list false E e)] vs u fn.ntmps) o1:=mM rfl M (a3 1 o1 rfl);obtain⟨h7,_,_,_,_⟩:=bA R (.tmp d0) (by rw[O x];simp);rw[O x]at h7;obtain⟨A',ba,hv,_,c2⟩:=h7;have hv:a1.eval (.tmp d0)=.slice A' x.1.length ba:=by simpa using hv
  have b3:A'=none->x.1=[]:=λhA=>by
   cases hx:x.1 with
   |nil=>rfl
   |cons y ys =>
    obtain⟨g,o,b4,_⟩:=c2 (by rw[hx];simp);rw[hA]at b4;cases b4
  have a6:evK [] T L K (.seq (.cond (.tmp q) A B) C) (ac (cn (S1 x) [] q .one [.bool A'.isNone]) (S1 x)) (c9 T [PK.rd (.list false E e)] rs r fn.results.toList)=some y:=by
   cases hA:A' with
   |none=>exact cc x y (b3 hA) hy
   |some ad=>exact (hF x).trans hy
  have X:(execOp a1.eval o1).run P w1=.ok (.value (.bool A'.isNone)) w1:=by
   have:=Lib.run_eql_slice_nil (P:=P) w1 t E' A' x.1.length ba 0 0 ht;have hc:a1.eval (.const (.slice none 0 0))=.slice none 0 0:=rfl;simp[execOp,b5,hv,hc,eqGuard,this]
  unfold wpOp;have hi:(#[o0,o1]:Array Oper)[1]?=some o1:=rfl;simp only[hi];have hw:Region.wanted o1 (yielded #[o0,o1] a1.tmps)=true:=by simp[Region.wanted,cb]
  rw[if_pos hw];refine .inl (eh X ?_);rw[b0];show Exit.then _ _ _ _ _;exact a9 _ a6 _ _ (R.putLs hV q (a5 q b0).1 (a5 q b0).2 _ .one [.bool A'.isNone] (.bool A'.isNone) [.bool A'.isNone] (Cj _) rfl ⟨⟨rfl,id,rfl⟩,trivial⟩)
end
open Go.ChangeShapes Go.WideShapes
section
variable {H:Type} {enc:TypeId×Value->H} {P:Program}
theorem mT (M:laidOutB P=true){W W':World}{J:Nat->Bool}:∀ {y:List TypeId} {I:List Value} {ds:List (DataW H)} {ps:List MemPlace},(∀ t∈y,P.readableRec t=true/\t<P.types.size) ->
  DataW.TrodAll enc P W 0 (λ_=>true) true y I ds ps->(∀ x∈ps,W.sameAt W' x)->(∀ x∈ps,J x.block=true)->DataW.TrodAll enc P W' 0 J true y I ds ps
 |[],[],[],_,_,h,_,_=>h
 |[],[],_::_,_,_,h,_,_=>h.elim
 |[],_::_,_,_,_,h,_,_=>h.elim
 |_::_,[],_,_,_,h,_,_=>h.elim
 |_::_,_::_,[],_,_,h,_,_=>h.elim
 |t::y,v::I,d::ds,ps,z,⟨p,q,R,X,e⟩,O,u=>by
  subst e;refine⟨p,q,WideElems.Trod_stays M (z t (B9 ..)).1 (z t (B9 ..)).2 R (λx r=>O x (B6 _ r)) (λx r=>u x (B6 _ r)),
   mT M (λY Z=>z Y (B8 _ Z)) X (λx r=>O x (B7 _ r)) (λx r=>u x (B7 _ r)),rfl⟩
theorem sy (hl:laidOutB P=true){f:Func}{s:ChangeSpec}{I O u X:Bool}{W W':World}{z:Array Value}{ds gs:List (DataW H)}{r:List MemPlace}
  (hW:DataW.Whole enc P f.params.toList s.vars I W z.toList ds gs r) (J:s.vars=[]) (hb:Below W.heap.size W W') (a1:∀ t∈f.params.toList,P.readableRec t=true/\t<P.types.size)
  {tb:TypeId} (R:f.resultTypes=#[tb]) (y:P.underlying tb=some .bool) (a2:(s.fn H (ds++gs)).results=[.lit (.bool true)]) (Y:(s.fn H (ds++gs)).args=ds) (a5:(s.fn H (ds++gs)).vars=[]) :
  s.post enc P f I O u X W z (.bool true) W':=by
 have Z:∀ p∈r,p.block<W.heap.size:=λp hp=>by simpa using hW.lt p hp
 have a7:=hW;obtain⟨p,q,hA,hV,e,hz,hn⟩:=hW;rw[J]at hV;obtain⟨rfl,rfl⟩:=trodVars_none hV;simp only[List.append_nil]at e;subst e;have a0:∀ x∈r,W.sameAt W' x:=λx hx=>hb.same (Z x hx)
 have a6:(Value.bool true).resultList f.resultTypes.size=[.bool true]:=by rw[R];rfl
 have hr:∀ (b:Nat) (M:Nat->Bool) (hd:Bool),DataW.TrodAll enc P W' b M hd f.resultTypes.toList ((Value.bool true).resultList f.resultTypes.size) (s.fn H (ds++[])).results []:=by
  intro b M hd;rw[a6,a2,R];exact trodAll_mk1 (shut_bool y true)
 have ha:∀ (M:Nat->Bool),(∀ x∈r,M x.block=true)->DataW.TrodAll enc P W' 0 M true f.params.toList z.toList (s.fn H (ds++[])).args r:=by
  intro M a3;rw[Y];exact mT hl a1 hA a0 a3
 have hv:∀ (M:Nat->Bool),DataW.TrodVars enc P W' M s.vars (s.fn H (ds++[])).vars []:=by
  intro M;rw[J,a5];rfl
 refine⟨ds,[],r,[],r,[],a7,hr _ _ _,ha _ (λx hx=>by simpa using Z x hx),hv _,hb.frame _,λ_=>⟨ok_one R rfl (okWide_bool_mk y true),_,_,([]++r)++[],⟨[]++r,[],trodAll_append (ha _ (λ_ _=>rfl)) (hr _ _ _),hv _,rfl,?_,?_⟩,?_⟩⟩
 ·intro b off hp;have hp:MemPlace.cell b off∈r:=by simpa using hp
  rw[hb.frozen (p:=⟨b,off,none⟩) (Z _ hp)];exact hz b off hp
 ·intro a4;have:=hn a4;simpa using this
 ·intro x hx _;simpa using hx
end
section
variable {H:Type} {enc:TypeId×Value->H} {P:Program} {w:World} {base:Nat} {spare:Nat->Bool} {held:Bool}
def shF (P:Program)(g:Ty->TypeId->Bool):List Field->Nat->Ty->Bool
 |[],_,_=>false
 |[f],off,b=>CC f.offset off&&CC (P.cellsOf f.type) b.cells&&g b f.type
 |f::r,off,.pair b c=>CC f.offset off&&CC (P.cellsOf f.type) b.cells&&g b f.type&&shF P g r (off+b.cells) c
 |_,_,_=>false
def shT (P:Program):Nat->Ty->TypeId->Bool
 |0,_,_=>false
 |n+1,a,t=>match a with
  |.int k=>(match P.underlying t with|some (.int k')=>decide (k'=k)|_=>false)
  |.bool=>(match P.underlying t with|some .bool=>true|_=>false)
  |.str=>(match P.underlying t with|some .string=>true|_=>false)
  |.pair b c=>(match P.underlying t with|some (.struct fs)=>shF P (shT P n) fs.toList 0 (.pair b c)&&CC (P.cellsOf t) (b.cells+c.cells)|_=>false)
  |.list _ E e=>(match P.underlying t with|some (.slice E')=>CC E' E&&CC (P.cellsOf E) e.cells&&C7 0 e.cells&&shT P n e E|_=>false)
  |.unit=>false
  |.hdr=>false
def Sm:(a:Ty)->a.den->Prop
 |.int k,n=>(Lit.int k n).wf=true
 |.pair a b,x=>Sm a x.1/\Sm b x.2
 |.list _ _ e,r=>r.length<=maxLen/\∀ x∈(r:List e.den),Sm e x
 |.bool,_=>True
 |.str,s=>s.size<=maxLen
 |.unit,_=>True
 |.hdr,_=>True
theorem lm {α β:Type}{f:α->Option β}:∀ (l:List α) (r:List β),l.mapM f=some r->r.length=l.length/\∀ (i:Nat) (x:α),l[i]?=some x->∃ y,f x=some y/\r[i]?=some y
 |[],r,h=>by
  simp at h;subst h;exact⟨rfl,λi x M=>by simp at M⟩
 |x::l,r,h=>by
  rw[DD]at h;cases z:f x with
  |none=>rw[z]at h;cases h
  |some y =>
   rw[z]at h;cases J:l.mapM f with
   |none=>rw[J]at h;cases h
   |some X =>
    rw[J]at h;cases h;obtain⟨O,R⟩:=lm l X J;refine⟨by simp[O],λi u I=>?_⟩;cases i with
    |zero=>simp at I;subst I;exact⟨y,z,rfl⟩
    |succ i=>simpa using R i u (by simpa using I)
theorem sn {a:Addr}{n:Nat}{cs:List Value}(h:w.cells? base a n=some cs):base<=a.block/\cs.length=n/\∀ i u,cs[i]?=some u->w.cell? (a.add i)=some u:=by
 unfold World.cells? at h;split at h
 ·rename_i J;obtain⟨r,M⟩:=lm _ _ h;refine⟨J,by simpa using r,λi u z=>?_⟩;have R:i<n:=by have:=(CD.1 z).1;rw[r]at this;simpa using this
  obtain⟨y,O,I⟩:=M i i (by simp[R]);rw[z]at I;cases I;exact O
 ·cases h
theorem oU {g:Ty->TypeId->Bool}{rd:TypeId->List Value->Option (DataW H×List MemPlace)}
  (R:∀ b t,g b t=true->∀ cs d,rd t cs=some d->∃ x:b.den,Rd w (λk=>k<w.heap.size) b x cs/\Sm b x) :
  ∀ (fs:List Field) (off:Nat) (b:Ty),shF P g fs off b=true->∀ (cs:List Value),cs.length=off+b.cells ->
   (∀ f∈fs,∃ d,rd f.type ((cs.drop f.offset).take (P.cellsOf f.type))=some d)->∃ x:b.den,Rd w (λk=>k<w.heap.size) b x (cs.drop off)/\Sm b x
 |[],_,_,h=>by simp[shF]at h
 |[f],off,b,h=>by
  intro cs I M;simp only[shF,B5]at h;obtain⟨⟨r,u⟩,X⟩:=h;have r:=CA r;have u:=CA u;obtain⟨d,J⟩:=M f (B9 ..);rw[r,u,List.take_of_length_le (by simp;omega)]at J;exact R b f.type X _ d J
 |f::z::fs,off,.pair b c,h=>by
  intro cs I M;simp only[shF,B5]at h;obtain⟨⟨⟨r,u⟩,X⟩,h4⟩:=h;have r:=CA r;have u:=CA u;have I:cs.length=off+(b.cells+c.cells):=I;obtain⟨d,J⟩:=M f (B9 ..);rw[r,u]at J;obtain⟨x,hx,Z⟩:=R b f.type X _ d J;obtain⟨y,hy,O⟩:=oU R (z::fs) (off+b.cells) c h4 cs (by omega) (λf0 Y=>M f0 (B8 _ Y));refine⟨(x,y),⟨_,_,?_,hx,hy⟩,Z,O⟩;rw[<- DB,List.take_append_drop]
 |f::z::fs,off,.int _,h=>by simp[shF]at h
 |f::z::fs,off,.bool,h=>by simp[shF]at h
 |f::z::fs,off,.str,h=>by simp[shF]at h
 |f::z::fs,off,.unit,h=>by simp[shF]at h
 |f::z::fs,off,.list _ _ _,h=>by simp[shF]at h
 |f::z::fs,off,.hdr,h=>by simp[shF]at h
theorem oV {β:Type}(Q:Nat->β->Prop):∀ (n:Nat),(∀ i,i<n->∃ x,Q i x)->∃ u:List β,u.length=n/\∀ i x,u[i]?=some x->Q i x
 |0,_=>⟨[],rfl,λi x h=>by simp at h⟩
 |n+1,h=>by
  obtain⟨u,I,M⟩:=oV Q n (λi O=>h i (by omega));obtain⟨x,J⟩:=h n (by omega);refine⟨u++[x],by simp[I],λi y r=>?_⟩;by_cases O:i<n
  ·rw[CU (by omega)]at r;exact M i y r
  ·have z:i<(u++[x]).length:=(CD.1 r).1;have:i=n:=by simp at z;omega
   subst this;rw[CS (by omega),I,Nat.sub_self]at r;simp at r;subst r;exact J
theorem rx:∀ (n:Nat) (a:Ty) (t:TypeId),shT P n a t=true->∀ (I:Nat) (cs:List Value) (d:DataW H×List MemPlace),DataW.trod enc P w base spare held I t cs=some d ->
    ∃ x:a.den,Rd w (λk=>k<w.heap.size) a x cs/\Sm a x
  |0,_,_,h=>by simp[shT]at h
  |n+1,a,t,h=>by
    intro I cs d r;cases I with
    |zero=>simp[DataW.trod]at r
    |succ I =>
      cases a with
      |int k =>
        simp only[shT]at h;split at h
        · rename_i k' O
          have hk:=of_decide_eq_true h;subst hk;simp only[DataW.trod,O]at r;split at r <;> first|(rename_i M;cases M;done)|skip
          all_goals first
            | (rename_i k1 k2 m J
               cases J;split at r
               · rename_i hw
                 obtain⟨rfl,hw⟩:=hw;exact⟨m,rfl,hw⟩
               · cases r)
            |cases r
        · cases h
      |bool =>
        simp only[shT]at h;split at h
        · rename_i O
          simp only[DataW.trod,O]at r;split at r <;> first|(rename_i M;cases M;done)|skip
          all_goals first
            |(rename_i b J;exact⟨b,rfl,trivial⟩)
            |cases r
        · cases h
      |str =>
        simp only[shT]at h;split at h
        · rename_i O
          simp only[DataW.trod,O]at r;split at r <;> first|(rename_i M;cases M;done)|skip
          all_goals first
            | (rename_i b J
               split at r
               · rename_i hb
                 exact⟨b,rfl,hb⟩
               · cases r)
            |cases r
        · cases h
      |unit=>simp[shT]at h
      |hdr=>simp[shT]at h
      |pair b c =>
        simp only[shT]at h;split at h
        · rename_i fs O
          simp only[B5]at h;obtain⟨h1,X⟩:=h;have X:=CA X;simp only[DataW.trod,O]at r;split at r
          · rename_i a4
            simp only[CB]at r;obtain⟨ys,b2,_⟩:=r;obtain⟨h3,h4⟩:=lm _ _ b2;have:=oU (w:=w) (rd:=DataW.trod enc P w base spare held I) (λb t hb cs d r=>rx n b t hb I cs d r) fs.toList 0 (.pair b c) h1 cs (by rw[a4,X,Ck];rfl) (λf hf=>by
              obtain⟨i,hi,e⟩:=DJ hf;obtain⟨y,h5,_⟩:=h4 i f (by rw[CK hi,e]);exact⟨y,h5⟩)
            simpa using this
          · cases r
        · cases h
      |list m E e =>
        simp only[shT]at h;split at h
        · rename_i E' O
          simp only[B5]at h;obtain⟨⟨⟨h1,X⟩,h3⟩,h4⟩:=h;have h1:=CA h1;subst h1;have X:=CA X;have h3:0<e.cells:=by simpa[Cm]using h3
          simp only[DataW.trod,O]at r;split at r <;> first|(rename_i M;cases M;done)|skip
          all_goals first
            |cases r;done
            |skip
          · exact⟨[],Rd.nil w _ m _ e,DV _,by simp⟩
          · rename_i E2 R a5 b1 J
            cases J;split at r
            · rename_i hc
              obtain⟨b0,b9,b5⟩:=hc;obtain⟨b6,a3,_⟩:=CY.1 r;obtain⟨h5,h6⟩:=lm _ _ a3;have a9:∀ i,i<a5->∃ x:e.den,∃ c,w.cells? base (R.add (i*e.cells)) e.cells=some c/\Rd w (λk=>k<w.heap.size) e x c/\Sm e x:=by
                intro i hi;obtain⟨y,h7,_⟩:=h6 i i (by simp[hi]);obtain⟨c,h8,h9⟩:=CY.1 h7;rw[X]at h8;obtain⟨x,hx,b4⟩:=rx n e _ h4 I c y h9;exact⟨x,c,h8,hx,b4⟩
              obtain⟨xs,a8,a0⟩:=oV (λi (x:e.den)=>∃ c,w.cells? base (R.add (i*e.cells)) e.cells=some c/\Rd w (λk=>k<w.heap.size) e x c/\Sm e x) a5 a9;refine⟨xs,⟨some R,b1,by rw[a8],by omega,λhp=>?_⟩,by omega,λx hx=>?_⟩
              · have b3:0<xs.length:=hp
                obtain⟨c,Y,a6,_⟩:=a0 0 xs[0] (CK b3);obtain⟨_,ba,Z⟩:=sn Y;have h0:0<c.length:=by omega
                have z:=Z 0 c[0] (CK h0);have e0:(R.add (0*e.cells)).add 0=R:=by simp[Addr.add]
                rw[e0]at z;have a1:R.spot=none/\R.block<w.heap.size:=by
                  unfold World.cell? at z;split at z
                  · rename_i hh
                    split at z
                    · cases z
                    · rename_i hs
                      refine⟨by simpa using hs,(Cw.1 hh).1⟩
                  · cases z
                obtain⟨g,o,sp⟩:=R;obtain⟨a2,a7⟩:=a1;simp only at a2 a7;subst a2;refine⟨g,o,rfl,a7,λj x hj=>?_⟩;obtain⟨c,Y,a6,_⟩:=a0 j x hj;obtain⟨_,_,Z⟩:=sn Y;refine⟨c,a6,λi u hi=>?_⟩;have:=Z i u hi
                rwa [fp,fp]at this
              · obtain⟨j,hj,e1⟩:=DJ hx
                obtain⟨c,_,_,hs⟩:=a0 j x (by rw[CK hj,e1]);exact hs
            · cases r
        · cases h
end
section
variable {H:Type} {enc:TypeId×Value->H} {P:Program} {w:World}
theorem zV {n:Nat}{a:Ty}{t:TypeId}(r:shT P (n+1) a t=true){v:Value}{d:DataW H}{p:List MemPlace}(J:DataW.Trod enc P w 0 (λ_=>true) true t v d p){base:Nat}(u:Dc P w .any base t v) :
  ∃ x:a.den,(∃ z,dn a.isAgg v z/\Rd w (λk=>k<w.heap.size) a x z)/\Sm a x:=by
 obtain⟨I,J⟩:=J;obtain⟨x,X,M⟩:=rx (n+1) a t r I _ _ J;refine⟨x,⟨v.cells.toList,?_,X⟩,M⟩;cases a with
 |int k =>
  simp only[shT]at r;split at r
  ·rename_i k' y;obtain⟨n,rfl⟩:=okWide_int y u;rfl
  ·cases r
 |bool =>
  simp only[shT]at r;split at r
  ·rename_i y;obtain⟨n,rfl⟩:=okWide_bool y u;rfl
  ·cases r
 |str =>
  simp only[shT]at r;split at r
  ·rename_i y;obtain⟨n,rfl⟩:=okWide_string y u;rfl
  ·cases r
 |list m E e =>
  simp only[shT]at r;split at r
  ·rename_i Y y;obtain⟨A,R,O,rfl⟩:=okWide_slice y u;rfl
  ·cases r
 |unit=>simp[shT]at r
 |hdr=>simp[shT]at r
 |pair b c =>
  simp only[shT]at r;split at r
  ·rename_i Z y;obtain⟨z,rfl,_⟩:=okWide_struct y u;show Value.agg z=.agg (Value.agg z).cells.toList.toArray;simp[Value.cells]
  ·cases r
def Sms:(as:List Ty)->ab (as.map .rd)->Prop
 |[],_=>True
 |a::as,x=>Sm a x.1/\Sms as x.2
def uw (P:Program):List Ty->List TypeId->Bool
 |[],[]=>true
 |a::as,t::r=>shT P 64 a t&&uw P as r
 |_,_=>false
theorem so {pr:Nat->Prop}:∀ (as:List Ty) (z:List TypeId) (u:List Value) (ds:List (DataW H)) (ps:List MemPlace),uw P as z=true->DataW.TrodAll enc P w 0 (λ_=>true) true z u ds ps ->
  (∃ r,∀ (j:Nat) (t:TypeId) (v:Value),z[j]?=some t->u[j]?=some v->Dc P w .any r t v)->∃ x:ab (as.map .rd),dl P w (λk=>k<w.heap.size) pr (as.map .rd) x u (as.map λ_=>[])/\Sms as x
 |[],[],[],[],_,_,_,_=>⟨(),⟨rfl,rfl⟩,trivial⟩
 |[],[],[],_::_,_,_,h,_=>h.elim
 |[],[],_::_,_,_,_,h,_=>h.elim
 |[],_::_,_,_,_,h,_,_=>by simp[uw]at h
 |_::_,[],_,_,_,h,_,_=>by simp[uw]at h
 |_::_,_::_,[],_,_,_,h,_=>h.elim
 |_::_,_::_,_::_,[],_,_,h,_=>h.elim
 |a::as,t::z,v::u,d::ds,ps,M,⟨p,q,R,X,_⟩,⟨r,I⟩=>by
  simp only[uw,B5]at M;obtain⟨x,hx,O⟩:=zV (n:=63) M.1 R (I 0 t v rfl rfl);obtain⟨y,Z,J⟩:=so as z u ds q M.2 X ⟨r,λj Y v' h3 h4=>I (j+1) Y v' (by simpa using h3) (by simpa using h4)⟩;exact⟨(x,y),⟨v,u,[],_,rfl,rfl,⟨rfl,hx⟩,Z⟩,O,J⟩
theorem zW (tys:List Ty):(tys.map λ_=>([]:List Nat)).flatten=[]:=by
 induction tys with
 |nil=>rfl
 |cons a tys r=>simp
theorem yM {f:FuncId}{tys:List Ty}{y:Bool}{O:ab (tys.map PK.rd)->Option (ai [.v .bool]×ah (tys.map PK.rd))}(hs:bN P ⟨f,tys.map .rd,[.v .bool],y,O⟩){x:ab (tys.map .rd)}{vs:List Value}{o:ah (tys.map .rd)}
  (hx:dl P w (λk=>k<w.heap.size) (λk=>k<w.heap.size) (tys.map .rd) x vs (tys.map λ_=>[])) (hd:O x=some ((true,()),o)):Calls P f vs.toArray w (λe w'=>e=.returned (.bool true)/\Below w.heap.size w w'):=by
 have R:=zW tys;have:=hs.2 w (λk=>k<w.heap.size) x vs _ _ (hx.mono (λ_ h=>h) (λk J=>⟨J,by rw[R];simp⟩)) (λk J=>⟨J,by rw[R];simp⟩) (by rw[R];exact Cy) hd;refine this.mono λe w' hp=>?_
 obtain⟨v,us,N,a4,a5,rfl,r,a1,a0,Y,Z,X,_,_,M,_,_⟩:=hp;refine⟨?_,⟨a0,Y,Z,a1,λk J=>X k J (by rw[R];simp)⟩⟩;obtain⟨u,a3,b,a2,e1,e2,⟨cs,z,I⟩,e3,e4⟩:=M;subst e3;subst e1;have r:v=u:=r;subst r;have z:cs=[v]:=z;have I:cs=[.bool true]:=I.1;rw[z]at I;simp only[C8,and_true]at I;rw[I]
end
end Go.Proofs.YtadlacffdemoiaaGreatEv
