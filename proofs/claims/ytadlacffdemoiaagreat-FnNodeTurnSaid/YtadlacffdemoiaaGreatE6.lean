/- One operation looks at some slots alone. -/
import Derived.Test.YtadlacffdemoiaaGreatE3
import Derived.Laws.StructEq
import Derived.Lib.SliceRun
import Derived.ProofKit
set_option linter.unusedVariables false
set_option linter.unusedSimpArgs false
open Array renaming getElem?_eq_getElem->B5,getD_eq_getD_getElem?->B6,replicate->CS,all_eq_true_iff_forall_mem->Cd,getElem?_eq_some_iff->Cm,getElem?_append_left->Cn,getElem?_replicate->Ct,mem_of_getElem?->Cy,length_toList->C6,mem_append->DI
open Bool renaming and_eq_true->BS,not_eq_true'->CU,or_eq_true->Ch,false_eq_true->Ck,and_false->Cl,and_true->Cs,true_and->DA,not_false->DQ
open Classical renaming byContradiction->CL
open Go.ByteArray renaming toList_eq->C8
open Go.Result renaming andThen_ok->CY
open Go.Sem renaming run_bind->Ce,run_pure->DF
open Go.Value renaming okWide->DS
open List renaming mem_append->BR,mem_append_left->BT,mem_append_right->BU,mem_cons_of_mem->BV,mem_cons_self->BW,getElem?_eq_some_iff->B3,mem_map->B4,mem_cons->B7,getD_eq_getElem?_getD->B8,flatten_cons->B9,getElem?_eq_getElem->CA,mem_flatMap->CC,count_append->CD,mem_singleton_self->CE,count_pos_iff->CF,all_eq_true->CG,map_cons->CH,getElem?_append_right->CI,getElem?_append_left->CK,append_assoc->CN,nil_append->CP,mem_singleton->CQ,nodup_cons->CR,length_cons->CW,nodup_append->CX,mem_filter->Cb,any_eq_true->Cg,map_append->Ci,count_cons->Cj,nodup_nil->Co,count_eq_zero->Cp,any_eq_false->Cq,all_cons->Cr,getElem?_cons_succ->Cu,getElem?_eq_none->Cx,drop_drop->Cz,mapM_cons->C3,map_congr_left->C5,countP_eq_zero->C7,getElem_of_mem->C9,set_cons_succ->DB,find?_eq_none->DD,getElem?_map->DE,size_toArray->DG,mem_toArray->DH,countP_cons->DJ,foldl_cons->DN,range->DP,map_nil->DR
open List.cons renaming injEq->Cw
open Nat renaming eq_of_beq_eq_true->BX,beq->BZ,le_of_ble_eq_true->CM,lt_succ_self->CZ,zero_add->Ca,blt_eq->Cc,blt->Cv,le_refl->C0,ble->C4,lt_of_lt_of_le->DC,zero_le->DL,strongRecOn->DO
open Option renaming map_eq_some_iff->BY,map_some->CJ,bind_eq_some_iff->CO,bind_assoc->CT,bind_some->CV,bind_none->Cf,getD_some->DK
open Option.some renaming injEq->BQ,inj->DM
open Prod.mk renaming injEq->CB
namespace Go.Proofs.YtadlacffdemoiaaGreatEv
open Go Go.RowKit
section
variable {P:Program} {V:Env} {Γ:List Ctr} {T:TypeId->TI} {st st':St} {o:Oper} {R:Type} {κ:Upd->Option R} {r:R}
theorem gH {α β:Type}(b:Bool)(x y:Option α)(f:α->Option β):(bif b then x else y).bind f=bif b then x.bind f else y.bind f:=by cases b <;> rfl
theorem wK {b:Option (Bool×Nat×Nat)}{U:Upd}:jT st b U κ=(jT st b U some).bind κ:=by
 unfold jT;split
 ·split
  ·simp only[CT];congr 1;funext y;split <;> rfl
  ·rfl
 ·rfl
theorem wL {d:Nat}{f:FuncId}{xs:List (aG×List Leaf)}:jq Γ st d f xs κ=(jq Γ st d f xs some).bind κ:=by
 unfold jq;cases lR Γ f with
 |none=>rfl
 |some c =>
  simp only[gG,CT];congr 1;funext u;cases oT Γ (ac u.1 st) c.ps u.2.1 with
  |none=>rfl
  |some g =>
   simp only[gH,CT,Cf];congr 2;funext y;exact wK
theorem mL {z:St}{H:Upd}{d:Nat}{E:TypeId}{e:Ty}{u:Nat}{p:Bool}{xs:List e.den}{ks:List (Nat×Nat)}{y:Leaf}:dW st z H d E e u p xs ks y κ=(dW st z H d E e u p xs ks y some).bind κ:=by
 unfold dW;split
 ·simp only[gH,Cf,CV]
 ·rfl
theorem tU {z:Upd}{d:Nat}{E:TypeId}{e:Ty}{u:Nat}{x y:Leaf}:ew st z d E e u x y κ=(ew st z d E e u x y some).bind κ:=by
 unfold ew;split
 ·split
  ·rw[gH,<- mL];rfl
  ·rfl
 ·exact mL
 ·rfl
theorem tV {d:Nat}{E:TypeId}{e:Ty}{u:Nat}{x y:Leaf}:iB st d E e u x y κ=(iB st d E e u x y some).bind κ:=by
 unfold iB;simp only[hZ,gH,CT,<- tU]
theorem nz {r j i off n:Nat}{p:Bool}{E:TypeId}{e:Ty}{xs:List e.den}{h:Option (Nat×Nat)}{ls:List Leaf}:gM st r j i off n p E e xs h ls κ=(gM st r j i off n p E e xs h ls some).bind κ:=by
 unfold gM;simp only[CT];congr 1;funext u;split
 ·rw[gH];congr 1;split
  ·rfl
  ·simp only[gH,CV,Cf]
 ·rfl
theorem tW:act Γ T o st κ=(act Γ T o st some).bind κ:=by
 cases u:o.op <;> simp only[act,wrU,u] <;> (repeat' split) <;>
  (try simp only[gH,CT,Cf,CV]) <;> (try rfl) <;> (try exact wL) <;> (try (rw[tV];done)) <;> (try (rw[nz];done)) <;> (try (rw[<- nz];done))
theorem bm {q:Nat}(h:st' q=st q):∀ (U:Upd),ac U st' q=ac U st q
 |[]=>h
 |(r,c)::U=>by simp only[ac,bm h U]
theorem dV {x:Operand}(h:∀ t,x=.tmp t->st' t=st t):au st' x=au st x:=by
 cases x with
 |tmp t=>simp only[au,h t rfl]
 |_=>rfl
theorem dG {x:Operand}(h:∀ t,x=.tmp t->st' t=st t):one st' x=one st x:=by
 unfold one;rw[dV h]
theorem li:∀ (y u:List Leaf),aw (y++u)=aw y++aw u
 |[],_=>rfl
 |l::y,u=>by cases l <;> simp[aw,li y u]
theorem aK (l:Leaf)(ls:List Leaf):aw (l::ls)=aw [l]++aw ls:=li [l] ls
theorem fH:∀ (n:Nat) (ls:List Leaf) (q:Nat),q∈aw (ls.drop n)->q∈aw ls
 |0,_,_,h=>h
 |n+1,[],_,h=>h
 |n+1,l::ls,q,h=>by rw[aK];exact BU _ (fH n ls q h)
theorem rR:∀ (n:Nat) (ls:List Leaf) (q:Nat),q∈aw (ls.take n)->q∈aw ls
 |0,_,_,h=>by simp[aw]at h
 |n+1,[],_,h=>by simp[aw]at h
 |n+1,l::ls,q,h=>by
  rw[List.take_succ_cons,aK,BR]at h;rw[aK,BR];exact h.imp id (rR n ls q)
theorem qX:∀ {ls:List Leaf} {k:Nat} {l:Leaf},ls[k]?=some l->∀ q∈aw [l],q∈aw ls
 |[],_,_,h,_,_=>by simp at h
 |y::ls,0,l,h,q,u=>by simp at h;subst h;rw[aK];exact BT _ u
 |y::ls,k+1,l,h,q,u=>by rw[aK];exact BU _ (qX (by simpa using h) q u)
theorem jH {ks:List (Nat×Nat×Nat)}{ep:Nat}(h:∀ q∈EPO::ks.map (·.1),st' q=st q):bq st' ks ep=bq st ks ep:=by
 unfold bq;rw[h EPO (BW ..)];congr 1;induction ks with
 |nil=>rfl
 |cons k ks y =>
  rw[Cr,Cr,y (λq u=>h q (by simp at u ⊢;rcases u with u|u;exact .inl u;exact .inr (.inr u))),h k.1 (by simp)]
theorem iw {p:Bool}{ks:List (Nat×Nat×Nat)}{ep:Nat}{u:Option (Nat×Nat×Nat)}{E:TypeId}{e:Ty}{xs:List e.den}:aw [.nal p ks ep u E e xs]=EPO::ks.map (·.1):=by simp[aw]
theorem vz {p:Bool}{ks:List (Nat×Nat×Nat)}{ep:Nat}{a:Ty}{x:a.den}{off:Nat}:aw [.np p ks ep a x off]=EPO::ks.map (·.1):=by simp[aw]
theorem cl {l:Leaf}(h:∀ q∈aw [l],st' q=st q):aD st' l=aD st l:=by
 cases l with
 |al r j v=>simp only[aD,h r (by simp[aw])]
 |nal p z ep u E e y=>rw[iw]at h;simp only[aD,jH h]
 |_=>rfl
theorem jR:∀ (a:Ty) (ls:List Leaf) (p:Bool) (x:a.den) (u:List Leaf),a7 st a ls=some (p,x,u)->∃ I,ls=I++u
 |.int k,ls,p,x,u,h=>by
  simp only[a7]at h;split at h
  ·split at h
   ·simp at h;exact⟨[_],by rw[<- h.2.2];rfl⟩
   ·cases h
  ·cases h
 |.bool,ls,p,x,u,h=>by
  simp only[a7]at h;split at h
  ·simp at h;exact⟨[_],by rw[<- h.2.2];rfl⟩
  ·cases h
 |.str,ls,p,x,u,h=>by
  simp only[a7]at h;split at h
  ·simp at h;exact⟨[_],by rw[<- h.2.2];rfl⟩
  ·cases h
 |.unit,ls,p,x,u,h=>by
  simp only[a7,BQ,CB]at h;exact⟨[],by rw[h.2.2];rfl⟩
 |.hdr,ls,p,x,u,h=>by
  simp only[a7]at h;split at h
  ·split at h
   ·simp at h;exact⟨[_],by rw[<- h.2.2];rfl⟩
   ·cases h
  ·cases h
 |.pair a b,ls,p,x,u,h=>by
  simp only[a7]at h;split at h
  ·rename_i q y H ha;split at h
   ·rename_i Z z J M;simp at h;obtain⟨I,Y⟩:=jR a ls q y H ha;obtain⟨O,X⟩:=jR b H Z z J M;exact⟨I++O,by rw[Y,X,h.2.2,CN]⟩
   ·cases h
  ·cases h
 |.list m E e,ls,p,x,u,h=>by
  simp only[a7]at h;split at h
  ·split at h
   ·simp at h;exact⟨[_],by rw[<- h.2.2];rfl⟩
   ·cases h
  ·cases h
theorem gI:∀ (a:Ty) (ls:List Leaf),(∀ q∈aw ls,st' q=st q)->a7 st' a ls=a7 st a ls
 |.int k,ls,h=>rfl
 |.bool,ls,h=>rfl
 |.str,ls,h=>rfl
 |.unit,ls,h=>rfl
 |.hdr,ls,h=>by
  cases ls with
  |nil=>rfl
  |cons l ls =>
   simp only[a7];rw[cl (l:=l) (λq z=>h q (by rw[aK];exact BT _ z))]
 |.pair a b,ls,h=>by
  simp only[a7,gI a ls h];cases I:a7 st a ls with
  |none=>rfl
  |some x =>
   obtain⟨p,y,u⟩:=x;obtain⟨J,H⟩:=jR a ls p y u I;simp only;rw[gI b u (λq z=>h q (by rw[H,li];exact BU _ z))]
 |.list m E e,ls,h=>by
  cases ls with
  |nil=>rfl
  |cons l ls =>
   simp only[a7];rw[cl (l:=l) (λq z=>h q (by rw[aK];exact BT _ z))]
theorem eJ {a:Ty}{ls:List Leaf}(h:∀ q∈aw ls,st' q=st q):cR st' a ls=cR st a ls:=by
 unfold cR;rw[gI a ls h]
theorem nA {e:Ty}:∀ (n:Nat) (ls:List Leaf),(∀ q∈aw ls,st' q=st q)->fF st' e n ls=fF st e n ls
 |0,_,_=>rfl
 |n+1,ls,h=>by
  simp only[fF,eJ (ls:=ls.take e.cells) (λq u=>h q (rR _ _ q u)),nA n (ls.drop e.cells) (λq u=>h q (fH _ _ q u))]
theorem jj:∀ {ls:List Leaf},(∀ q∈aw ls,st' q=st q)->bw st' ls=bw st ls
 |[],_=>rfl
 |l::ls,h=>by
  have z:=jj (ls:=ls) (λq u=>h q (by rw[aK];exact BU _ u));cases l with
  |al r j v=>simp only[bw,z,cl (l:=.al r j v) (λq u=>h q (by rw[aK];exact BT _ u))]
  |nal p I ep y E e H=>simp only[bw,z,cl (l:=.nal p I ep y E e H) (λq u=>h q (by rw[aK];exact BT _ u))]
  |_=>simpa[bw]using z
theorem pq:∀ {ls:List Leaf},(∀ q∈aw ls,st' q=st q)->b8 st' ls=b8 st ls
 |[],_=>rfl
 |l::ls,h=>by
  have y:=pq (ls:=ls) (λq u=>h q (by rw[aK];exact BU _ u));cases l with
  |al r j v=>simp only[b8,y,cl (l:=.al r j v) (λq u=>h q (by rw[aK];exact BT _ u))]
  |_=>simpa[b8]using y
theorem qY:∀ {ls:List Leaf},(∀ q∈aw ls,st' q=st q)->dA st' ls=dA st ls
 |[],_=>rfl
 |l::ls,h=>by
  have z:=qY (ls:=ls) (λq y=>h q (by rw[aK];exact BU _ y));cases l with
  |nal p I ep u E e H =>
   cases u with
   |none=>simp only[dA,z,cl (l:=.nal p I ep none E e H) (λq y=>h q (by rw[aK];exact BT _ y))]
   |some x=>simpa[dA]using z
  |_=>simpa[dA]using z
theorem pt {ls:List Leaf}(h:∀ q∈aw ls,st' q=st q):dJ st' ls=dJ st ls:=by
 unfold dJ;induction ls with
 |nil=>rfl
 |cons l ls y =>
  rw[CH,CH,y (λq u=>h q (by rw[aK];exact BU _ u))];unfold gn;rw[cl (λq u=>h q (by rw[aK];exact BT _ u))]
theorem eB:∀ {ls:List Leaf} {x:Nat×Nat},x∈bw st ls->x.1∈aw ls
 |[],_,h=>by simp[bw]at h
 |l::ls,x,h=>by
  cases l with
  |al r j v =>
   simp only[bw,BR]at h;rcases h with h|h
   ·split at h
    ·simp at h;subst h;simp[aw]
    ·simp at h
   ·rw[aK];exact BU _ (eB h)
  |nal p H ep u E e z =>
   simp only[bw,BR]at h;rcases h with h|h
   ·split at h
    ·obtain⟨k,y,rfl⟩:=B4.1 h;rw[aK,iw];exact BT _ (BV _ (B4.2 ⟨k,y,rfl⟩))
    ·simp at h
   ·rw[aK];exact BU _ (eB h)
  |_=>(simp only[bw]at h;rw[aK];exact BU _ (eB h))
theorem jk:∀ {ls:List Leaf} {x:Nat×Nat},x∈b8 st ls->x.1∈aw ls
 |[],_,h=>by simp[b8]at h
 |l::ls,x,h=>by
  cases l with
  |al r j v =>
   simp only[b8,BR]at h;rcases h with h|h
   ·split at h
    ·simp at h;subst h;simp[aw]
    ·simp at h
   ·rw[aK];exact BU _ (jk h)
  |_=>(simp only[b8]at h;rw[aK];exact BU _ (jk h))
theorem ig:∀ {ls:List Leaf} {x:Nat×Nat},x∈dA st ls->x.1∈aw ls
 |[],_,h=>by simp[dA]at h
 |l::ls,x,h=>by
  cases l with
  |nal p I ep u E e H =>
   cases u with
   |none =>
    simp only[dA,BR]at h;rcases h with h|h
    ·split at h
     ·obtain⟨k,z,rfl⟩:=B4.1 h;rw[aK,iw];exact BT _ (BV _ (B4.2 ⟨k,z,rfl⟩))
     ·simp at h
    ·rw[aK];exact BU _ (ig h)
   |some y=>(simp only[dA]at h;rw[aK];exact BU _ (ig h))
  |_=>(simp only[dA]at h;rw[aK];exact BU _ (ig h))
theorem iy:∀ {ks:List (Nat×Nat)},(∀ x∈ks,st' x.1=st x.1)->aM st' ks=aM st ks
 |[],_=>rfl
 |(r,j)::ks,h=>by
  simp only[aM,iy (ks:=ks) (λx u=>h x (BV _ u)),bm (h (r,j) (BW ..))]
theorem kh:∀ {ks:List (Nat×Nat)},(∀ x∈ks,st' x.1=st x.1)->aE st' ks=aE st ks
 |[],_=>rfl
 |(r,j)::ks,h=>by
  simp only[aE,kh (ks:=ks) (λx u=>h x (BV _ u)),bm (h (r,j) (BW ..))]
theorem tX {ls:List Leaf}(h:∀ q∈aw ls,st' q=st q):mvU st' ls=mvU st ls:=by
 unfold mvU;rw[qY h,pq h,kh (λx u=>h _ (ig u))];simp only;rw[iy (λx u=>bm (h _ (jk u)) _)]
theorem qZ {ls:List Leaf}(h:∀ q∈aw ls,st' q=st q):ii st' ls=ii st ls:=by
 unfold ii;rw[qY h,pq h]
theorem jl:∀ (a:Ty) (ls:List Leaf),(∀ q∈aw ls,st' q=st q)->take st' a ls=take st a ls
 |.int k,ls,h=>by simp only[take,gI (.int k) ls h]
 |.bool,ls,h=>by simp only[take,gI .bool ls h]
 |.str,ls,h=>by simp only[take,gI .str ls h]
 |.unit,ls,h=>rfl
 |.hdr,ls,h=>by simp only[take,gI .hdr ls h]
 |.pair a b,ls,h=>by
  simp only[take,jl a ls h];cases H:take st a ls with
  |none=>rfl
  |some x =>
   have z:=kg.take_rest a ls x H;simp only;rw[jl b x.rest (λq y=>h q (fH a.cells ls q (by rw[<- z];exact y)))]
 |.list m E e,ls,h=>by
  cases ls with
  |nil=>rfl
  |cons l ls =>
   have u:∀ q∈aw [l],st' q=st q:=λq y=>h q (by rw[aK];exact BT _ y)
   simp only[take,cl u,jj u];congr 1;split
   ·rename_i r j v;rw[cl u]
   ·rfl
   ·rfl
theorem gW {a:Ty}{ls:List Leaf}(h:∀ q∈aw ls,st' q=st q):cj st' a ls=cj st a ls:=by
 unfold cj;rw[jl a ls h]
theorem oe:∀ (a:Ty) (ls:List Leaf) (t:cO a.den),take st a ls=some t->(∀ z∈t.frz,z.1∈aw ls)/\∀ z∈t.kill,z.1∈aw ls
 |.int k,ls,t,h=>by simp only[take,BY]at h;obtain⟨_,_,rfl⟩:=h;exact⟨by simp,by simp⟩
 |.bool,ls,t,h=>by simp only[take,BY]at h;obtain⟨_,_,rfl⟩:=h;exact⟨by simp,by simp⟩
 |.str,ls,t,h=>by simp only[take,BY]at h;obtain⟨_,_,rfl⟩:=h;exact⟨by simp,by simp⟩
 |.hdr,ls,t,h=>by simp only[take,BY]at h;obtain⟨_,_,rfl⟩:=h;exact⟨by simp,by simp⟩
 |.unit,ls,t,h=>by simp only[take,BQ]at h;subst h;exact⟨by simp,by simp⟩
 |.pair a b,ls,t,h=>by
  simp only[take]at h;split at h
  ·rename_i x J;split at h
   ·rename_i y X;simp only[BQ]at h;subst h;have Y:=kg.take_rest a ls x J;obtain⟨O,Z⟩:=oe a ls x J;obtain⟨M,H⟩:=oe b x.rest y X;rw[Y]at M H;exact⟨λz u=>(BR.1 u).elim (O z) (λu=>fH _ _ _ (M z u)),λz u=>(BR.1 u).elim (Z z) (λu=>fH _ _ _ (H z u))⟩
   ·cases h
  ·cases h
 |.list m E e,ls,t,h=>by
  cases ls with
  |nil=>simp[take]at h
  |cons l ls =>
   have I:∀ q∈aw [l],q∈aw (l::ls):=λq hq=>by rw[aK];exact BT _ hq
   cases m with
   |false =>
    simp only[take,cond_false]at h;split at h
    ·simp only[BQ]at h;subst h;exact⟨λz u=>I _ (eB u),by simp⟩
    ·cases h
   |true =>
    simp only[take,cond_true]at h;split at h
    ·split at h
     ·simp only[BY]at h;obtain⟨_,_,rfl⟩:=h;exact⟨by simp,λz u=>by simp at u;subst u;exact I _ (by simp[aw])⟩
     ·cases h
    ·simp only[BQ]at h;subst h;exact⟨by simp,by simp⟩
    ·cases h
theorem i9 {a:Ty}{ls:List Leaf}{t:cO a.den}(h:cj st a ls=some t):(∀ z∈t.frz,z.1∈aw ls)/\∀ z∈t.kill,z.1∈aw ls:=by
 unfold cj at h;split at h
 ·rename_i p x f k u;simp only[BQ]at h;subst h;exact oe a ls _ u
 ·cases h
theorem ka:∀ {off n:Nat} (a:Ty) (pos:Nat) (x:a.den) (ls:List Leaf) (t:cO a.den),dh st off n a pos x ls=some t->∃ k,t.rest=ls.drop k
 |off,n,.pair a b,pos,x,ls,t,h=>by
  simp only[dh]at h;split at h
  ·rename_i u M;split at h
   ·rename_i v I;simp only[BQ]at h;subst h;obtain⟨y,H⟩:=ka a pos x.1 ls u M;obtain⟨J,z⟩:=ka b (pos+a.cells) x.2 u.rest v I;exact⟨y+J,by show v.rest=_;rw[z,H,Cz]⟩
   ·cases h
  ·cases h
 |off,n,.unit,pos,x,ls,t,h=>by simp only[dh,BQ]at h;subst h;exact⟨0,rfl⟩
 |off,n,.hdr,pos,x,ls,t,h=>by simp[dh]at h
 |off,n,.int k,pos,x,ls,t,h=>sc (a:=.int k) h
 |off,n,.bool,pos,x,ls,t,h=>sc (a:=.bool) h
 |off,n,.str,pos,x,ls,t,h=>sc (a:=.str) h
 |off,n,.list m E e,pos,x,ls,t,h=>sc (a:=.list m E e) h
where
 sc {a:Ty} {b:Bool} {x:a.den} {ls:List Leaf} {t:cO a.den} (h:(bif b then take st a ls else some ⟨false,x,[],[],ls⟩)=some t):∃ k,t.rest=ls.drop k:=by
  cases b with
  |true=>exact⟨_,kg.take_rest a ls t h⟩
  |false=>simp only[cond_false,BQ]at h;subst h;exact⟨0,rfl⟩
theorem pu:∀ {off n:Nat} (a:Ty) (pos:Nat) (x:a.den) (ls:List Leaf),(∀ q∈aw ls,st' q=st q)->dh st' off n a pos x ls=dh st off n a pos x ls
 |off,n,.pair a b,pos,x,ls,h=>by
  simp only[dh,pu a pos x.1 ls h];cases y:dh st off n a pos x.1 ls with
  |none=>rfl
  |some u =>
   obtain⟨k,e⟩:=ka a pos x.1 ls u y;simp only;rw[pu b (pos+a.cells) x.2 u.rest (λq z=>h q (fH k ls q (by rw[<- e];exact z)))]
 |off,n,.unit,pos,x,ls,h=>rfl
 |off,n,.hdr,pos,x,ls,h=>rfl
 |off,n,.int k,pos,x,ls,h=>by simp only[dh,jl (.int k) ls h]
 |off,n,.bool,pos,x,ls,h=>by simp only[dh,jl .bool ls h]
 |off,n,.str,pos,x,ls,h=>by simp only[dh,jl .str ls h]
 |off,n,.list m E e,pos,x,ls,h=>by simp only[dh,jl (.list m E e) ls h]
theorem pv:∀ {off n:Nat} (a:Ty) (pos:Nat) (x:a.den) (ls:List Leaf) (t:cO a.den),dh st off n a pos x ls=some t->(∀ z∈t.frz,z.1∈aw ls)/\∀ z∈t.kill,z.1∈aw ls
 |off,n,.pair a b,pos,x,ls,t,h=>by
  simp only[dh]at h;split at h
  ·rename_i u J;split at h
   ·rename_i v X;simp only[BQ]at h;subst h;obtain⟨k,e⟩:=ka a pos x.1 ls u J;obtain⟨M,O⟩:=pv a pos x.1 ls u J;obtain⟨I,H⟩:=pv b (pos+a.cells) x.2 u.rest v X;rw[e]at I H;exact⟨λz y=>(BR.1 y).elim (M z) (λy=>fH _ _ _ (I z y)),λz y=>(BR.1 y).elim (O z) (λy=>fH _ _ _ (H z y))⟩
   ·cases h
  ·cases h
 |off,n,.unit,pos,x,ls,t,h=>by simp only[dh,BQ]at h;subst h;exact⟨by simp,by simp⟩
 |off,n,.hdr,pos,x,ls,t,h=>by simp[dh]at h
 |off,n,.int k,pos,x,ls,t,h=>sc (a:=.int k) h
 |off,n,.bool,pos,x,ls,t,h=>sc (a:=.bool) h
 |off,n,.str,pos,x,ls,t,h=>sc (a:=.str) h
 |off,n,.list m E e,pos,x,ls,t,h=>sc (a:=.list m E e) h
where
 sc {a:Ty} {b:Bool} {x:a.den} {ls:List Leaf} {t:cO a.den} (h:(bif b then take st a ls else some ⟨false,x,[],[],ls⟩)=some t):(∀ z∈t.frz,z.1∈aw ls)/\∀ z∈t.kill,z.1∈aw ls:=by
  cases b with
  |true=>exact oe a ls t h
  |false=>simp only[cond_false,BQ]at h;subst h;exact⟨by simp,by simp⟩
theorem vA {U:Upd}{d:Nat}{sh:aG}{ls:List Leaf}(h:st' d=st d):cm st' U d sh ls=cm st U d sh ls:=by
 simp only[cm,bm h]
theorem rS:∀ {xs:List Operand} {t:Nat},Operand.tmp t∈xs->t∈iC xs
 |[],_,h=>by simp at h
 |x::xs,t,h=>by
  rcases B7.1 h with rfl|h
  ·simp[iC]
  ·have u:=rS h;cases x <;> simp[iC,u]
theorem nB (t n:Nat):∀ (j:Nat) (ls:List Leaf) (q:Nat),q∈aw (bF t n j ls)->q=t\/q∈aw ls
 |_,[],_,h=>by simp[bF,aw]at h
 |j,l::ls,q,h=>by
  simp only[bF]at h;rw[aK,BR]at h;rw[aK,BR];rcases h with h|h
  ·cases l with
   |own p y E e u=>simp[lO,aw]at h;exact .inl h
   |_=>exact .inr (.inl h)
  ·exact (nB t n (j+1) ls q h).imp id .inr
theorem lj:∀ (y u:List Leaf),az (y++u)=az y++az u
 |[],_=>rfl
 |l::y,u=>by cases l <;> simp[az,lj y u]
theorem dy (l:Leaf)(ls:List Leaf):az (l::ls)=az [l]++az ls:=lj [l] ls
theorem fI:∀ {ls:List Leaf} {q:Nat},q∈aw ls->q∈az ls
 |[],_,h=>by simp[aw]at h
 |l::ls,q,h=>by
  rw[aK,BR]at h;rw[dy,BR];rcases h with h|h
  ·left;cases l with
   |nal p y ep u E e z=>simp[aw]at h;simpa[az]using h
   |np p y ep a x off=>simp[aw]at h;simpa[az]using h
   |_=>simp[aw]at h <;> simp[az,h]
  ·exact .inr (fI h)
theorem nC (t n:Nat):∀ (j:Nat) (ls:List Leaf) (q:Nat),q∈az (bF t n j ls)->q=t\/q∈az ls
 |_,[],_,h=>by simp[bF,az]at h
 |j,l::ls,q,h=>by
  simp only[bF]at h;rw[dy,BR]at h;rw[dy,BR];rcases h with h|h
  ·cases l with
   |own p y E e u=>simp[lO,az]at h;exact .inl h
   |_=>exact .inr (.inl h)
  ·exact (nC t n (j+1) ls q h).imp id .inr
theorem rT {x:Operand}{q:Nat}(h:q∈aw (au st x).2):∃ t,x=.tmp t/\(q=t\/q∈aw (st t).ls):=by
 cases x with
 |tmp t =>
  simp only[au]at h;cases y:Cv t GH with
  |false=>simp[y,aw]at h
  |true=>simp only[y,cond_true]at h;exact⟨t,rfl,nB _ _ _ _ _ h⟩
 |const v =>
  simp only[au]at h;split at h
  ·rename_i l u;unfold iz at u;split at u <;> simp at u <;> subst u <;> simp[aw]at h
  ·simp[aw]at h
 |func f=>simp[au,aw]at h
 |global g=>simp[au,aw]at h
theorem rU {x:Operand}{q:Nat}(h:q∈az (au st x).2):∃ t,x=.tmp t/\(q=t\/q∈az (st t).ls):=by
 cases x with
 |tmp t =>
  simp only[au]at h;cases y:Cv t GH with
  |false=>simp[y,az]at h
  |true=>simp only[y,cond_true]at h;exact⟨t,rfl,nC _ _ _ _ _ h⟩
 |const v =>
  simp only[au]at h;split at h
  ·rename_i l u;unfold iz at u;split at u <;> simp at u <;> subst u <;> simp[az]at h
  ·simp[az]at h
 |func f=>simp[au,az]at h
 |global g=>simp[au,az]at h
theorem q8 {x:Operand}{l:Leaf}(h:one st x=l)(y:l≠.dead):(au st x).2=[l]:=by
 unfold one at h;split at h
 ·rename_i z u;rw[u,h]
 ·exact absurd h.symm y
theorem jm {x:Operand}{q:Nat}(h:q∈aw [one st x]):q∈aw (au st x).2:=by
 by_cases u:one st x=.dead
 ·rw[u]at h;simp[aw]at h
 ·rw[q8 rfl u];exact h
theorem tY {x:Operand}{q:Nat}(h:q∈az [one st x]):q∈az (au st x).2:=by
 by_cases u:one st x=.dead
 ·rw[u]at h;simp[az]at h
 ·rw[q8 rfl u];exact h
def jv:Leaf->Bool×Leaf
 |.own _ _ _ e u=>(true,.ep 0 0 0 e.cells u.length 0)
 |l=>(false,l)
def bK (c:bT):Nat×aG×List (Bool×Leaf):=(c.ver,c.sh,c.ls.map jv)
theorem tZ {l l':Leaf}(h:jv l'=jv l):l'=l\/∃ (p p':Bool) (z y:Option (Nat×Nat)) (E E':TypeId) (e e':Ty) (xs:List e.den) (u:List e'.den),l=.own p z E e xs/\l'=.own p' y E' e' u/\e'.cells=e.cells/\u.length=xs.length:=by
 cases l <;> cases l' <;> simp only[jv,CB,Ck,reduceCtorEq,false_and,and_false,true_and,Leaf.ep.injEq,Bool.true_eq_false]at h <;>
  first
  |exact .inr ⟨_,_,_,_,_,_,_,_,_,_,rfl,rfl,h.1,h.2.1⟩
  |exact .inr ⟨_,_,_,_,_,_,_,_,_,_,rfl,rfl,h.1,h.2⟩
  |exact .inl rfl
  |exact .inl (by rw[h])
  |exact .inl h
  |(obtain⟨rfl,rfl,rfl,rfl,rfl,rfl⟩:=h;exact .inl rfl)
theorem qp (t n:Nat):∀ (j:Nat) (ls u:List Leaf),u.map jv=ls.map jv->bF t n j u=bF t n j ls
 |_,[],[],_=>rfl
 |_,[],_::_,h=>by simp at h
 |_,_::_,[],h=>by simp at h
 |j,l::ls,X::u,h=>by
  simp only[CH,Cw]at h;simp only[bF,qp t n (j+1) ls u h.2];rcases tZ h.1 with e|⟨p,Z,O,I,E,J,e,M,Y,y,H,z,_,_⟩
  ·rw[e]
  ·rw[H,z];rfl
theorem ye {x:Operand}(h:∀ t,x=.tmp t->bK (st' t)=bK (st t)):au st' x=au st x:=by
 cases x with
 |tmp t =>
  have:=h t rfl;simp only[bK,CB]at this;simp only[au,this.1,this.2.1,qp _ _ _ _ _ this.2.2]
 |_=>rfl
theorem zR {x:Operand}(h:∀ t,x=.tmp t->bK (st' t)=bK (st t)):one st' x=one st x:=by
 unfold one;rw[ye h]
theorem yf {c u:bT}(h:bK u=bK c)(j:Nat):jv (u.ls.getD j .dead)=jv (c.ls.getD j .dead):=by
 simp only[bK,CB]at h;have:=congrArg (λl=>l[j]?) h.2.2;simp only[DE]at this;rw[B8,B8];generalize u.ls[j]?=a at this;generalize c.ls[j]?=b at this
 match a,b,this with
 |none,none,_=>rfl
 |some x,some y,h=>exact DM h
theorem rV (l:Leaf):lr l=(jv l).1:=by cases l <;> rfl
theorem zw {ks:List (Nat×Nat×Nat)}{ep:Nat}(h:∀ q∈EPO::ks.map (·.1),bK (st' q)=bK (st q)):bq st' ks ep=bq st ks ep:=by
 unfold bq;have z:=h EPO (BW ..);simp only[bK,CB]at z;rw[z.1];congr 1;induction ks with
 |nil=>rfl
 |cons k ks I =>
  have y:=h k.1 (by simp);have H:(st' k.1).ver=(st k.1).ver:=by simp only[bK,CB]at y;exact y.1
  rw[Cr,Cr,I (λq u=>h q (by simp at u ⊢;rcases u with u|u;exact .inl u;exact .inr (.inr u))),rV,rV,yf y,H]
end
section
variable {P:Program} {V:Env} {Γ:List Ctr} {T:TypeId->TI} {st st':St} {o:Oper} {R:Type} {κ:Upd->Option R} {r:R}
theorem ua {d:Nat}(u:o.dst=some d)(h:∀ q∈fp st o,st' q=st q):st' d=st d/\st' (B0+d)=st (B0+d):=by
 refine⟨h d ?_,h (B0+d) ?_⟩ <;> simp[fp,zF,u]
theorem lk {ls:List Leaf}(h:∀ q∈aw ls,st' q=st q):∀ x∈bw st ls,st' x.1=st x.1:=λx u=>h _ (eB u)
theorem qq {u:List (Nat×Nat×Bool)}:∀ (ps:List (Nat×Operand)) (ls:List Leaf),(∀ x∈ps,∀ t,x.2=.tmp t->st' t=st t)->fm st' u ps ls=fm st u ps ls
 |[],_,_=>rfl
 |(i,x)::ps,ls,h=>by
  simp only[fm,dV (h (i,x) (BW ..))];split
  ·rw[qq ps _ (λy z=>h y (BV _ z))]
  ·rfl
theorem oK {e:Ty}:∀ (ps:List (Nat×Operand)) (k:Nat),(∀ x∈ps,(∀ t,x.2=.tmp t->st' t=st t)/\∀ q∈aw (au st x.2).2,st' q=st q)->eC st' e k ps=eC st e k ps
 |[],_,_=>rfl
 |(i,x)::ps,k,h=>by
  have u:=h (i,x) (BW ..);simp only[eC,dV u.1,gW u.2,oK ps (k+1) (λy z=>h y (BV _ z))]
theorem oL {e:Ty}:∀ (ps:List (Nat×Operand)) (k:Nat) (u:cO (List e.den)),eC st e k ps=some u->∀ z,z∈u.frz\/z∈u.kill->∃ x∈ps,z.1∈aw (au st x.2).2
 |[],_,_,h=>by simp only[eC,BQ]at h;subst h;simp
 |(i,x)::ps,k,u,h=>by
  simp only[eC]at h;cases O:BZ i k&&decide ((au st x).1=bg e.isAgg) with
  |false=>simp[O]at h
  |true =>
   simp only[O,cond_true]at h;split at h
   ·rename_i t1 M Z J;simp only[BQ]at h;subst h;intro z H;obtain⟨p1,X⟩:=i9 Z;have I:(z∈t1.frz\/z∈t1.kill)\/(z∈M.frz\/z∈M.kill):=by
     rcases H with H|H <;> rcases BR.1 H with H|H
     ·exact .inl (.inl H)
     ·exact .inr (.inl H)
     ·exact .inl (.inr H)
     ·exact .inr (.inr H)
    rcases I with H|H
    ·exact⟨(i,x),BW ..,H.elim (p1 z) (X z)⟩
    ·obtain⟨y,Y,h2⟩:=oL ps (k+1) M J z H;exact⟨y,BV _ Y,h2⟩
   ·cases h
theorem nD {x:Option Operand}{n:Int}(h:∀ y,x=some y->∀ t,y=.tmp t->st' t=st t):dm st' x n=dm st x n:=by
 cases x with
 |none=>rfl
 |some y=>simp only[dm,dG (h y rfl)]
theorem vB:∀ (xs:List Operand) (u:Option (List Nat)),(∀ x∈xs,∀ t,x=.tmp t->st' t=st t) ->
  xs.foldl (λ (u:Option (List Nat)) x=>u.bind λl=>match one st' x with|.bp b 0=>some (l++[b])|_=>none) u =
  xs.foldl (λ (u:Option (List Nat)) x=>u.bind λl=>match one st x with|.bp b 0=>some (l++[b])|_=>none) u
 |[],_,_=>rfl
 |x::xs,u,h=>by
  simp only[DN,dG (h x (BW ..))];exact vB xs _ (λy z=>h y (BV _ z))
theorem qr {l:Leaf}(z:st' TMP=st TMP)(I:st' EPO=st EPO)(h:∀ q∈aw [l],st' q=st q):cn st' l=cn st l:=by
 cases l with
 |nal p H ep u E e M =>
  rw[iw]at h;simp only[cn,jH h,z,I];congr 1
  match H,u,h with
  |[(r,j,n)],some (i,J,off),h =>
   have y:=h r (by simp);simp only[y]
  |[(r,j,n)],none,_=>rfl
  |[],_,_=>rfl
  |_::_::_,_,_=>rfl
 |_=>rfl
theorem oM {l l':Leaf}{U:Upd}(h:cn st l=some (U,l')):∃ n,l'=.al TMP 0 n/\∀ q,q≠TMP->∀ z∈az (ac U st q).ls,z∈az (st q).ls:=by
 cases l with
 |nal p ks ep a0 E e Z =>
  simp only[cn]at h;cases H:bq st ks ep with
  |false=>simp[H]at h
  |true =>
   rw[H]at h;simp only[cond_true]at h;split at h
   ·rename_i r j n0 i sz off;split at h
    ·rename_i p' E' O M hg;cases X:!BZ r TMP&&!BZ r EPO&&BZ sz O.cells with
     |false=>simp[X]at h
     |true =>
      rw[X]at h;simp only[cond_true]at h;split at h
      ·split at h
       ·rename_i y _ _ _ _ _;simp only[BQ,CB]at h;obtain⟨rfl,rfl⟩:=h;refine⟨_,rfl,λq hq z u=>?_⟩;rw[aP]at u;rcases am r q ⟨(st r).ver,(st r).sh,aS (st r).ls j (.own p' (some (i,off)) E' O M)⟩ (ac [(TMP,⟨(st TMP).ver+1,.one,[.own (p'&&O.shy) none _ _ _]⟩),(EPO,bV (st EPO))] st) with ⟨rfl,J⟩|⟨_,J⟩
        ·rw[J]at u;exact refs_set u
        ·rw[J,aP,aH hq]at u;rcases am EPO q (bV (st EPO)) st with ⟨rfl,Y⟩|⟨_,Y⟩ <;> rw[Y]at u <;> exact u
       ·cases h
      ·cases h
    ·cases h
   ·cases h
 |_=>simp[cn]at h
where
 refs_set {I:List Leaf} {j z:Nat} {p:Bool} {hh:Option (Nat×Nat)} {E:TypeId} {e:Ty} {Z:List e.den} (h:z∈az (aS I j (.own p hh E e Z))):z∈az I:=by
  unfold aS at h;induction I generalizing j with
  |nil=>simpa using h
  |cons l I ih =>
   cases j with
   |zero =>
    rw[List.set_cons_zero,dy,BR]at h;rw[dy,BR];rcases h with h|h
    ·simp[az]at h
    ·exact .inr h
   |succ j =>
    rw[DB,dy,BR]at h;rw[dy,BR];exact h.imp id ih
theorem uT {l l':Leaf}{U:Upd}(h:cn st l=some (U,l')):az (ac U st TMP).ls=[]:=by
 cases l with
 |nal p M ep O E e xs =>
  simp only[cn]at h;cases u:bq st M ep with
  |false=>simp[u]at h
  |true =>
   rw[u]at h;simp only[cond_true]at h;split at h
   ·rename_i r j X i I off;split at h
    ·rename_i p' Y J H Z;cases y:!BZ r TMP&&!BZ r EPO&&BZ I J.cells with
     |false=>simp[y]at h
     |true =>
      rw[y]at h;simp only[cond_true]at h;have z:TMP≠r:=λe=>by subst e;simp at y
      split at h
      ·split at h
       ·simp only[BQ,CB]at h;obtain⟨rfl,rfl⟩:=h;rw[aP,aH z,aP,bk];rfl
       ·cases h
      ·cases h
    ·cases h
   ·cases h
 |_=>simp[cn]at h
theorem wM {E:TypeId}{e:Ty}{y:Leaf}(u:∀ q∈aw [y],st' q=st q):fU st' E e y=fU st E e y:=by
 unfold fU;rw[cl u,jj u,gW u]
theorem wN {E:TypeId}{e:Ty}{y:Leaf}{t:cO (List e.den)}(h:fU st E e y=some t):(∀ z∈t.frz,z.1∈aw [y])/\∀ z∈t.kill,z.1∈aw [y]:=by
 unfold fU at h;cases u:e.flat with
 |true =>
  rw[u]at h;simp only[cond_true,BY]at h;obtain⟨_,_,rfl⟩:=h;exact⟨by simp,by simp⟩
 |false =>
  rw[u]at h;simp only[cond_false]at h;cases H:decide (e.sh=e) with
  |true =>
   rw[H]at h;simp only[cond_true,BY]at h;obtain⟨_,_,rfl⟩:=h;exact⟨λz J=>eB J,by simp⟩
  |false =>
   rw[H]at h;simp only[cond_false,BY]at h;obtain⟨M,I,rfl⟩:=h;exact i9 I
theorem ll {u:Upd}{d:Nat}{E:TypeId}{e:Ty}{H:Nat}{p:Bool}{xs:List e.den}{ks:List (Nat×Nat)}{y:Leaf}(O:∀ z∈ks,st' z.1=st z.1)(M:∀ q∈aw [y],st' q=st q)(hd:st' d=st d) :
  dW st' (ac u st') u d E e H p xs ks y κ=dW st (ac u st) u d E e H p xs ks y κ:=by
 unfold dW;have J:∀ q,st' q=st q->ac u st' q=ac u st q:=λq h=>bm h u
 rw[wM (st:=ac u st) (st':=ac u st') (λq hq=>J q (M q hq))];split
 ·rename_i t Z;obtain⟨p1,X⟩:=wN Z;have e1:aE (ac u st') t.frz=aE (ac u st) t.frz:=kh (λz I=>J _ (M _ (p1 z I)));have Y:∀ U:Upd,aM (ac U (ac u st')) (t.kill++ks)=aM (ac U (ac u st)) (t.kill++ks):=λU=>iy (λz I=>bm (J _ ((BR.1 I).elim (λI=>M _ (X z I)) (O z))) U)
  simp only[e1,Y,vA hd]
 ·rfl
theorem wO {H:Upd}{d:Nat}{E:TypeId}{e:Ty}{u:Nat}{x y:Leaf}(M:∀ q∈aw [x],st' q=st q)(I:∀ q∈aw [y],st' q=st q)(O:st' d=st d):ew st' H d E e u x y κ=ew st H d E e u x y κ:=by
 unfold ew;cases x with
 |al r j v =>
  have X:st' r=st r:=M r (by simp[aw]);simp only;rw[cl (st:=ac H st) (st':=ac H st') (l:=.al r j v) (λq Y=>bm (M q Y) H)];split
  ·rw[ll (λz J=>by simp at J;subst J;exact X) I O]
  ·rfl
 |nil=>exact ll (by simp) I O
 |_=>rfl
theorem wP {d:Nat}{E:TypeId}{e:Ty}{H:Nat}{x y:Leaf}(J:st' TMP=st TMP)(I:∀ q∈aw [x],st' q=st q)(O:∀ q∈aw [y],st' q=st q)(X:st' d=st d):iB st' d E e H x y κ=iB st d E e H x y κ:=by
 unfold iB;rw[wO I O X,hZ,hZ];cases Z:jp x with
 |false=>rfl
 |true =>
  simp only[cond_true];have hE:st' EPO=st EPO:=by
   cases x with
   |nal p ks ep a0 E e xs=>exact I EPO (by rw[iw];exact BW ..)
   |_=>simp[jp]at Z
  rw[qr J hE I];cases hu:cn st x with
  |none=>rfl
  |some u =>
   obtain⟨n,e1,_⟩:=oM (U:=u.1) (l':=u.2) hu;simp only[CV];rw[e1];unfold ew;simp only;have e2:∀ q,q=TMP->ac u.1 st' q=ac u.1 st q:=λq M=>by rw[M];exact bm J u.1
   rw[cl (st:=ac u.1 st) (st':=ac u.1 st') (l:=.al TMP 0 n) (λq M=>e2 q (by simpa[aw]using M))];split
   ·rw[ll (λz Y=>by simp at Y;subst Y;exact J) O X]
   ·rfl
structure eQ (st st':St) (ls:List Leaf):Prop where
 d1:∀ q∈az ls,st' q=st q
 d2:∀ r∈az ls,∀ q∈az (st r).ls,st' q=st q
 d3:∀ r∈az ls,∀ r2∈az (st r).ls,∀ q∈az (st r2).ls,st' q=st q
theorem kw (p:Bool):∀ (a:Ty) (x:a.den),az (cN p a x)=[]
 |.int _,_=>rfl
 |.bool,_=>rfl
 |.str,_=>rfl
 |.unit,_=>rfl
 |.hdr,_=>rfl
 |.pair a b,x=>by simp[cN,lj,kw p a,kw p b]
 |.list _ _ _,_=>rfl
theorem rW {l:Leaf}(h:∀ q∈az [l],st' q=st q):target st' l=target st l:=by
 unfold target;cases l with
 |bp b off =>
  have u:=h b (by simp[az]);cases off with
  |zero=>simp only[u]
  |succ n=>rfl
 |rp p a x off=>cases off <;> rfl
 |_=>rfl
theorem lm {l:Leaf}{ls:List Leaf}(h:target st l=some ls):∀ q∈az ls,q∈az [l]\/∃ r∈az [l],q∈az (st r).ls:=by
 unfold target at h;split at h
 ·rename_i b;cases y:decide ((st b).sh=.agg) with
  |false=>simp[y]at h
  |true =>
   simp only[y,cond_true,BQ]at h;subst h;intro q u;rcases nC _ _ _ _ _ u with rfl|u
   ·exact .inl (by simp[az])
   ·exact .inr ⟨b,by simp[az],u⟩
 ·simp only[BQ]at h;subst h;intro q u;rw[kw]at u;simp at u
 ·simp only[BQ]at h;subst h;intro q u;simp[az]at u
 ·cases h
theorem ja {x:aG×List Leaf}{q:Nat}(h:q∈az [co x]):q∈az x.2:=by
 unfold co at h;split at h
 ·exact h
 ·simp[az]at h
theorem eQ.target {l:Leaf}{ls:List Leaf}(h:eQ st st' [l])(H:Go.Proofs.YtadlacffdemoiaaGreatEv.target st l=some ls):(∀ q∈az ls,st' q=st q)/\∀ r∈az ls,∀ q∈az (st r).ls,st' q=st q:=by
 constructor
 ·intro q y;rcases lm H q y with u|⟨r,u,z⟩
  ·exact h.d1 q u
  ·exact h.d2 r u q z
 ·intro r I q y;rcases lm H r I with u|⟨J,u,z⟩
  ·exact h.d2 r u q y
  ·exact h.d3 J u r z q y
theorem eQ.one {x:aG×List Leaf}(h:eQ st st' x.2):eQ st st' [co x] :=
 ⟨λq y=>h.d1 q (ja y),λr u=>h.d2 r (ja u),λr u=>h.d3 r (ja u)⟩
def nE {α:Type}(st st':St)(g:Got α):Prop:=(∀ z∈g.frz,st' z.1=st z.1)/\(∀ z∈g.kill,st' z.1=st z.1)
theorem nF {c:Bool×Ty}{l:Leaf}(Y:eQ st st' [l]):fk st' c l=fk st c l/\∀ g,fk st c l=some g->nE st st' g:=by
 unfold fk;rw[rW Y.d1];cases J:target st l with
 |none=>cases c.1 <;> exact⟨rfl,by simp⟩
 |some X =>
  have y:=Y.target J;cases hc:c.1 with
  |false =>
   have u:∀ q∈aw X,st' q=st q:=λq O=>y.1 q (fI O)
   simp only[cond_false,eJ u,jj u,true_and];intro g z;simp only[BY]at z;obtain⟨_,_,rfl⟩:=z;exact⟨lk u,by simp[Got.ofRd]⟩
  |true =>
   simp only[cond_true]
   match X,y,J with
   |[],_,_=>exact⟨rfl,by simp⟩
   |_::_::_,_,_=>exact⟨rfl,by simp⟩
   |[Z],y,J =>
    simp only[rW y.1];cases M:target st Z with
    |none=>exact⟨rfl,by simp⟩
    |some I =>
     have u:∀ q∈aw I,st' q=st q:=by
      intro q O;rcases lm M q (fI O) with H|⟨r,H,h5⟩
      ·exact y.1 q H
      ·exact y.2 r H q h5
     simp only[eJ u,jj u,true_and];intro g z;simp only[BY]at z;obtain⟨_,_,rfl⟩:=z;exact⟨lk u,by simp[Got.ofRd]⟩
theorem mB:∀ (cs:List (Bool×Ty)) (ls:List Leaf),(∀ l∈ls,eQ st st' [l])->cC st' cs ls=cC st cs ls/\∀ g,cC st cs ls=some g->nE st st' g
 |[],[],_=>⟨rfl,λg u=>by simp only[cC,BQ]at u;subst u;exact⟨by simp,by simp⟩⟩
 |[],_::_,_=>⟨rfl,λg u=>by simp[cC]at u⟩
 |_::_,[],_=>⟨rfl,λg u=>by simp[cC]at u⟩
 |c::cs,l::ls,h=>by
  obtain⟨M,Z⟩:=nF (c:=c) (h l (BW ..));obtain⟨h3,O⟩:=mB cs ls (λy X=>h y (BV _ X));simp only[cC,M,h3,true_and];intro g u;split at u
  ·rename_i Y H;split at u
   ·rename_i J I;simp only[BQ]at u;subst u;exact⟨λz hz=>(BR.1 hz).elim ((Z Y H).1 z) ((O J I).1 z),by simp⟩
   ·cases u
  ·cases u
theorem oN {c:Nat}{q:Nat}:∀ {ls:List Leaf} {c:Nat},q∈aw (aS ls c .nil)->q∈aw ls
 |[],_,h=>h
 |l::ls,0,h=>by
  rw[show aS (l::ls) 0 .nil=.nil::ls from rfl,aK,BR]at h;rw[aK,BR];rcases h with h|h
  ·simp[aw]at h
  ·exact .inr h
 |l::ls,c+1,h=>by
  rw[show aS (l::ls) (c+1) .nil=l::aS ls c .nil from rfl,aK,BR]at h;rw[aK,BR];exact h.imp id (oN (c:=c))
theorem pw {caps:List Nat}{f:FuncId}(H:eQ st st' [.clo f caps]):∀ l∈caps.map (λb=>Leaf.bp b 0),eQ st st' [l]:=by
 intro l J;obtain⟨b,I,rfl⟩:=B4.1 J;have u:b∈az [Leaf.clo f caps]:=by simp[az,I]
 have y:∀ r∈az [Leaf.bp b 0],r=b:=λr z=>by simpa[az]using z
 exact⟨λq M=>H.d1 q (by rw[y q M];exact u),λr z=>H.d2 r (by rw[y r z];exact u),λr z=>H.d3 r (by rw[y r z];exact u)⟩
theorem nG {caps:List (Bool×Bool×(a:Ty)×a.den)}:∀ l∈caps.map eR,eQ st st' [l]:=by
 intro l z;obtain⟨c,H,rfl⟩:=B4.1 z;have:∀ q,q∉az [eR c]:=by
  intro q u;unfold eR at u;cases y:c.2.1 <;> rw[y]at u <;> simp[az]at u
 exact⟨λq u=>absurd u (this q),λq u=>absurd u (this q),λq u=>absurd u (this q)⟩
theorem eu {pk:PK}{x:aG×List Leaf}(h:eQ st st' x.2):bf st' pk x=bf st pk x/\∀ g,bf st pk x=some g->nE st st' g:=by
 have Z:∀ q∈aw x.2,st' q=st q:=λq O=>h.d1 q (fI O)
 have h1:=h.one;have H:∀ {b:Bool} {a:Ty} {g:Got a.den},(bif b then (cj st a x.2).map (λt=>(⟨t.p,t.val,t.frz,t.kill,[],[]⟩:Got a.den)) else none)=some g->nE st st' g:=by
  intro b a g u;cases b with
  |false=>simp at u
  |true =>
   simp only[cond_true,BY]at u;obtain⟨t,ht,rfl⟩:=u;obtain⟨p1,p2⟩:=i9 ht;exact⟨λz J=>Z _ (p1 z J),λz J=>Z _ (p2 z J)⟩
 cases pk with
 |rd a =>
  simp only[bf,eJ Z,jj Z,true_and];intro g u;cases M:decide (x.1=bg a.isAgg) with
  |false=>simp[M]at u
  |true =>
   simp only[M,cond_true,BY]at u;obtain⟨y,_,rfl⟩:=u;exact⟨lk Z,by simp[Got.ofRd]⟩
 |own a =>
  simp only[bf,gW Z,true_and];exact λg u=>H u
 |io a =>
  simp only[bf,gW Z,true_and];exact λg u=>H u
 |rref a=>exact nF (c:=(false,a)) h1
 |rref2 a=>exact nF (c:=(true,a)) h1
 |iop a =>
  simp only[bf];split
  ·rename_i b Y;rw[Y]at h1;have M:=h1.d1 b (by simp[az]);have h3:∀ q∈aw (bF b (st b).ver 0 (st b).ls),st' q=st q:=by
    intro q O;rcases nB _ _ _ _ _ O with rfl|O
    ·exact M
    ·exact h1.d2 b (by simp[az]) q (fI O)
   simp only[M,gW h3,true_and];intro g u;cases a1:decide ((st b).sh=.agg) with
   |false=>simp[a1]at u
   |true =>
    simp only[a1,cond_true,BY]at u;obtain⟨t,ht,rfl⟩:=u;obtain⟨p1,p2⟩:=i9 ht;exact⟨λz J=>h3 _ (p1 z J),λz J=>h3 _ (p2 z J)⟩
  ·exact⟨rfl,by simp⟩
 |fn As B =>
  simp only[bf,true_and];intro g u;split at u
  ·split at u
   ·simp only[BQ]at u;subst u;exact⟨by simp,by simp⟩
   ·cases u
  ·cases u
 |clo f cs =>
  simp only[bf];split
  ·rename_i f' caps Y;rw[Y]at h1;have:=mB cs _ (pw h1);rw[this.1];refine⟨rfl,λg u=>?_⟩;cases M:BZ f' f with
   |false=>simp[M]at u
   |true=>rw[M]at u;exact this.2 g u
  ·rename_i f' caps Y;have:=mB (st:=st) (st':=st') cs _ (nG (caps:=caps));rw[this.1];refine⟨rfl,λg u=>?_⟩;cases M:BZ f' f with
   |false=>simp[M]at u
   |true=>rw[M]at u;exact this.2 g u
  ·exact⟨rfl,by simp⟩
 |hol a c off =>
  simp only[bf];have X:∀ q∈aw (aS x.2 c .nil),st' q=st q:=λq O=>Z q (oN (c:=c) O)
  rw[gW X];cases M:decide (x.1=bg a.isAgg) with
  |false=>exact⟨rfl,by simp⟩
  |true =>
   simp only[cond_true];split
   ·rename_i r j v I;have a2:x.2[c]?=some (.al r j v):=by
     rw[B8]at I;cases O:x.2[c]? with
     |none=>rw[O]at I;simp at I
     |some l0=>rw[O]at I;simp at I;rw[I]
    have hr:=λq O=>Z q (qX a2 q O)
    rw[cl hr];refine⟨rfl,λg u=>?_⟩;split at u
    ·rename_i p i o' E e xs _;cases a0:BZ o' off with
     |false=>simp[a0]at u
     |true =>
      rw[a0]at u;simp only[cond_true]at u;split at u
      ·rename_i t ht;split at u
       ·simp only[BQ]at u;subst u;obtain⟨p1,p2⟩:=i9 ht;refine⟨λz J=>X _ (p1 z J),λz J=>?_⟩;rcases B7.1 J with rfl|J
        ·exact hr r (by simp[aw])
        ·exact X _ (p2 z J)
       ·cases u
      ·cases u
    ·cases u
   ·exact⟨rfl,by simp⟩
theorem kx {ga ga':(pk:PK)->aG×List Leaf->Option (Got pk.den)}:∀ (ps:List PK) (xs:List (aG×List Leaf)),
  (∀ x∈xs,∀ pk,ga' pk x=ga pk x/\∀ g,ga pk x=some g->nE st st' g) ->
  a8 ga' ps xs=a8 ga ps xs/\∀ g,a8 ga ps xs=some g->nE st st' g
 |[],[],_=>⟨rfl,λg u=>by simp only[a8,BQ]at u;subst u;exact⟨by simp,by simp⟩⟩
 |[],_::_,_=>⟨rfl,λg u=>by simp[a8]at u⟩
 |_::_,[],_=>⟨rfl,λg u=>by simp[a8]at u⟩
 |p::ps,x::xs,h=>by
  obtain⟨Z,Y⟩:=h x (BW ..) p;obtain⟨h3,O⟩:=kx ps xs (λy hy=>h y (BV _ hy));simp only[a8,Z,h3,true_and];intro g u;split at u
  ·rename_i X H;split at u
   ·rename_i M I;simp only[BQ]at u;subst u;exact⟨λz J=>(BR.1 J).elim ((Y X H).1 z) ((O M I).1 z),λz J=>(BR.1 J).elim ((Y X H).2 z) ((O M I).2 z)⟩
   ·cases u
  ·cases u
theorem ub {H:List Ty}{B:Ty}{f:FuncId}{ls:List Leaf}(h:∀ l∈ls,eQ st st' [l]):ky Γ st' H B f ls=ky Γ st H B f ls/\∀ g,ky Γ st H B f ls=some g->nE st st' g:=by
 have u:=λ (q:List PK)=>kx (st:=st) (st':=st') (ga:=bf st) (ga':=bf st') q (ls.map λl=>(aG.one,[l])) (λy O Y=>by
  obtain⟨l,M,rfl⟩:=B4.1 O;exact eu (h l M))
 unfold ky;split
 ·rename_i c X;unfold sm;simp only[uW,(u _).1,true_and];intro g z;split at z
  ·cases J:(c.ps.drop H.length).all PK.reads&&B.flat&&c.fresh with
   |false=>simp[J]at z
   |true =>
    simp only[J,cond_true]at z;split at z
    ·rename_i g0 I;simp only[BQ]at z;subst z;exact⟨((u _).2 g0 I).1,by simp⟩
    ·cases z
  ·cases z
 ·exact⟨rfl,by simp⟩
theorem wQ {pk:PK}{x:aG×List Leaf}(h:eQ st st' x.2):ce Γ st' pk x=ce Γ st pk x/\∀ g,ce Γ st pk x=some g->nE st st' g:=by
 cases pk with
 |fn O B =>
  simp only[ce];split
  ·rename_i H y;have z:(∃ u,co x=.clo H.1 u/\H.2=u.map λb=>Leaf.bp b 0)\/∃ u,co x=.clr H.1 u/\H.2=u.map eR:=by
    generalize co x=l at y;cases l <;> simp only[vK,BQ,reduceCtorEq]at y
    ·subst y;exact .inl ⟨_,rfl,rfl⟩
    ·subst y;exact .inr ⟨_,rfl,rfl⟩
   have J:=h.one;rcases z with ⟨u,z,I⟩|⟨u,z,I⟩
   ·rw[z]at J;rw[I];exact ub (pw J)
   ·rw[I];exact ub nG
  ·exact eu h
 |rd a=>exact eu (pk:=.rd a) h
 |own a=>exact eu (pk:=.own a) h
 |io a=>exact eu (pk:=.io a) h
 |rref a=>exact eu (pk:=.rref a) h
 |rref2 a=>exact eu (pk:=.rref2 a) h
 |iop a=>exact eu (pk:=.iop a) h
 |clo f M=>exact eu (pk:=.clo f M) h
 |hol a c off=>exact eu (pk:=.hol a c off) h
theorem uc:∀ (u ls:List Leaf),st' EPO=st EPO->(∀ q∈az u,st' q=st q)->ca st' u ls=ca st u ls
 |[],_,_,_=>by simp[ca]
 |x::u,[],_,_=>by cases x <;> simp[ca]
 |x::u,l::ls,y,h=>by
  have z:=uc u ls y (λq I=>h q (by rw[dy];exact BU _ I));cases x with
  |al r j v =>
   have H:st' r=st r:=h r (by simp[az]);simp only[ca,z,bm H,bm y]
  |_=>simp only[ca,z]
theorem qs {p:Bool}:∀ (ps:List PK) (xs:List (aG×List Leaf)) (y:ai ps),st' EPO=st EPO->(∀ x∈xs,∀ q∈az x.2,st' q=st q)->aF st' p ps xs y=aF st p ps xs y
 |[],_,_,_,_=>by simp[aF]
 |H::ps,[],y,_,h=>by cases H <;> simp[aF]
 |H::ps,x::xs,y,X,h=>by
  have I:=λ (y:ai ps)=>qs (p:=p) ps xs y X (λz Y=>h z (BV _ Y))
  have O:=h x (BW ..);cases H with
  |io a =>
   simp only[aF,I];rw[uc x.2 _ (bm X _) (λq J=>bm (O q J) _)]
  |iop a =>
   simp only[aF,I];have M:∀ q∈az [co x],st' q=st q:=λq J=>O q (ja J)
   congr 1;split
   ·rename_i b v u;rw[u]at M;rw[bm (M b (by simp[az]))]
   ·rfl
  |_=>exact I _
theorem qt {n q:Nat}:∀ {ls:List Leaf} {k:Nat},q∈az (aS ls k (.al TMP 0 n))->q∈az ls\/q=TMP
 |[],_,h=>.inl h
 |l::ls,0,h=>by
  rw[show aS (l::ls) 0 (.al TMP 0 n)=.al TMP 0 n::ls from rfl,dy,BR]at h;rw[dy,BR];rcases h with h|h
  ·simp[az]at h;exact .inr h
  ·exact .inl (.inr h)
 |l::ls,k+1,h=>by
  rw[show aS (l::ls) (k+1) (.al TMP 0 n)=l::aS ls k (.al TMP 0 n) from rfl,dy,BR]at h;rw[dy,BR];rcases h with h|h
  ·exact .inl (.inl h)
  ·exact (qt h).imp .inr id
theorem pz {U:Upd}{M ls:List Leaf}(hT:st' TMP=st TMP)(u:∀ q,q≠TMP->∀ z∈az (ac U st q).ls,z∈az (st q).ls)(O:az (ac U st TMP).ls=[])(Z:eQ st st' M)(y:∀ q∈az ls,q∈az M\/q=TMP) :
  eQ (ac U st) (ac U st') ls:=by
 have H:∀ r z,z∈az (ac U st r).ls->r≠TMP:=λr z hz e=>by subst e;rw[O]at hz;simp at hz
 refine⟨λq I=>?_,λr hr q I=>?_,λr hr X Y q I=>?_⟩
 ·rcases y q I with h|h
  ·exact bm (Z.d1 q h) U
  ·subst h;exact bm hT U
 ·have J:=H r q I;exact bm (Z.d2 r ((y r hr).resolve_right J) q (u r J q I)) U
 ·have J:=H r X Y;have h2:=H X q I;exact bm (Z.d3 r ((y r hr).resolve_right J) X (u r J X Y) q (u X h2 q I)) U
theorem oO (Y:st' TMP=st TMP)(hE:st' EPO=st EPO):∀ (ps:List PK) (xs:List (aG×List Leaf)),(∀ x∈xs,eQ st st' x.2)->c8 st' ps xs=c8 st ps xs /\
  ∀ (U:Upd) (O:List (aG×List Leaf)) (b:Option (Bool×Nat×Nat)),c8 st ps xs=some (U,O,b)->(∀ y∈O,eQ (ac U st) (ac U st') y.2)/\(∀ f r j,b=some (f,r,j)->st' r=st r)/\∀ ls,eQ st st' ls->eQ (ac U st) (ac U st') ls
 |[],xs,h=>⟨rfl,λU O b z=>by
   simp only[c8,BQ,CB]at z;obtain⟨rfl,rfl,rfl⟩:=z;exact⟨h,(λ_ _ _ h=>by cases h),λ_ h=>h⟩⟩
 |_::_,[],h=>⟨rfl,λU O b z=>by
   simp only[c8,BQ,CB]at z;obtain⟨rfl,rfl,rfl⟩:=z;exact⟨h,(λ_ _ _ h=>by cases h),λ_ h=>h⟩⟩
 |p::ps,x::xs,h=>by
  have hx:=h x (BW ..);obtain⟨i1,i2⟩:=oO Y hE ps xs (λy M=>h y (BV _ M));simp only[c8];cases hk:p.nest x.2 with
  |none =>
   simp only[i1,true_and];intro U O b z;simp only[BY]at z;obtain⟨u,X,z⟩:=z;simp only[CB]at z;obtain⟨rfl,rfl,rfl⟩:=z;obtain⟨j1,j2,j3⟩:=i2 u.1 u.2.1 u.2.2 X;refine⟨λy M=>?_,j2,j3⟩;rcases B7.1 M with rfl|M
   ·exact j3 _ hx
   ·exact j1 y M
  |some k =>
   obtain⟨l,a0,Z⟩:=rO hk;have hg:x.2.getD k .dead=l:=by rw[B8,a0];rfl
   have a1:∀ q∈aw [l],st' q=st q:=λq J=>hx.d1 q (fI (qX a0 q J))
   simp only[hg,qr Y hE a1,true_and];intro U O b z;simp only[BY]at z;obtain⟨u,X,z⟩:=z;simp only[CB]at z;obtain⟨rfl,rfl,rfl⟩:=z;obtain⟨n,e1,H⟩:=oM (U:=u.1) (l':=u.2) X;have I:=uT (U:=u.1) (l':=u.2) X;refine⟨λy M=>?_,λf r j hb=>?_,λls a2=>pz Y H I a2 (λq J=>.inl J)⟩
   ·rcases B7.1 M with rfl|M
    ·refine pz Y H I hx λq J=>?_
     have J:q∈az (aS x.2 k u.2):=J;rw[e1]at J;exact qt J
    ·exact pz Y H I (h y (BV _ M)) (λq J=>.inl J)
   ·simp only[BQ,CB]at hb;have hr:r=(kd l).1:=by rw[hb.2]
    rw[hr];refine a1 _ ?_;cases l with
    |nal p ks ep a3 E e xs =>
     cases ks with
     |nil =>
      exfalso;simp only[cn]at X;cases hv:bq st [] ep <;> simp[hv]at X
     |cons k ks=>rw[iw];simp[kd]
    |_=>simp[jp]at Z
theorem zx {b:Option (Bool×Nat×Nat)}{U:Upd}(y:st' TMP=st TMP)(z:st' EPO=st EPO)(u:∀ f r j,b=some (f,r,j)->st' r=st r):jT st' b U κ=jT st b U κ:=by
 unfold jT;split
 ·rename_i r j;rw[bm (u true r j rfl),bm y,bm z]
 ·rfl
theorem ud {d:Nat}{f:FuncId}{xs:List (aG×List Leaf)}(hT:st' TMP=st TMP)(X:st' EPO=st EPO)(hx:∀ x∈xs,eQ st st' x.2)(hd:st' d=st d)(hB:st' (B0+d)=st (B0+d)):jq Γ st' d f xs κ=jq Γ st d f xs κ:=by
 unfold jq;split
 ·rename_i c hc;obtain⟨n1,n2⟩:=oO hT X c.ps xs hx;rw[gG,gG,n1];cases hn:c8 st c.ps xs with
  |none=>rfl
  |some u =>
   obtain⟨H,J,b⟩:=u;obtain⟨m1,m2,_⟩:=n2 H J b hn;simp only[CV];have hg:=kx (st:=ac H st) (st':=ac H st') (ga:=ce Γ (ac H st)) (ga':=ce Γ (ac H st')) c.ps J (λx I pk=>wQ (m1 x I));simp only[oT,hg.1];split
   ·rename_i g a0;obtain⟨h1,h2⟩:=hg.2 g a0;have M:gL st' d c.rs=gL st d c.rs:=by
     unfold gL;split
     ·rw[hB]
     ·rfl
    have hL:∀ q,ac H st' q=ac H st q->∀ U,ac (U++H) st' q=ac (U++H) st q:=λq h U=>by rw[bA,bA];exact bm h U
    have a2:(bif c.fresh then [] else aE (ac H st') g.frz)=(bif c.fresh then [] else aE (ac H st) g.frz):=by rw[kh h1]
    have hk:∀ (U:Upd),aM (ac U (ac H st')) g.kill=aM (ac U (ac H st)) g.kill:=λU=>iy (λz hz=>bm (h2 z hz) U)
    have ho:∀ (U:Upd) (p:Bool) (y:ai c.ps),aF (ac (U++H) st') p c.ps J y=aF (ac (U++H) st) p c.ps J y:=λU p y =>
     qs c.ps J y (hL _ (bm X H) U) (λx I q hq=>hL _ ((m1 x I).d1 q hq) U)
    have O:∀ (U:Upd),(g.frz.map λk=>(k.1,k.2,(ac (U++H) st' k.1).ver))=g.frz.map λk=>(k.1,k.2,(ac (U++H) st k.1).ver):=λU=>C5 λz hz=>by rw[hL _ (h1 z hz) U]
    have Z:∀ U,ac U st' d=ac U st d:=λU=>bm hd U
    have a1:∀ U,ac U st' (B0+d)=ac U st (B0+d):=λU=>bm hB U
    have Y:∀ U,ac U st' EPO=ac U st EPO:=λU=>bm X U
    simp only[M,a2,hk,ho,Z,a1,Y,<- CN,O,zx hT X m2]
   ·rfl
 ·rfl
theorem rX:∀ (u:List Ty) (xs:List (aG×List Leaf)),(∀ x∈xs,∀ q∈aw x.2,st' q=st q)->iO st' u xs=iO st u xs
 |[],[],_=>rfl
 |[],_::_,_=>rfl
 |_::_,[],_=>rfl
 |a::u,x::xs,h=>by
  simp only[iO,eJ (h x (BW ..)),rX u xs (λy z=>h y (BV _ z))]
theorem wR {r j i off n:Nat}{p:Bool}{E:TypeId}{e:Ty}{xs:List e.den}{h:Option (Nat×Nat)}{ls:List Leaf}(X:st' r=st r)(Z:st' EPO=st EPO)(y:∀ q∈aw ls,st' q=st q):gM st' r j i off n p E e xs h ls κ=gM st r j i off n p E e xs h ls κ:=by
 unfold gM;congr 1;funext u;rw[pu e 0 u ls y];split
 ·rename_i t M;obtain⟨Y,I⟩:=pv e 0 u ls t M;have O:aE st' t.frz=aE st t.frz:=kh (λz H=>y _ (Y z H));have J:∀ U:Upd,aM (ac U st') t.kill=aM (ac U st) t.kill:=λU=>iy (λz H=>bm (y _ (I z H)) U)
  simp only[O,J,X,bm Z]
 ·rfl
end
section
variable {P:Program} {V:Env} {Γ:List Ctr} {T:TypeId->TI} {st st':St} {o:Oper} {R:Type} {κ:Upd->Option R} {r:R}
theorem dz {z:List Nat}(h:∀ q∈z++z.flatMap (λt=>aw (st t).ls),st' q=st q){x:Operand}(H:∀ t,x=.tmp t->t∈z):(∀ t,x=.tmp t->st' t=st t)/\∀ q∈aw (au st x).2,st' q=st q:=by
 refine⟨λt y=>h t (BT _ (H t y)),λq u=>?_⟩;obtain⟨t,y,u⟩:=rT u;rcases u with rfl|u
 ·exact h q (BT _ (H q y))
 ·exact h q (BU _ (CC.2 ⟨t,H t y,u⟩))
theorem nH {z:List Nat}(h:∀ q∈z++z.flatMap (λt=>az (st t).ls),st' q=st q){x:Operand}(H:∀ t,x=.tmp t->t∈z):(∀ t,x=.tmp t->st' t=st t)/\∀ q∈az (au st x).2,st' q=st q:=by
 refine⟨λt y=>h t (BT _ (H t y)),λq u=>?_⟩;obtain⟨t,y,u⟩:=rU u;rcases u with rfl|u
 ·exact h q (BT _ (H q y))
 ·exact h q (BU _ (CC.2 ⟨t,H t y,u⟩))
theorem qu {y:List Nat}(h:∀ q∈kA st y,st' q=st q){x:Operand}(hx:∀ t,x=.tmp t->t∈y):eQ st st' (au st x).2:=by
 have I:∀ q,q∈y->st' q=st q:=λq u=>h q (by simp[kA];exact .inl u)
 have ha:∀ q,q∈y.flatMap (λt=>az (st t).ls)->st' q=st q:=λq u=>h q (by
  unfold kA;exact BT _ (BT _ (BU _ u)))
 have O:∀ q,q∈(y.flatMap (λt=>az (st t).ls)).flatMap (λt=>az (st t).ls)->st' q=st q:=λq u=>h q (by
  unfold kA;exact BT _ (BU _ u))
 have hc:∀ q,q∈((y.flatMap (λt=>az (st t).ls)).flatMap (λt=>az (st t).ls)).flatMap (λt=>az (st t).ls)->st' q=st q:=λq u=>h q (by
  unfold kA;exact BU _ u)
 have Z:∀ r∈az (au st x).2,r∈y\/r∈y.flatMap (λt=>az (st t).ls):=by
  intro r H;obtain⟨t,Y,u⟩:=rU H;rcases u with rfl|u
  ·exact .inl (hx r Y)
  ·exact .inr (CC.2 ⟨t,hx t Y,u⟩)
 have X:∀ r∈az (au st x).2,∀ q∈az (st r).ls,q∈y.flatMap (λt=>az (st t).ls)\/q∈(y.flatMap (λt=>az (st t).ls)).flatMap (λt=>az (st t).ls):=by
  intro r H q u;rcases Z r H with z|z
  ·exact .inl (CC.2 ⟨r,z,u⟩)
  ·exact .inr (CC.2 ⟨r,z,u⟩)
 refine⟨λq u=>(Z q u).elim (I q) (ha q),λr H q u=>(X r H q u).elim (ha q) (O q),λr H J M q u=>?_⟩;rcases X r H J M with z|z
 ·exact O q (CC.2 ⟨J,z,u⟩)
 ·exact hc q (CC.2 ⟨J,z,u⟩)
theorem be {xs:Array Operand}{x:Operand}(h:x∈xs):∀ t,x=.tmp t->t∈iC xs.toList:=λt e=>rS (by rw[<- e];simpa using h)
theorem op_fr (h:∀ q∈fp st o,st' q=st q)(z:∀ x,o.op≠.move x)(H:∀ t x i,o.op≠.indexAddr t x i):∀ q∈cq st o.op,st' q=st q:=λq y=>h q (by
 unfold fp;refine BT _ ?_;cases u:o.op with
 |move x=>exact absurd u (z x)
 |indexAddr t x i=>exact absurd u (H t x i)
 |_=>rw[u]at y;exact y)
theorem AM {α β:Type}{xs:List α}{n:Int}{K:Option β}:((idx xs n).bind λ_=>K)=if 0<=n/\n<xs.length then K else none:=by
 unfold idx;by_cases u:n<0
 ·rw[if_pos u,if_neg (by omega)];rfl
 ·rw[if_neg u];by_cases y:n.toNat<xs.length
  ·rw[CA y,if_pos (by omega)];rfl
  ·rw[Cx (by omega),if_neg (by omega)];rfl
theorem BF (h:∀ q∈fp st o,st' q=st q)(hh:∀ q∈eY st o.op,bK (st' q)=bK (st q)):act Γ T o st' κ=act Γ T o st κ:=by
 have M:=op_fr h;have a0:∀ (U:Upd) (d:Nat) (sh:aG) (ls:List Leaf),o.dst=some d->cm st' U d sh ls=cm st U d sh ls:=λU d sh ls hd=>vA (ua hd h).1
 have hB:∀ d,o.dst=some d->st' (B0+d)=st (B0+d):=λd hd=>(ua hd h).2
 have hw:∀ (sh:aG) (ls:List Leaf),wrU o st' κ sh ls=wrU o st κ sh ls:=by
  intro sh ls;unfold wrU;split
  ·rename_i d hd;rw[a0 _ _ _ _ hd]
  ·rfl
 cases I:o.op with
 |move x =>
  simp only[I,eY]at hh;have e:au st' x=au st x:=ye λt Y=>hh t (be (by simp[Op.operands]) t Y)
  simp only[act,I,e,hw]
 |assign x =>
  have H:=M (by simp[I]) (by simp[I]);simp only[I,cq]at H;have J:=dz H (x:=x) (be (by simp[Op.operands]));have e:au st' x=au st x:=dV J.1;simp only[act,I,e,qZ J.2,pt J.2,tX J.2];split
  ·rename_i d hd;rw[a0 _ _ _ _ hd]
  ·rfl
 |pick c x y =>
  have H:=M (by simp[I]) (by simp[I]);simp only[I,cq]at H;have e1:one st' c=one st c:=dG λt Y=>H t (be (by simp[Op.operands]) t Y)
  have e2:au st' x=au st x:=dV λt Y=>H t (be (by simp[Op.operands]) t Y)
  have e3:au st' y=au st y:=dV λt Y=>H t (be (by simp[Op.operands]) t Y)
  simp only[act,I,e1,e2,e3,hw]
 |alloc t =>
  simp only[act,I];split
  ·rename_i d hd;rw[a0 _ _ _ _ hd,hB d hd]
  ·rfl
 |box t x =>
  have H:=M (by simp[I]) (by simp[I]);simp only[I,cq]at H;have J:=dz H (x:=x) (be (by simp[Op.operands]));have e:au st' x=au st x:=dV J.1;have b0:sE st' x=sE st x:=by cases x <;> first|rfl|(simp only[sE];rw[J.1 _ rfl])
  simp only[act,I,e,qZ J.2,pt J.2,tX J.2,b0];split
  ·rename_i d hd;simp only[a0 _ _ _ _ hd,hB d hd,bm (hB d hd)]
  ·rfl
 |build t a2 =>
  have H:=M (by simp[I]) (by simp[I]);simp only[I,cq]at H;have hb:∀ a6 ls,fm st' a6 a2.toList ls=fm st a6 a2.toList ls:=λa6 ls=>qq _ _ (λx J t Y=>H t (be (by simp only[Op.operands,DH,B4];exact⟨x,J,rfl⟩) t Y))
  simp only[act,I,hw,hb]
 |buildSlice t n a2 =>
  have H:=M (by simp[I]) (by simp[I]);simp only[I,cq]at H;have J:∀ x∈a2.toList,(∀ t,x.2=.tmp t->st' t=st t)/\∀ q∈aw (au st x.2).2,st' q=st q:=λx J =>
   dz H (be (by simp only[Op.operands,DH,B4];exact⟨x,J,rfl⟩))
  simp only[act,I];split
  ·rw[oK _ _ J];split
   ·rename_i u b9;have c0:=oL _ _ _ b9;have b4:∀ z,z∈u.frz\/z∈u.kill->st' z.1=st z.1:=λz hz=>by
     obtain⟨x,c1,bl⟩:=c0 z hz;exact (J x c1).2 _ bl
    have e1:aE st' u.frz=aE st u.frz:=kh λz hz=>b4 z (.inl hz)
    have e2:∀ U:Upd,aM (ac U st') u.kill=aM (ac U st) u.kill:=λU=>iy (λz hz=>bm (b4 z (.inr hz)) U)
    simp only[e1,e2];congr 1;split
    ·rename_i d hd;rw[a0 _ _ _ _ hd]
    ·rfl
   ·rfl
  ·rfl
 |load t x =>
  have H:=M (by simp[I]) (by simp[I]);simp only[I,cq]at H;have J:=nH H (x:=x) (be (by simp[Op.operands]));have e:one st' x=one st x:=dG J.1;have X:∀ q∈az [one st x],st' q=st q:=λq O=>J.2 q (tY O)
  simp only[act,I,e,hw];congr 1;split
  ·rfl
  ·rename_i b off Z;rw[Z]at X;rw[X b (by simp[az])]
  ·rfl
  ·rename_i p ks ep a y off Z;rw[Z]at X;rw[jH (λq O=>X q (by simpa[az]using O))]
  ·rename_i r j v i sz off Z;rw[Z]at X;rw[cl (l:=.al r j v) (λq O=>X q (by simp[aw]at O;simp[az,O])),X EPO (by simp[az])]
  ·rfl
 |store t x y =>
  have H:=M (by simp[I]) (by simp[I]);simp only[I,cq]at H;have J:=nH H (x:=x) (be (by simp[Op.operands]));have hy:=nH H (x:=y) (be (by simp[Op.operands]));have e:one st' x=one st x:=dG J.1;have e2:au st' y=au st y:=dV hy.1;have X:∀ q∈az [one st x],st' q=st q:=λq O=>J.2 q (tY O)
  have ad:∀ q∈aw (au st y).2,st' q=st q:=λq O=>hy.2 q (fI O)
  simp only[act,I,e,e2,qZ ad,pt ad,tX ad];split
  ·rfl
  ·congr 1;split
   ·rename_i b off Z;rw[Z]at X;have hb:=X b (by simp[az]);simp only[hb,bm hb]
   ·rename_i r j v i sz off Z;rw[Z]at X;have c2:=X r (by simp[az]);rw[cl (l:=.al r j v) (λq O=>X q (by simp[aw]at O;simp[az,O]))];split
    ·rw[wR c2 (X EPO (by simp[az])) ad]
    ·rfl
   ·rfl
 |nilCheck x =>
  have H:=M (by simp[I]) (by simp[I]);simp only[I,cq]at H;have J:=dz H (x:=x) (be (by simp[Op.operands]));have e:one st' x=one st x:=dG J.1;have X:∀ q∈aw [one st x],st' q=st q:=λq O=>J.2 q (jm O)
  simp only[act,I,e,hw];split
  ·rfl
  ·rfl
  ·rename_i r j v i sz off Z;rw[Z]at X;rw[X r (by simp[aw])]
  ·rfl
  ·rename_i p ks ep a y off Z;rw[Z,vz]at X;rw[jH X]
  ·rfl
 |binOp op t x y t' =>
  have H:=M (by simp[I]) (by simp[I]);simp only[I,cq]at H;have J:=dz H (x:=x) (be (by simp[Op.operands]));have hy:=dz H (x:=y) (be (by simp[Op.operands]));have e1:one st' x=one st x:=dG J.1;have e2:one st' y=one st y:=dG hy.1;have e3:au st' x=au st x:=dV J.1;have e4:au st' y=au st y:=dV hy.1;simp only[act,I,e1,e2,e3,e4,hw,eJ J.2,eJ hy.2]
 |unOp op t x =>
  have H:=M (by simp[I]) (by simp[I]);simp only[I,cq]at H;have e1:one st' x=one st x:=dG λt Y=>H t (be (by simp[Op.operands]) t Y)
  simp only[act,I,e1,hw]
 |convert s t x =>
  have H:=M (by simp[I]) (by simp[I]);simp only[I,cq]at H;have J:=dz H (x:=x) (be (by simp[Op.operands]));have e1:one st' x=one st x:=dG J.1;have X:∀ q∈aw [one st x],st' q=st q:=λq O=>J.2 q (jm O)
  simp only[act,I,e1,hw];split
  ·rfl
  ·rw[cl X]
  ·rfl
  ·rfl
 |makeSlice t n c =>
  have H:=M (by simp[I]) (by simp[I]);simp only[I,cq]at H;have e1:one st' n=one st n:=dG λt Y=>H t (be (by simp[Op.operands]) t Y)
  have e2:one st' c=one st c:=dG λt Y=>H t (be (by simp[Op.operands]) t Y)
  simp only[act,I,e1,e2,hw]
 |slice t x lo hi mx =>
  have H:=M (by simp[I]) (by simp[I]);simp only[I,cq]at H;have hE:=H EPO (BW ..);have H:=λq O=>H q (BV _ O)
  have J:=dz H (x:=x) (be (by simp[Op.operands]));have ba:∀ n,dm st' lo n=dm st lo n:=λn=>nD λy hy t Y=>H t (BT _ (be (by simp[Op.operands,hy]) t Y))
  have bn:∀ n,dm st' hi n=dm st hi n:=λn=>nD λy hy t Y=>H t (BT _ (be (by simp[Op.operands,hy]) t Y))
  have e:one st' x=one st x:=dG J.1;have X:∀ q∈aw [one st x],st' q=st q:=λq O=>J.2 q (jm O)
  have bb:∀ m,mx=some m->dm st' (some m) 0=dm st (some m) 0:=λm hm=>nD λy hy t Y=>H t (BT _ (be (by simp[Op.operands,hm,DM hy]) t Y))
  simp only[act,I,e,ba,bn,cl X,hE];cases hd:o.dst with
  |none=>cases mx <;> rfl
  |some d =>
   cases mx with
   |none=>simp only[a0 _ _ _ _ hd]
   |some m =>
    simp only[bb m rfl];split
    ·rename_i r j v _ Z _;rw[Z]at X;rw[cl X,iy (st:=st) (st':=st') (λz hz=>by simp at hz;subst hz;exact X _ (by simp[aw]))];simp only[a0 _ _ _ _ hd]
    ·rfl
 |fieldAddr t x f =>
  have H:=M (by simp[I]) (by simp[I]);simp only[I,cq]at H;have J:=dz H (x:=x) (be (by simp[Op.operands]));have e:one st' x=one st x:=dG J.1;have X:∀ q∈aw [one st x],st' q=st q:=λq O=>J.2 q (jm O)
  simp only[act,I,e,hw];split
  ·split
   ·split
    ·rfl
    ·rfl
    ·rename_i r j v i sz off Z;rw[Z]at X;rw[X r (by simp[aw])]
    ·rename_i p ks ep a y o' Z;rw[Z,vz]at X;rw[jH X]
    ·rfl
   ·rfl
  ·rfl
 |field t x f =>
  have H:=M (by simp[I]) (by simp[I]);simp only[I,cq]at H;have e1:au st' x=au st x:=dV λt Y=>H t (be (by simp[Op.operands]) t Y)
  simp only[act,I,e1,hw]
 |indexAddr t x i =>
  simp only[I,eY]at hh;have b5:∀ y∈(Op.indexAddr t x i).operands,∀ t,y=.tmp t->bK (st' t)=bK (st t):=λy hy t Y=>hh t (BT _ (be hy t Y))
  have e:one st' x=one st x:=zR (b5 x (by simp[Op.operands]));have e2:one st' i=one st i:=zR (b5 i (by simp[Op.operands]));have X:∀ q∈aw [one st x],bK (st' q)=bK (st q):=λq O=>by
   obtain⟨t',bx,O⟩:=rT (jm O);have a5:=be (xs:=(Op.indexAddr t x i).operands) (x:=x) (by simp[Op.operands]) t' bx;rcases O with rfl|O
   ·exact hh q (BT _ a5)
   ·exact hh q (BU _ (CC.2 ⟨t',a5,O⟩))
  simp only[act,I,e,e2,hw];split
  ·split
   ·rfl
   ·split
    ·rename_i r j v Z;rw[Z]at X;have O:=X r (by simp[aw]);have hv:(st' r).ver=(st r).ver:=by simp only[bK,CB]at O;exact O.1
     simp only[aD,hv];cases BZ (st r).ver v with
     |false=>rfl
     |true =>
      simp only[cond_true];rcases tZ (yf O j) with e3|⟨p,p',h1,h2,E1,E2,e',c3,xs,c5,e3,e4,e5,e6⟩
      ·rw[e3]
      ·rw[e3,e4];simp only[pG,e5,AM,e6]
    ·rfl
    ·rename_i p ks ep c4 E' e' xs Z;rw[Z,iw]at X;rw[zw X]
    ·rfl
   ·rfl
  ·rfl
 |index t x i =>
  have H:=M (by simp[I]) (by simp[I]);simp only[I,cq]at H;have J:=dz H (x:=x) (be (by simp[Op.operands]));have e1:one st' x=one st x:=dG J.1;have e2:one st' i=one st i:=dG (dz H (x:=i) (be (by simp[Op.operands]))).1;have e3:au st' x=au st x:=dV J.1;simp only[act,I,e1,e2,e3,hw,λe n=>nA (e:=e) n _ J.2]
 |extract x i =>
  have H:=M (by simp[I]) (by simp[I]);simp only[I,cq]at H;have e1:au st' x=au st x:=dV λt Y=>H t (be (by simp[Op.operands]) t Y)
  simp only[act,I,e1,hw]
 |makeFunc fn first a3 =>
  have H:=M (by simp[I]) (by simp[I]);simp only[I,cq]at H;cases fn with
  |func f =>
   have:sH st' a3.toList=sH st a3.toList:=vB (st:=st) (st':=st') a3.toList (some []) (λx J t Y=>H t (be (by simp[Op.operands];exact .inr (by simpa using J)) t Y));simp only[act,I,hw,this]
  |_=>simp only[act,I]
 |call c =>
  have H:=M (by simp[I]) (by simp[I]);simp only[I,cq]at H;simp only[act,I];split
  ·rfl
  ·rename_i d hd;obtain⟨b1,b2⟩:=ua hd h;cases hc:c.callee with
   |value f =>
    simp only[hc]at H;have hT:=H TMP (BW ..);have hE:=H EPO (BV _ (BW ..));have H:=λq O=>H q (BV _ (BV _ O))
    have b3:f∈(Op.call c).operands:=by simp[Op.operands,Call.operands,hc]
    have a9:∀ x∈c.args.toList,x∈(Op.call c).operands:=λx J=>by
     simp only[Op.operands,Call.operands,hc,DI];exact .inr (by simpa using J)
    have a5:∀ x∈(Op.call c).operands,∀ t,x=.tmp t->st' t=st t:=λx J t Y=>H t (by
     unfold kA;exact BT _ (BT _ (BT _ (be J t Y))))
    have e1:one st' f=one st f:=dG (a5 f b3);have e2:c.args.toList.map (au st')=c.args.toList.map (au st):=C5 λx J=>dV (a5 x (a9 x J))
    have a4:∀ x∈c.args.toList.map (au st),eQ st st' x.2:=by
     intro x J;obtain⟨y,hy,rfl⟩:=B4.1 J;exact qu H (be (a9 y hy))
    simp only[e1,e2];split
    ·rename_i g a3 Z;refine ud hT hE ?_ b1 b2;intro x J;rcases BR.1 J with J|J
     ·exact a4 x J
     ·obtain⟨b,hb,rfl⟩:=B4.1 J;have hf:=qu H (be b3);rw[q8 Z (by simp)]at hf;exact pw hf _ (B4.2 ⟨b,hb,rfl⟩)
    ·rename_i g a3 Z;refine ud hT hE ?_ b1 b2;intro x J;rcases BR.1 J with J|J
     ·exact a4 x J
     ·obtain⟨cp,b6,rfl⟩:=B4.1 J;exact nG _ (B4.2 ⟨cp,b6,rfl⟩)
    ·rename_i As B φ Z;rw[rX As _ (λx J q O=>(a4 x J).d1 q (fI O))];simp only[hw]
    ·rfl
   |builtin b =>
    simp only[hc]at H;have hT:=H TMP (BW ..);have H:=λq O=>H q (BV _ O)
    have a9:∀ x∈c.args.toList,x∈(Op.call c).operands:=λx J=>by
     simp only[Op.operands,Call.operands,hc,DI];exact .inr (by simpa using J)
    have J:∀ x∈c.args.toList,one st' x=one st x/\∀ q∈aw [one st x],st' q=st q:=λx J=>by
     have:=dz H (be (a9 x J));exact⟨dG this.1,λq O=>this.2 q (jm O)⟩
    cases b with
    |len =>
     dsimp only;split
     ·rename_i x a1;have h1:=J x (by rw[a1];simp);simp only[h1.1,cl h1.2,hw]
     ·rfl
    |append =>
     dsimp only;split
     ·rename_i x y t u a1 _;have h1:=J x (by rw[a1];simp);have h2:=J y (by rw[a1];simp);split
      ·rw[h1.1,h2.1,wP hT h1.2 h2.2 b1]
      ·rfl
     ·rfl
    |min =>
     dsimp only;split
     ·rename_i x y a1;rw[(J x (by rw[a1];simp)).1,(J y (by rw[a1];simp)).1];simp only[hw]
     ·rfl
    |max =>
     dsimp only;split
     ·rename_i x y a1;rw[(J x (by rw[a1];simp)).1,(J y (by rw[a1];simp)).1];simp only[hw]
     ·rfl
    |_=>rfl
   |invoke x n=>rfl
 |_=>simp only[act,I]
end
section
variable {P:Program} {V:Env} {Γ:List Ctr} {T:TypeId->TI} {st st':St} {o:Oper} {R:Type} {all:Array Oper}
def mC (Γ:List Ctr)(T:TypeId->TI)(all:Array Oper)(o:Oper)(st:St)(U:Upd):Prop :=
 match o.guard with
 |none=>act Γ T o st some=some U
 |some (j,r)=>∃ t,(all[j]?).bind (·.dst)=some t /\
  ((∃ b,(st t).sh=.one/\(st t).ls=[.bool b]/\((b=r/\act Γ T o st some=some U)\/(b≠r/\U=eL st o)))\/((st t).sh=.und/\U=eL st o))
def jI (Γ:List Ctr)(T:TypeId->TI)(all:Array Oper)(o:Oper)(st:St)(U:Upd)(t:cP):Prop :=
 ((∀ q∈U.map (·.1),q∈t.wr\/q∈t.cw)/\(∀ q∈t.wr,q∈U.map (·.1))/\∀ q,q∈U.map (·.1)->q∉t.wr->bK (ac U st q)=bK (st q))/\match o.guard with
 |none=>act Γ T o st some=some U/\(∀ q∈fp st o,q∈t.rd)/\∀ q∈eY st o.op,q∈t.hd
 |some (j,r)=>∃ s,(all[j]?).bind (·.dst)=some s/\s∈t.rd /\
  ((∃ b,(st s).sh=.one/\(st s).ls=[.bool b]/\((b=r/\act Γ T o st some=some U/\(∀ q∈fp st o,q∈t.rd)/\∀ q∈eY st o.op,q∈t.hd)\/(b≠r/\U=eL st o/\∀ d,o.dst=some d->d∈t.wr))) \/
   ((st s).sh=.und/\U=eL st o/\∀ d,o.dst=some d->d∈t.wr))
theorem ue {α:Type}:∀ {l:List α} {j:Nat} {x:α},l[j]?=some x->l.set j x=l
 |[],_,_,h=>by simp at h
 |y::l,0,x,h=>by simp at h;subst h;rfl
 |y::l,j+1,x,h=>by rw[DB,ue (by simpa using h)]
theorem AN {U:Upd}(h:act Γ T o st some=some U):∀ q∈d6 st o,bK (ac U st q)=bK (st q):=by
  intro q z;unfold d6 at z;split at z
  · rename_i t x y J
    split at z
    · rename_i r j a0 i sz off hx
      simp only[CQ]at z;subst z;simp only[act,wrU,J]at h;split at h
      · cases h
      · cases M:BZ (au st y).2.length (T t).cells&&decide ((au st y).1=bg (T t).agg)&&!decide ((T t).cells=0) with
        |false=>simp[M]at h
        |true =>
          simp only[M,cond_true,hx]at h;split at h
          · rename_i p hh E e xs hd
            cases Z:BZ sz e.cells&&decide (off+(au st y).2.length<=e.cells)&&sn q with
            |false=>simp[Z]at h
            |true =>
              simp only[Z,cond_true]at h;obtain⟨_,hl⟩:=fe hd (by simp);have u:∀ (p':Bool) (I:Option (Nat×Nat)) (v:e.den) (X:Upd),bK (ac ((q,⟨(st q).ver,(st q).sh,aS (st q).ls j (.own p' I E e (xs.set i v))⟩)::X) st q)=bK (st q):=by
                intro p' I v X;rw[aP,bk];simp only[bK,aS];rw[List.map_set,ue];rw[DE,hl];simp[jv]
              unfold gM at h;obtain⟨a1,_,h⟩:=CO.1 h;split at h
              · rename_i t _
                cases H:t.rest.isEmpty&&aZ t.kill&&dF t.frz t.kill&&!((t.kill++t.frz).any λk=>BZ k.1 q) with
                |false=>rw[H]at h;cases h
                |true =>
                  simp only[H,cond_true]at h;cases hh with
                  |none =>
                    simp only[BQ]at h;rw[<- h];exact u _ _ _ _
                  |some hp =>
                    obtain⟨hi,Y⟩:=hp;simp only at h;cases O:C4 off Y&&Cv Y (off+(au st y).2.length) with
                    |false =>
                      rw[O]at h;simp only[cond_false,BQ]at h;rw[<- h];exact u _ _ _ _
                    |true =>
                      rw[O]at h;simp only[cond_true]at h;cases h2:BZ i hi with
                      |false=>rw[h2]at h;cases h
                      |true =>
                        rw[h2]at h;simp only[cond_true,BQ]at h;rw[<- h];exact u _ _ _ _
              · cases h
          · cases h
    · simp at z
  · simp at z
theorem pA {t:Nat}{b:Bool}(r:(st t).sh=.one)(u:(st t).ls=[.bool b]):lit st t b=st:=by
 funext q;unfold lit;rcases am t q ⟨(st t).ver,.one,[.bool b]⟩ st with ⟨rfl,e⟩|⟨_,e⟩
 ·rw[e,<- r,<- u]
 ·exact e
theorem wS {U:Upd}(h:act Γ T o st some=some U):(∀ q∈U.map (·.1),q∈(U.map (·.1)).filter (λq=>!((d6 st o).any (BZ q)))\/q∈d6 st o)/\(∀ q∈(U.map (·.1)).filter (λq=>!((d6 st o).any (BZ q))),q∈U.map (·.1)) /\
  ∀ q,q∈U.map (·.1)->q∉(U.map (·.1)).filter (λq=>!((d6 st o).any (BZ q)))->bK (ac U st q)=bK (st q):=by
 have r:∀ q,(d6 st o).any (BZ q)=true->q∈d6 st o:=λq u=>by
  obtain⟨x,I,z⟩:=Cg.1 u;rw[BX z];exact I
 refine⟨λq u=>?_,λq u=>(Cb.1 u).1,λq u H=>?_⟩
 ·cases y:(d6 st o).any (BZ q) with
  |true=>exact .inr (r q y)
  |false=>exact .inl (Cb.2 ⟨u,by rw[y];rfl⟩)
 ·refine AN h q (r q ?_);cases y:(d6 st o).any (BZ q) with
  |true=>rfl
  |false=>exact absurd (Cb.2 ⟨u,by rw[y];rfl⟩) H
theorem AO {κ:St->cP->Option R}{r:R}(h:opK Γ T all o st κ=some r):∃ U t,jI Γ T all o st U t/\κ (ac U st) t=some r:=by
 have Y:∀ (z:List Nat),act Γ T o st (λU=>κ (ac U st) ⟨z++fp st o,eY st o.op,(U.map (·.1)).filter (λq=>!((d6 st o).any (BZ q))),d6 st o⟩)=some r ->
   ∃ U,act Γ T o st some=some U/\κ (ac U st) ⟨z++fp st o,eY st o.op,(U.map (·.1)).filter (λq=>!((d6 st o).any (BZ q))),d6 st o⟩=some r:=by
  intro z h;rw[tW]at h;obtain⟨U,M,X⟩:=CO.1 h;exact⟨U,M,X⟩
 have y:((∀ q∈(eL st o).map (·.1),q∈o.dst.toList\/q∈([]:List Nat))/\(∀ q∈o.dst.toList,q∈(eL st o).map (·.1))/\∀ q,q∈(eL st o).map (·.1)->q∉o.dst.toList->bK (ac (eL st o) st q)=bK (st q)):=by
  unfold eL;cases o.dst with
  |none=>simp
  |some d=>simp
 unfold opK at h;unfold jI;cases hg:o.guard with
 |none =>
  simp only[hg]at h;obtain⟨U,M,X⟩:=Y [] h;exact⟨U,_,⟨wS M,M,λq J=>by simpa using J,λq J=>J⟩,X⟩
 |some jw =>
  obtain⟨j,O⟩:=jw;simp only[hg]at h;split at h
  ·rename_i t Z;have I:∀ d,o.dst=some d->d∈o.dst.toList:=λd hd=>by simp[hd]
   split at h
   ·rename_i b u H;have hl:∀ b',b'=b->lit st t b'=st:=λb' e=>pA u (by rw[H,e])
    cases b with
    |true =>
     simp only[cond_true,hl true rfl]at h;cases O with
     |true =>
      simp only[cond_true]at h;obtain⟨U,M,X⟩:=Y [t] h;exact⟨U,_,⟨wS M,t,Z,by simp,.inl ⟨true,u,H,.inl ⟨rfl,M,λq J=>BU _ J,λq J=>J⟩⟩⟩,X⟩
     |false =>
      simp only[cond_false]at h;exact⟨eL st o,_,⟨y,t,Z,by simp,.inl ⟨true,u,H,.inr ⟨by simp,rfl,I⟩⟩⟩,h⟩
    |false =>
     simp only[cond_false,hl false rfl]at h;cases O with
     |true =>
      simp only[cond_true]at h;exact⟨eL st o,_,⟨y,t,Z,by simp,.inl ⟨false,u,H,.inr ⟨by simp,rfl,I⟩⟩⟩,h⟩
     |false =>
      simp only[cond_false]at h;obtain⟨U,M,X⟩:=Y [t] h;exact⟨U,_,⟨wS M,t,Z,by simp,.inl ⟨false,u,H,.inl ⟨rfl,M,λq J=>BU _ J,λq J=>J⟩⟩⟩,X⟩
   ·rename_i u;exact⟨eL st o,_,⟨y,t,Z,by simp,.inr ⟨u,rfl,I⟩⟩,h⟩
   ·cases h
  ·cases h
theorem vC {U:Upd}(e:U=eL st o)(u:∀ d,o.dst=some d->st' d=st d):U=eL st' o:=by
 rw[e];unfold eL;cases r:o.dst with
 |none=>rfl
 |some d=>simp only[u d r]
theorem jI.frame {U:Upd}{t:cP}(h:jI Γ T all o st U t)(u:∀ q,q∈t.rd\/q∈t.wr->st' q=st q)(hh:∀ q∈t.hd,bK (st' q)=bK (st q)):mC Γ T all o st' U:=by
 obtain⟨_,h⟩:=h;have r:act Γ T o st some=some U->(∀ q∈fp st o,q∈t.rd)->(∀ q∈eY st o.op,q∈t.hd)->act Γ T o st' some=some U:=by
  intro y I h3;rw[BF (λq Z=>u q (.inl (I q Z))) (λq Z=>hh q (h3 q Z))];exact y
 unfold mC;cases hg:o.guard with
 |none =>
  rw[hg]at h;exact r h.1 h.2.1 h.2.2
 |some jw =>
  obtain⟨j,a0⟩:=jw;rw[hg]at h;obtain⟨s,y,I,h3⟩:=h;have J:=u s (.inl I);refine⟨s,y,?_⟩;rw[J];rcases h3 with ⟨b,z,X,h6⟩|⟨z,X,h6⟩
  ·refine .inl ⟨b,z,X,?_⟩;rcases h6 with ⟨H,Y,h9,O⟩|⟨H,Y,h9⟩
   ·exact .inl ⟨H,r Y h9 O⟩
   ·exact .inr ⟨H,vC Y (λd M=>u d (.inr (h9 d M)))⟩
  ·exact .inr ⟨z,vC X (λd M=>u d (.inr (h6 d M)))⟩
theorem wT (hV:ay V)(hT:TOk P T)(hΓ:∀ c∈Γ,bP P c){ops:Array Oper}{i:Nat}(hi:ops[i]?=some o)(M:bN V o)(z:∀ j u,o.guard=some (j,u)->∀ s,(ops[j]?).bind (·.dst)=some s->s<V.nt)
  {U:Upd} (h:mC Γ T ops o st U) {a:Act} {w:World} (H:Rel P V st a w) {K:Act->World->Prop} {Q:Exit->Act->World->Prop} (hK:∀ a' w',Rel P V (ac U st) a' w'->K a' w'):wpOp P ops Q i K a w:=by
 obtain⟨W,H⟩:=H;unfold wpOp;simp only[hi];have a0:act Γ T o st some=some U->o.wp P a w K Q:=by
  intro X;obtain⟨U',h2,h3⟩:=BE hV hT hΓ M X;cases h2;exact h3 W a w H K Q hK
 have y:U=eL st o->K (a.put o.dst undef) w:=by
  intro e;refine hK _ _ ?_;subst e;unfold eL;cases hd:o.dst with
  |none=>exact⟨W,H⟩
  |some d=>exact H.putLs hV d (M d hd).1 (M d hd).2 _ .und [] undef [] (CZ _) ⟨rfl,rfl⟩ trivial
 unfold mC at h;cases O:o.guard with
 |none =>
  rw[O]at h;have J:Region.wanted o (yielded ops a.tmps)=true:=by simp[Region.wanted,O]
  rw[if_pos J];exact .inl (a0 h)
 |some jw =>
  obtain⟨j,u⟩:=jw;rw[O]at h;obtain⟨s,X,h2⟩:=h;have Z:=z j u O s X;have a1:s<GH:=DC Z hV.nt;have r:=H.slots s a1;have a2:s<a.tmps.size:=by rw[H.nt];exact Z
  have I:a.tmps[s]?=some (a.tmps.getD s undef):=by
   rw[B6,B5 a2];rfl
  rcases h2 with ⟨b,h3,h4,h5⟩|⟨h3,h5⟩
  ·have Y:=H.len s;rw[h4]at Y;rw[h3]at r;have r:W.cs s=[a.tmps.getD s undef]:=r;have hv:=H.leaf s 0 (.bool b) (a.tmps.getD s undef) (by rw[h4];rfl) (by rw[r];rfl);have hv:a.tmps.getD s undef=.bool b:=hv;have hy:yielded ops a.tmps j=some b:=by simp[yielded,X,I,hv]
   rcases h5 with ⟨rfl,h6⟩|⟨h6,h7⟩
   ·have J:Region.wanted o (yielded ops a.tmps)=true:=by simp[Region.wanted,O,hy]
    rw[if_pos J];exact .inl (a0 h6)
   ·have J:Region.wanted o (yielded ops a.tmps)=false:=by
     simp only[Region.wanted,O,hy];cases b <;> cases u <;> simp at h6 <;> rfl
    rw[J];exact y h7
  ·rw[h3]at r;obtain⟨hv,_⟩:=r;have hy:yielded ops a.tmps j=none:=by
    unfold yielded;rw[X,CV,I,hv];rfl
   have J:Region.wanted o (yielded ops a.tmps)=false:=by simp[Region.wanted,O,hy]
   rw[J];exact y h5
def Run (Γ:List Ctr)(T:TypeId->TI)(all:Array Oper):St->List Oper->List Upd->List cP->St->Prop
 |st,[],[],[],st'=>st'=st
 |st,o::y,U::u,t::r,st'=>jI Γ T all o st U t/\Run Γ T all (ac U st) y u r st'
 |_,_,_,_,_=>False
theorem pB:∀ (H:List Oper) (st:St) (z:List cP) (y:St->List cP->Option R) (r:R),qz Γ T all H st z y=some r ->
  ∃ I u st',Run Γ T all st H I u st'/\y st' (z++u)=some r
 |[],st,z,y,r,h=>⟨[],[],st,rfl,by simpa[qz]using h⟩
 |o::H,st,z,y,r,h=>by
  simp only[qz]at h;obtain⟨U,t,M,O⟩:=AO h;obtain⟨I,u,st',X,J⟩:=pB H (ac U st) (z++[t]) y r O;exact⟨U::I,t::u,st',⟨M,X⟩,by rw[CN]at J;exact J⟩
theorem jI.res {U:Upd}{t:cP}(h:jI Γ T all o st U t):mC Γ T all o st U:=h.frame (λ_ _=>rfl) (λ_ _=>rfl)
theorem vD (X:ay V)(Z:TOk P T)(hΓ:∀ c∈Γ,bP P c){ops:Array Oper}(u:∀ (i:Nat) (o:Oper),ops[i]?=some o->bN V o)
  (r:∀ (i:Nat) (o:Oper),ops[i]?=some o->∀ j y,o.guard=some (j,y)->∀ s,(ops[j]?).bind (·.dst)=some s->s<V.nt) {Q:Exit->Act->World->Prop} :
  ∀ (z:List Oper) (k:Nat) (st:St) (us:List Upd) (J:List cP) (st':St),ops.toList.drop k=z->Run Γ T ops st z us J st'->(∀ a w,Rel P V st' a w->Q .normal a w) ->
   ∀ a w,Rel P V st a w->wpOps P ops Q (List.range' k z.length) a w
 |[],k,st,[],[],st',_,h,H,a,w,I=>by
  have h:st'=st:=h;subst h;exact H a w I
 |o::z,k,st,U::us,t::J,st',Y,h,H,a,w,I=>by
  obtain⟨h1,h2⟩:=h;have O:ops[k]?=some o:=by
   have:(ops.toList.drop k)[0]?=some o:=by rw[Y];rfl
   rw[List.getElem?_drop]at this;simpa using this
  rw[CW,List.range'_succ,wpOps_cons];refine wT X Z hΓ O (u k o O) (r k o O) h1.res I (λa' w' M=>?_);exact vD X Z hΓ u r z (k+1) (ac U st) us J st' (by rw[<- Cz,Y];rfl) h2 H a' w' M
end
section
variable {P:Program} {V:Env} {Γ:List Ctr} {T:TypeId->TI} {st st':St} {o:Oper} {R:Type} {all:Array Oper}
def dk (D:Nat->Bool):List Upd->St->St
 |[],st=>st
 |U::r,st=>dk (λj=>D (j+1)) r (bif D 0 then ac U st else st)
theorem jn {q:Nat}:∀ {U:Upd} (s u:St),q∈U.map (·.1)->ac U s q=ac U u q
 |[],_,_,h=>by simp at h
 |(r,c)::U,s,u,h=>by
  simp only[ac];cases y:BZ q r with
  |true=>rfl
  |false =>
   simp only[cond_false];refine jn s u ?_;simp only[CH,B7]at h;rcases h with rfl|h
   ·simp at y
   ·exact h
theorem eK {q:Nat}:∀ {U:Upd} (s:St),q∉U.map (·.1)->ac U s q=s q
 |[],_,_=>rfl
 |(r,c)::U,s,h=>by
  simp only[CH,B7,not_or]at h;have u:BZ q r=false:=by
   cases u:BZ q r with
   |false=>rfl
   |true=>exact absurd (BX u) h.1
  simp only[ac,u,cond_false];exact eK s h.2
theorem yg {U r:Upd}(h:∀ q,q∈U.map (·.1)->q∉r.map (·.1))(s:St):ac r (ac U s)=ac U (ac r s):=by
 funext q;by_cases u:q∈U.map (·.1)
 ·rw[eK _ (h q u)];exact jn _ _ u
 ·rw[eK (U:=U) _ u];by_cases y:q∈r.map (·.1)
  ·exact jn _ _ y
  ·rw[eK _ y,eK _ y,eK _ u]
theorem mD:∀ {us:List Upd} {D D':Nat->Bool} {s:St},(∀ j,j<us.length->D j=D' j)->dk D us s=dk D' us s
 |[],_,_,_,_=>rfl
 |U::us,D,D',s,h=>by
  simp only[dk];rw[h 0 (by simp)];exact mD (λj r=>h (j+1) (by simpa using r))
theorem nI:∀ {us:List Upd} {D:Nat->Bool} {s:St},(∀ j,D j=false)->dk D us s=s
 |[],_,_,_=>rfl
 |U::us,D,s,h=>by
  simp only[dk,h 0,cond_false];exact nI (λj=>h (j+1))
theorem mE {q:Nat}:∀ {us:List Upd} {D D':Nat->Bool} {s r:St},s q=r q->(∀ (j:Nat) (U:Upd),us[j]?=some U->q∈U.map (·.1)->D j=D' j)->dk D us s q=dk D' us r q
 |[],_,_,_,_,h,_=>h
 |U::us,D,D',s,r,h,H=>by
  simp only[dk];refine mE ?_ (λj y z I=>H (j+1) y (by simpa using z) I);by_cases u:q∈U.map (·.1)
  ·rw[H 0 U rfl u];cases D' 0 with
   |true=>exact jn _ _ u
   |false=>exact h
  ·have J:∀ b:Bool,(bif b then ac U s else s) q=s q:=by intro b;cases b <;> simp[eK _ u]
   have M:∀ b:Bool,(bif b then ac U r else r) q=r q:=by intro b;cases b <;> simp[eK _ u]
   rw[J,M,h]
theorem nJ {U:Upd}:∀ {us:List Upd} {D:Nat->Bool} {s:St},(∀ (j:Nat) (u:Upd),us[j]?=some u->D j=true->∀ q,q∈U.map (·.1)->q∉u.map (·.1))->dk D us (ac U s)=ac U (dk D us s)
 |[],_,_,_=>rfl
 |u::us,D,s,h=>by
  simp only[dk];cases H:D 0 with
  |true =>
   simp only[cond_true];rw[yg (h 0 u rfl H)];exact nJ (λj r y z=>h (j+1) r (by simpa using y) z)
  |false =>
   simp only[cond_false];exact nJ (λj r y z=>h (j+1) r (by simpa using y) z)
theorem oP {U:Upd}:∀ {us:List Upd} {i:Nat} {D D':Nat->Bool} {s:St},us[i]?=some U->D i=false->(∀ j,D' j=(D j||BZ j i)) ->
  (∀ (j:Nat) (u:Upd),us[j]?=some u->i<j->D j=true->∀ q,q∈U.map (·.1)->q∉u.map (·.1))->dk D' us s=ac U (dk D us s)
 |[],i,_,_,_,h,_,_,_=>by simp at h
 |V::us,0,D,D',s,h,I,r,H=>by
  simp at h;subst h;simp only[dk];have y:D' 0=true:=by rw[r 0];simp
  rw[y,I];simp only[cond_true,cond_false];have e:dk (λj=>D' (j+1)) us (ac V s)=dk (λj=>D (j+1)) us (ac V s):=mD (λj _=>by rw[r (j+1)];simp[BZ]);rw[e];exact nJ (λj u z J=>H (j+1) u (by simpa using z) (by omega) J)
 |V::us,i+1,D,D',s,h,I,r,H=>by
  simp only[dk];have y:D' 0=D 0:=by rw[r 0];simp[BZ]
  rw[y];exact oP (i:=i) (by simpa using h) I (λj=>by rw[r (j+1)];simp[BZ]) (λj u z J M=>H (j+1) u (by simpa using z) (by omega) M)
theorem q9:∀ {r:List Oper} {us:List Upd} {u:List cP} {s z:St},Run Γ T all s r us u z->∀ (i:Nat) (o:Oper),r[i]?=some o ->
  ∃ U t,us[i]?=some U/\u[i]?=some t/\jI Γ T all o (dk (λj=>decide (j<i)) us s) U t
 |[],_,_,_,_,_,i,o,h=>by simp at h
 |H::r,[],_,_,_,h,_,_,_=>h.elim
 |H::r,_::_,[],_,_,h,_,_,_=>h.elim
 |H::r,U::us,t::u,s,z,h,0,o,y=>by
  simp at y;subst y;exact⟨U,t,rfl,rfl,by rw[nI (λj=>by simp)];exact h.1⟩
 |H::r,U::us,t::u,s,z,h,i+1,o,y=>by
  obtain⟨J,X,I,M,O⟩:=q9 h.2 i o (by simpa using y);refine⟨J,X,by simpa using I,by simpa using M,?_⟩;simp only[dk];have e:(λj=>decide (j+1<i+1))=λj=>decide (j<i):=by funext j;simp
  rw[e];simpa using O
theorem vE:∀ {r:List Oper} {us:List Upd} {u:List cP} {s y:St},Run Γ T all s r us u y->us.length=r.length/\u.length=r.length/\y=dk (λ_=>true) us s
 |[],[],[],_,_,h=>⟨rfl,rfl,h⟩
 |[],_::_,_,_,_,h=>h.elim
 |[],[],_::_,_,_,h=>h.elim
 |_::_,[],_,_,_,h=>h.elim
 |_::_,_::_,[],_,_,h=>h.elim
 |o::r,U::us,t::u,s,y,h=>by
  obtain⟨z,H,I⟩:=vE h.2;exact⟨by simp[z],by simp[H],by simpa[dk]using I⟩
theorem ra {q:Nat}:∀ {os:List Oper} {us:List Upd} {O:List cP} {J s':St} {D:Nat->Bool} {F:Nat->Bool} {s sF:St} {B:Prop},Run Γ T all J os us O s'->(∀ (j:Nat) (t:cP),O[j]?=some t->F j=decide (q∈t.wr)) ->
  bK (s q)=bK (sF q)->(B->bK (sF q)=bK (J q)) ->
  (∀ (j:Nat) (t:cP) (U:Upd),O[j]?=some t->us[j]?=some U->D j=true->q∉t.wr->q∈U.map (·.1)->B/\∀ (k:Nat) (t':cP),k<j->O[k]?=some t'->q∈t'.wr->D k=true) ->
  bK (dk D us s q)=bK (dk (λj=>D j&&F j) us sF q)
 |[],[],[],_,_,_,_,_,_,_,_,_,H,_,_=>H
 |[],_::_,_,_,_,_,_,_,_,_,h,_,_,_,_=>h.elim
 |[],[],_::_,_,_,_,_,_,_,_,h,_,_,_,_=>h.elim
 |_::_,[],_,_,_,_,_,_,_,_,h,_,_,_,_=>h.elim
 |_::_,_::_,[],_,_,_,_,_,_,_,h,_,_,_,_=>h.elim
 |o::os,U::us,t::O,J,s',D,F,s,sF,B,h,hF,H,h2,z=>by
  obtain⟨⟨⟨k1,k2,k3⟩,_⟩,I⟩:=h;have y:=hF 0 t rfl;simp only[dk];refine ra (F:=λj=>F (j+1)) (B:=B/\(q∈t.wr->D 0=true)) I (λj t' Y=>hF (j+1) t' (by simpa using Y)) ?_ ?_ ?_
  ·by_cases r:q∈U.map (·.1)
   ·by_cases u:q∈t.wr
    ·rw[y,decide_eq_true u,Cs];cases D 0 with
     |true=>simp only[cond_true];rw[jn s sF r]
     |false=>exact H
    ·rw[y,decide_eq_false u,Cl];simp only[cond_false];cases M:D 0 with
     |true =>
      simp only[cond_true];rw[jn s J r,k3 q r u];exact (h2 (z 0 t U rfl rfl M u r).1).symm
     |false=>exact H
   ·have e:∀ (b:Bool) (x:St),(bif b then ac U x else x) q=x q:=by intro b x;cases b <;> simp[eK _ r]
    rw[e,e];exact H
  ·rintro⟨hB,M⟩;by_cases r:q∈U.map (·.1)
   ·by_cases u:q∈t.wr
    ·rw[y,decide_eq_true u,Cs,M u];simp only[cond_true];rw[jn sF J r]
    ·rw[y,decide_eq_false u,Cl];simp only[cond_false];rw[k3 q r u];exact h2 hB
   ·have e:∀ (b:Bool) (x:St),(bif b then ac U x else x) q=x q:=by intro b x;cases b <;> simp[eK _ r]
    rw[e,eK _ r];exact h2 hB
  ·intro j t' U' Y hU M u r;obtain⟨g1,g2⟩:=z (j+1) t' U' (by simpa using Y) (by simpa using hU) M u r;exact⟨⟨g1,λa0=>g2 0 t (by omega) rfl a0⟩,λk t2 hk X Z=>g2 (k+1) t2 (by omega) (by simpa using X) Z⟩
theorem rY {f:Nat->Nat}{i:Nat}:∀ (l:List Edge) (s:Nat),(l.foldl (λs e=>bif Region.binds .any e then s ||| 2 ^ e.on ||| f e.on else s) s).testBit i=true ->
  s.testBit i=true\/∃ e∈l,Region.binds .any e=true/\(i=e.on\/(f e.on).testBit i=true)
 |[],s,h=>.inl h
 |e::l,s,h=>by
  simp only[DN]at h;rcases rY l _ h with h|⟨z,u,y⟩
  ·cases r:Region.binds .any e with
   |false=>rw[r]at h;exact .inl h
   |true =>
    rw[r]at h;simp only[cond_true,Nat.testBit_or,Ch]at h;rcases h with (h|h)|h
    ·exact .inl h
    ·refine .inr ⟨e,BW ..,r,.inl ?_⟩;rw[Nat.testBit_two_pow]at h;exact (of_decide_eq_true h).symm
    ·exact .inr ⟨e,BW ..,r,.inr h⟩
  ·exact .inr ⟨z,BV _ u,y⟩
theorem uf:∀ (z:List Oper) (r:List Nat),(∀ j,j<r.length->(jJ z r).getD j 0=r.getD j 0) /\
  ∀ (k:Nat) (o:Oper),z[k]?=some o->∃ u:List Nat,u.length=r.length+k/\(∀ j,j<u.length->u.getD j 0=(jJ z r).getD j 0) /\
   (jJ z r).getD (r.length+k) 0=o.after.toList.foldl (λs e=>bif Region.binds .any e then s ||| 2 ^ e.on ||| u.getD e.on 0 else s) 0
 |[],r=>⟨λ_ _=>rfl,λk o h=>by simp at h⟩
 |o::z,r=>by
  obtain⟨I,O⟩:=uf z (r++[o.after.toList.foldl (λs e=>bif Region.binds .any e then s ||| 2 ^ e.on ||| r.getD e.on 0 else s) 0]);have y:∀ j,j<r.length->(jJ (o::z) r).getD j 0=r.getD j 0:=by
   intro j H;simp only[jJ];rw[I j (by simp;omega)];simp[B8,CK H]
  refine⟨y,λk J h=>?_⟩;cases k with
  |zero =>
   simp at h;subst h;refine⟨r,rfl,λj H=>(y j H).symm,?_⟩;simp only[jJ];rw[Nat.add_zero,I r.length (by simp)];simp[B8]
  |succ k =>
   obtain⟨u,X,Y,M⟩:=O k J (by simpa using h);refine⟨u,by simp at X;omega,λj H=>Y j H,?_⟩;simp only[jJ];have e:r.length+(k+1)=(r++[o.after.toList.foldl (λs e=>bif Region.binds .any e then s ||| 2 ^ e.on ||| r.getD e.on 0 else s) 0]).length+k:=by simp;omega
   rw[e];exact M
theorem jx {ops:Array Oper}{D:Nat->Prop}(z:∀ (j:Nat) (o:Oper),ops[j]?=some o->D j->∀ e∈o.after.toList,Region.binds .any e=true->D e.on) :
  ∀ (n j:Nat),j<n->∀ (o:Oper),ops[j]?=some o->(∀ e∈o.after.toList,Region.binds .any e=true->D e.on)->∀ i,((jJ ops.toList []).getD j 0).testBit i=true->D i
 |0,_,h,_,_,_,_,_=>by omega
 |n+1,j,hj,o,M,I,i,Y=>by
  obtain⟨r,Z,h2,X⟩:=(uf ops.toList []).2 j o (by simpa using M);simp only[List.length_nil,Ca]at Z X;rw[X]at Y;rcases rY (f:=λk=>r.getD k 0) _ _ Y with h|⟨e,J,O,y⟩
  ·simp at h
  ·rcases y with rfl|y
   ·exact I e J O
   ·have H:e.on<r.length:=by
     apply CL;intro hn;have:r.getD e.on 0=0:=by
      rw[B8,Cx (by omega)];rfl
     rw[this]at y;simp at y
    rw[h2 _ H]at y;have hD:=I e J O;have u:e.on<ops.size:=by
     have:=(Cm.1 M).1;omega
    exact jx z n e.on (by omega) ops[e.on] (B5 u) (z e.on _ (B5 u) hD) i y
theorem fZ {a b:List Nat}(h:lU a b=false){q:Nat}(u:q∈a):q∉b:=by
 intro r;unfold lU at h;rw[Cq]at h;have:=h q u;simp only[Cg,not_exists,not_and]at this;exact this q r (by simp)
theorem ln {r:List Nat}{z:List cP}(h:pJ r z=true){i j:Nat}(u:i<j){x y:cP}(O:z[i]?=some x)(H:z[j]?=some y):(r.getD j 0).testBit i=true\/x.apart y=true:=by
 unfold pJ at h;rw[CG]at h;have M:=(B3.1 H).1;have I:=h j (by simpa using M);rw[CG]at I;have J:=I i (by simpa using u);simp only[O,H,Ch]at J;exact J
theorem qv {p p':Nat->Bool}{i:Nat}(I:p i=true)(r:p' i=false)(h:∀ j,j≠i->p' j=p j):∀ (l:List Nat),l.Nodup->i∈l->l.countP p'+1=l.countP p
 |[],_,H=>by simp at H
 |x::l,z,H=>by
  rw[CR]at z;by_cases u:x=i
  ·subst u;have e:l.countP p'=l.countP p:=by
    apply List.countP_congr;intro y J;rw[h y (λe=>z.1 (e ▸ J))]
   simp[I,r,e]
  ·have M:=qv I r h l z.2 ((B7.1 H).resolve_left (λe=>u e.symm));simp only[DJ,h x u];omega
theorem BG (hV:ay V)(hT:TOk P T)(hΓ:∀ c∈Γ,bP P c){ops:Array Oper}(e3:∀ (i:Nat) (o:Oper),ops[i]?=some o->bN V o)
  (ba:∀ (i:Nat) (o:Oper),ops[i]?=some o->∀ j d2,o.guard=some (j,d2)->∀ s,(ops[j]?).bind (·.dst)=some s->s<V.nt) {Q:Exit->Act->World->Prop}
  {us:List Upd} {ts:List cP} {s0 s1:St} (a1:Run Γ T ops s0 ops.toList us ts s1) (a4:nP ops=true) (c1:pJ (jJ ops.toList []) ts=true) (hQ:∀ a w,Rel P V s1 a w->Q .normal a w) :
  ∀ (a2:Nat) (r:Array Bool) (a:Act) (w:World),r.size=ops.size->(DP ops.size).countP (λi=>!r.getD i true)=a2 ->
   (∀ (j:Nat) (o:Oper),ops[j]?=some o->r.getD j false=true->∀ e∈o.after.toList,Region.binds .any e=true->r.getD e.on false=true) ->
   Rel P V (dk (λj=>r.getD j false) us s0) a w->wpAny P .any ops Q a2 r a w:=by
 obtain⟨ec,eb,cb⟩:=vE a1;have ef:ops.toList.length=ops.size:=C6;have b6:∀ (r:Array Bool),r.size=ops.size->Region.ready .any ops r=[]->∀ i,i<ops.size->r.getD i false=true:=by
  intro r a0 hr i;induction i using DO with
  |ind i ih =>
   intro hi;cases hl:r.getD i false with
   |true=>rfl
   |false =>
    exfalso;have e7:r.getD i true=false:=by
     rw[B6,B5 (by omega)]at hl ⊢;exact hl
    have ho:ops[i]?=some ops[i]:=B5 hi;have bl:i∈Region.ready .any ops r:=by
     unfold Region.ready;rw[Cb];refine⟨by simpa using hi,?_⟩;rw[e7,ho];simp only[DQ,DA,CJ,DK];rw[Cd];intro e he;cases e4:Region.binds .any e with
     |false=>rfl
     |true =>
      simp only[Bool.not_true,Bool.false_or];have bb:e.on<i:=by
       unfold nP at a4;rw[CG]at a4;have:=a4 i (by simpa using hi);simp only[ho]at this;rw[CG]at this;have:=this e (by simpa using he);simpa[e4]using this
      exact ih e.on bb (by omega)
    rw[hr]at bl;simp at bl
 have bn:∀ (r:Array Bool) (a:Act) (w:World),r.size=ops.size->Rel P V (dk (λj=>r.getD j false) us s0) a w->Region.ready .any ops r=[]->Q .normal a w:=by
  intro r a w a0 hr b9;refine hQ a w ?_;rw[cb];have:dk (λ_=>true) us s0=dk (λj=>r.getD j false) us s0:=mD (λj J=>(b6 r a0 b9 j (by omega)).symm);rw[this];exact hr
 intro a2;induction a2 with
 |zero =>
  intro r a w a0 X b5 hr;have b9:Region.ready .any ops r=[]:=by
   unfold Region.ready;rw[List.filter_eq_nil_iff];intro i hi hc;rw[C7]at X;have:=X i hi;simp only[BS]at hc;exact this hc.1
  exact⟨b9,bn r a w a0 hr b9⟩
 |succ a2 ih =>
  intro r a w a0 X b5 hr;refine⟨bn r a w a0 hr,λi hi=>?_⟩;unfold Region.ready at hi;rw[Cb]at hi;obtain⟨b1,c3⟩:=hi;have b1:i<ops.size:=by simpa using b1
  have ho:ops[i]?=some ops[i]:=B5 b1;rw[ho]at c3;simp only[BS,CU,CJ,DK]at c3;obtain⟨b0,a6⟩:=c3;rw[Cd]at a6;have Y:r.getD i false=false:=by
   rw[B6,B5 (by omega)]at b0 ⊢;exact b0
  have cp:∀ e∈(ops[i]).after.toList,Region.binds .any e=true->r.getD e.on false=true:=by
   intro e he hb;have:=a6 e (by simpa using he);simpa[hb]using this
  obtain⟨U,t,hU,ht,b4⟩:=q9 a1 i ops[i] (by simp);have ad:∀ (j:Nat) (o:Oper),ops[j]?=some o->(λk=>r.getD k false=true) j->∀ e∈o.after.toList,Region.binds .any e=true->(λk=>r.getD k false=true) e.on:=b5;obtain⟨e5,_,_⟩:=b4.1;have O:∀ (j:Nat) (M:Upd),us[j]?=some M->∃ H,ts[j]?=some H/\(∀ q∈M.map (·.1),q∈H.wr\/q∈H.cw)/\∀ q∈H.wr,q∈M.map (·.1):=by
   intro j M J;have a5:j<ops.size:=by
    have:=(B3.1 J).1;omega
   obtain⟨U2,t2,h1,Z,h3⟩:=q9 a1 j ops[j] (by simp[a5]);rw[J]at h1;cases h1;exact⟨t2,Z,h3.1.1,h3.1.2.1⟩
  have c6:∀ (j:Nat) (M:Upd),us[j]?=some M->j≠i->r.getD j false≠decide (j<i)->∃ H,ts[j]?=some H/\(∀ q∈M.map (·.1),q∈H.wr\/q∈H.cw)/\(H.apart t=true\/t.apart H=true):=by
   intro j M J b2 u;obtain⟨H,h1,Z,_⟩:=O j M J;refine⟨H,h1,Z,?_⟩;rcases Nat.lt_or_gt_of_ne b2 with bb|e0
   ·have hl:r.getD j false=false:=by
     cases hl:r.getD j false with
     |false=>rfl
     |true=>rw[hl]at u;simp[bb]at u
    rcases ln c1 bb h1 ht with h3|h3
    ·have:=jx ad (i+1) i (CZ _) ops[i] ho cp j h3;rw[hl]at this;cases this
    ·exact .inl h3
   ·have hl:r.getD j false=true:=by
     cases hl:r.getD j false with
     |true=>rfl
     |false=>rw[hl]at u;simp at u;omega
    have a5:j<ops.size:=by
     have:=(B3.1 J).1;omega
    have b3:ops[j]?=some ops[j]:=B5 a5;rcases ln c1 e0 ht h1 with h3|h3
    ·have:=jx ad (j+1) j (CZ _) ops[j] b3 (b5 j _ b3 hl) i h3;rw[Y]at this;cases this
    ·exact .inr h3
  have a3:∀ (x y:cP),x.apart y=true->(∀ q,q∈x.wr\/q∈x.cw->(q∉y.wr/\q∉y.cw)/\q∉y.rd)/\(∀ q,q∈y.wr\/q∈y.cw->(q∉x.wr/\q∉x.cw)/\q∉x.rd)/\(∀ q∈x.wr,q∉y.hd)/\∀ q∈y.wr,q∉x.hd:=by
   intro x y h;unfold cP.apart at h;simp only[BS,CU]at h;obtain⟨⟨⟨⟨h1,Z⟩,h3⟩,h4⟩,h5⟩:=h;refine⟨λq I=>?_,λq I=>?_,λq I=>fZ h4 I,λq I hx=>fZ h5 hx I⟩
   ·have I:=BR.2 I;have:=fZ h1 I;simp only[BR,not_or]at this;exact⟨this,fZ Z I⟩
   ·have I:=BR.2 I;have:q∉x.wr++x.cw:=λhx=>fZ h1 hx I
    simp only[BR,not_or]at this;exact⟨this,λhx=>fZ h3 hx I⟩
  have bx:∀ (j:Nat) (M:Upd),us[j]?=some M->j≠i->r.getD j false≠decide (j<i)->∀ q∈M.map (·.1),(q∉t.wr/\q∉t.cw)/\q∉t.rd:=by
   intro j M J b2 u q I;obtain⟨H,_,h1,Z⟩:=c6 j M J b2 u;rcases Z with Z|Z
   ·exact (a3 _ _ Z).1 q (h1 q I)
   ·exact (a3 _ _ Z).2.1 q (h1 q I)
  have c2:∀ (j:Nat) (H:cP),ts[j]?=some H->j≠i->r.getD j false≠decide (j<i)->∀ q∈H.wr,q∉t.hd:=by
   intro j H J b2 u q I;have a5:j<us.length:=by
    have:=(B3.1 J).1;omega
   obtain⟨t2,h0,_,Z⟩:=c6 j us[j] (CA a5) b2 u;rw[J]at h0;cases h0;rcases Z with Z|Z
   ·exact (a3 _ _ Z).2.2.1 q I
   ·exact (a3 _ _ Z).2.2.2 q I
  have cc:mC Γ T ops ops[i] (dk (λj=>r.getD j false) us s0) U:=by
   refine b4.frame (λq I=>?_) (λq I=>?_)
   ·refine mE rfl λj M J cy=>?_
    by_cases z:j=i
    ·subst z;rw[Y];simp
    ·apply CL;intro u;have:=bx j M J z u q cy;rcases I with I|I
     ·exact this.2 I
     ·exact this.1.1 I
   ·have c5:∀ (j:Nat) (H:cP),ts[j]?=some H->(λj=>match ts[j]? with|some H=>decide (q∈H.wr)|none=>false) j=decide (q∈H.wr):=λj H h=>by simp only[h]
    have e1:=ra (q:=q) (D:=λj=>r.getD j false) (F:=λj=>match ts[j]? with|some H=>decide (q∈H.wr)|none=>false) (s:=s0) (sF:=s0) (B:=True) a1 c5 rfl (λ_=>rfl) (λj H M J hU hD hw d1=>by
     refine⟨trivial,λk t2 hk c4 cu=>?_⟩;obtain⟨t3,h3,h4,_⟩:=O j M hU;rw[J]at h3;cases h3;have dd:=(h4 q d1).resolve_left hw;have a5:j<ops.size:=by
      have:=(B3.1 hU).1;omega
     have b3:ops[j]?=some ops[j]:=B5 a5;rcases ln c1 hk c4 J with h5|h5
     ·exact jx ad (j+1) j (CZ _) ops[j] b3 (b5 j _ b3 hD) k h5
     ·exact absurd dd ((a3 _ _ h5).1 q (.inl cu)).1.2)
    have e2:=ra (q:=q) (D:=λj=>decide (j<i)) (F:=λj=>match ts[j]? with|some H=>decide (q∈H.wr)|none=>false) (s:=s0) (sF:=s0) (B:=True) a1 c5 rfl (λ_=>rfl) (λj H M J hU hD hw d1=>by
     refine⟨trivial,λk t2 hk c4 cu=>?_⟩;have:=of_decide_eq_true hD;exact decide_eq_true (by omega))
    rw[e1,e2];congr 1;refine mE rfl λj M J cy=>?_
    obtain⟨H,h1,Z,_⟩:=O j M J;simp only[h1];by_cases hw:q∈H.wr
    ·rw[decide_eq_true hw,Cs,Cs];by_cases z:j=i
     ·subst z;rw[Y];simp
     ·apply CL;intro u;exact c2 j H h1 z u q hw I
    ·rw[decide_eq_false hw,Cl,Cl]
  refine wT hV hT hΓ ho (e3 i _ ho) (ba i _ ho) cc hr λa' w' e6=>?_
  have a9:∀ (b:Bool) (j:Nat),(r.setIfInBounds i true).getD j b=if j=i then true else r.getD j b:=by
   intro b j;simp only[B6,Array.getElem?_setIfInBounds];by_cases z:j=i
   ·subst z;simp[a0,b1]
   ·rw[if_neg (λe=>z e.symm),if_neg z]
  refine ih _ a' w' (by simpa using a0) ?_ ?_ ?_
  ·have:=qv (p:=λj=>!r.getD j true) (p':=λj=>!(r.setIfInBounds i true).getD j true) (i:=i) (by simp[b0]) (by simp[a9]) (λj J=>by simp[a9,J]) (DP ops.size) List.nodup_range (by simpa using b1);omega
  ·intro j o' J c0 e he hb;rw[a9]at c0 ⊢;by_cases d3:e.on=i
   ·rw[if_pos d3]
   ·rw[if_neg d3];by_cases z:j=i
    ·subst z;rw[ho]at J;cases J;exact cp e he hb
    ·rw[if_neg z]at c0;exact b5 j o' J c0 e he hb
  ·have cx:=oP (U:=U) (us:=us) (i:=i) (D:=λj=>r.getD j false) (D':=λj=>(r.setIfInBounds i true).getD j false) (s:=s0) hU Y (λj=>by
     simp only[a9];by_cases z:j=i
     ·subst z;simp
     ·have:BZ j i=false:=by
       cases hb:BZ j i with
       |false=>rfl
       |true=>exact absurd (BX hb) z
      simp[z,this])
    (λj M J ed hD q I dc=>by
     have:=bx j M J (by omega) (by rw[hD];simp;omega) q dc;exact (e5 q I).elim this.1.1 this.1.2)
   rw[cx];exact e6
theorem BH (Z:ay V)(hT:TOk P T)(hΓ:∀ c∈Γ,bP P c)(X:P.follows .mixedOrders=true){id:Nat}{ops:Array Oper}{z:Bool}(M:∀ (i:Nat) (o:Oper),ops[i]?=some o->bN V o)
  (u:∀ (i:Nat) (o:Oper),ops[i]?=some o->∀ j O,o.guard=some (j,O)->∀ s,(ops[j]?).bind (·.dst)=some s->s<V.nt) {Q:Exit->Act->World->Prop} {κ:St->Option R} {r:R}
  (h:regK Γ T ops z st κ=some r) (hκ:∀ H,κ H=some r->∀ a w,Rel P V H a w->Q .normal a w) {a:Act} {w:World} (Y:Rel P V st a w):(Code.region id ops z).wp P Q a w:=by
 unfold regK at h;cases z with
 |true =>
  simp only[cond_true]at h;obtain⟨us,ts,H,y,I⟩:=pB _ _ _ _ _ h;simp only[CP]at I;cases J:nP ops&&pJ (jJ ops.toList []) ts with
  |false=>simp[J]at I
  |true =>
   simp only[J,cond_true]at I;simp only[BS]at J;refine wp_region_any X ?_;have hD:∀ j,(CS ops.size false).getD j false=false:=by
    intro j;simp only[B6,Ct];split <;> rfl
   refine BG Z hT hΓ M u y J.1 J.2 (hκ H I) ops.size (CS ops.size false) a _ (by simp) ?_ ?_ ?_
   ·rw[List.countP_eq_length.2]
    ·simp
    ·intro i hi;have hi:i<ops.size:=by simpa using hi
     simp[B6,Ct,hi]
   ·intro j o' _ hl;rw[hD]at hl;cases hl
   ·rw[nI (λj=>hD j)];obtain⟨W,Y⟩:=Y;exact⟨W,Y.world Z (w':={ w with drawn:=w.drawn+1 }) (C0 _) rfl rfl rfl (λ_ _=>rfl)⟩
 |false =>
  simp only[cond_false]at h;obtain⟨us,ts,H,y,I⟩:=pB _ _ _ _ _ h;refine wp_region ?_;have:=vD Z hT hΓ M u ops.toList 0 st us ts H (by simp) y (hκ H I) a w Y;rw[C6,<- List.range_eq_range']at this;exact this
end
section
variable {P:Program} {V:Env} {Γ:List Ctr} {T:TypeId->TI} {st st':St} {o:Oper} {R:Type} {all:Array Oper}
theorem kR (live:List Nat):∀ (cs:List Coe) (ls:List Leaf),(da st live cs ls).length=ls.length
 |[],[]=>rfl
 |_::_,[]=>rfl
 |[],_::ls=>by simp[da,kR live [] ls]
 |_::cs,_::ls=>by simp[da,kR live cs ls]
theorem pC (live:List Nat):∀ (cs:List Coe) (ls:List Leaf) (j:Nat) (l:Leaf),(da st live cs ls)[j]?=some l->∃ r,ls[j]?=some r/\(l=.dead\/∃ c,l=bu st live c r)
 |[],[],j,l,h=>by simp[da]at h
 |_::_,[],j,l,h=>by simp[da]at h
 |[],r::ls,0,l,h=>by simp[da]at h;exact⟨r,rfl,.inl h.symm⟩
 |c::cs,r::ls,0,l,h=>by simp[da]at h;exact⟨r,rfl,.inr ⟨c,h.symm⟩⟩
 |[],r::ls,j+1,l,h=>by
  simp only[da,Cu]at h;obtain⟨u,y,z⟩:=pC live [] ls j l h;exact⟨u,by simpa using y,z⟩
 |c::cs,r::ls,j+1,l,h=>by
  simp only[da,Cu]at h;obtain⟨u,y,z⟩:=pC live cs ls j l h;exact⟨u,by simpa using y,z⟩
theorem AP (live:List (Nat×List Coe))(q:Nat):lV live st q=bT.none/\q∉live.map (·.1)\/∃ y,lV live st q=⟨0,(st q).sh,da st (live.map (·.1)) y (st q).ls⟩/\q∈live.map (·.1):=by
 have I:∀ (u:List Nat) (l:List (Nat×List Coe)),(av (l.map λr=>(r.1,⟨0,(st r.1).sh,da st u r.2 (st r.1).ls⟩)) q=bT.none/\q∉l.map (·.1)) \/
   ∃ y,av (l.map λr=>(r.1,⟨0,(st r.1).sh,da st u r.2 (st r.1).ls⟩)) q=⟨0,(st q).sh,da st u y (st q).ls⟩/\q∈l.map (·.1):=by
  intro u l;induction l with
  |nil=>exact .inl ⟨rfl,by simp⟩
  |cons x l O =>
   obtain⟨r,y⟩:=x;by_cases h:q=r
   ·subst h;exact .inr ⟨y,by simp[av,ac],by simp⟩
   ·have z:BZ q r=false:=by
     cases z:BZ q r with
     |false=>rfl
     |true=>exact absurd (BX z) h
    rcases O with ⟨J,M⟩|⟨H,J,M⟩
    ·refine .inl ⟨?_,by simpa[h]using M⟩;rw[<- J];simp[av,ac,z]
    ·refine .inr ⟨H,?_,by simp only[CH,B7];exact .inr M⟩;rw[<- J];simp[av,ac,z]
 exact I (live.map (·.1)) live
theorem yh {keys:List Nat}{c:Coe}{r:Leaf}(h:ao (bu st keys c r)):ao r\/r=.nil:=by
 cases r with
 |own p y E e u=>exact .inl trivial
 |nil=>exact .inr rfl
 |_ =>
  exfalso;revert h;cases c <;> simp only[bu] <;> first
   |exact id
   |(cases (!_||_:Bool) <;> first | exact id | (split <;> exact id))
   |(cases (_&&_:Bool) <;> exact id)
   |(cases (List.any _ _:Bool) <;> exact id)
   |(cases (List.all _ _:Bool) <;> exact id)
theorem iP.nw {W W':Wit}{w:World}{c:Bool×Bool×(a:Ty)×a.den}{u:Value}(r:∀ k,W.nw k->W'.nw k)(h:iP V W w c u):iP V W' w c u:=by
 have z:∀ (p:Bool) k,gd V W p k->gd V W' p k:=λp k hk=>hk.imp (r k) id
 unfold iP at h ⊢;split at h
 ·rename_i H;rw[if_pos H];obtain⟨b,ob,g,Y,I,Z,M,y,O,X,J⟩:=h;exact⟨b,ob,g,Y,I,Z,M.imp (r b) id,y,O.imp (r g) id,Rd.mono (z _) X,J⟩
 ·rename_i H;rw[if_neg H];obtain⟨g,Y,I,Z,O,X,J⟩:=h;exact⟨g,Y,I,Z,O.imp (r g) id,Rd.mono (z _) X,J⟩
theorem wU {W W':Wit}{w:World}{keys:List Nat}{bs bs':List Nat}{c:Coe}{M:Leaf}{v:Value}(h:aI P V W st w bs M v)
  (J:∀ k,W.nw k->W'.nw k) (hβ:W'.β=W.β) (a4:∀ q,keys.any (BZ q)=true->W'.cs q=W.cs q) (z:∀ b,keys.any (BZ b)=true->(st b).sh=.agg->(st' b).sh=.agg)
  (a1:ao M->bs'=bs) (a3:M=.nil->bs'=[]) (a2:ao M->¬ ao (bu st keys c M)->(∃ p E e,c=.ro p E e)->∀ k∈bs,W'.nw k) :
  aI P V W' st' w bs' (bu st keys c M) v:=by
 have I:∀ (p q:Bool),(!q||p)=true->∀ k,gd V W q k->gd V W' p k:=by
  intro p q a5 k H;rcases H with H|⟨X,H⟩
  ·exact .inl (J k H)
  ·refine .inr ⟨?_,H⟩;subst X;simpa using a5
 cases c with
 |kill=>simp only[bu];trivial
 |keep =>
  cases M with
  |int k n=>exact h
  |bool b=>exact h
  |str s=>exact h
  |nil=>exact h
  |hdr n=>exact h
  |fn As B φ=>exact h
  |clr f O =>
   obtain⟨us,X,h2,h3⟩:=h;exact⟨us,X,h2,λi c u g1 g2=>(h3 i c u g1 g2).nw J⟩
  |al r j n =>
   simp only[bu];cases y:keys.any (BZ r)&&BZ (st r).ver n with
   |false=>trivial
   |true =>
    simp only[BS]at y;exact⟨DL _,λ_=>by rw[a4 r y.1];exact h.2 (BX y.2)⟩
  |bp b off =>
   simp only[bu];cases y:keys.any (BZ b) with
   |false=>trivial
   |true =>
    obtain⟨X,h2,h3⟩:=h;exact⟨X,z b y h2,by rw[hβ];exact h3⟩
  |clo f O =>
   simp only[bu];cases y:O.all (λb=>keys.any (BZ b)) with
   |false=>trivial
   |true =>
    obtain⟨X,h2⟩:=h;rw[CG]at y;exact⟨by rw[hβ];exact X,λb Y=>⟨(h2 b Y).1,z b (y b Y) (h2 b Y).2⟩⟩
  |_=>simp only[bu];trivial
 |own p E e =>
  cases M with
  |nil =>
   have hv:v=.slice none 0 0:=h;subst hv;rw[a3 rfl];exact OwH.nil w _ E e
  |own q hh E' e' xs =>
   cases hh with
   |some x=>simp only[bu];trivial
   |none =>
    simp only[bu];cases y:(!q||p) with
    |false=>trivial
    |true =>
     rw[a1 trivial];exact OwH.carry h (I p q y) (λ_ _=>rfl) (λ_ _=>rfl)
  |_=>simp only[bu];trivial
 |ro p E e =>
  cases M with
  |nil =>
   have hv:v=.slice none 0 0:=h;subst hv;exact Rd.nil w _ false E e
  |ro q E' e' xs =>
   simp only[bu];cases y:(!q||p) with
   |false=>trivial
   |true =>
    simp only[cond_true];split
    ·rename_i ys Z;exact Rd.castSh (m:=false) (m':=false) (E:=E) Z (Rd.mono (I p q y) h)
    ·trivial
  |own q hh E' e' xs =>
   cases hh with
   |some x=>simp only[bu];trivial
   |none =>
    have a9:=a2 trivial (by
     simp only[bu];cases (!q||p) with
     |false=>exact id
     |true=>simp only[cond_true];split <;> exact id) ⟨p,E,e,rfl⟩
    simp only[bu];cases y:(!q||p) with
    |false=>trivial
    |true =>
     simp only[cond_true];split
     ·rename_i ys Z;refine Rd.castSh (m:=false) (m':=false) (E:=E) (E':=E') Z (Rd.mono (λk H=>?_) (OwH.rd (m:=false) (E':=E') h));rcases H with H|H
      ·exact I p q y k H
      ·exact .inl (a9 k H)
     ·trivial
  |_=>simp only[bu];trivial
 |rp p =>
  cases M with
  |rpp q a x =>
   simp only[bu];cases y:(!q||p) with
   |false=>trivial
   |true =>
    obtain⟨b,ob,g,o',c,hv,a6,a0,hg,hr,Z⟩:=h;exact⟨b,ob,g,o',c,hv,a6.imp (J b) id,a0,hg.imp (J g) id,Rd.mono (I p q y) hr,Z⟩
  |rp q a x off =>
   simp only[bu];cases y:(!q||p) with
   |false=>trivial
   |true =>
    obtain⟨g,o',c,hv,hg,hr,Z⟩:=h;exact⟨g,o',c,hv,hg.imp (J g) id,Rd.mono (I p q y) hr,Z⟩
  |_=>simp only[bu];trivial
open Classical in
theorem vF (_hV:ay V){a:Act}{w:World}(h:Rel P V st a w)(live:List (Nat×List Coe))(a9:∀ x∈V.fixb,x.1∈live.map (·.1)):Rel P V (lV live st) a w:=by
 obtain⟨W,h⟩:=h;have J:=AP (st:=st) live;have Y:∀ b,Go.Proofs.YtadlacffdemoiaaGreatEv.live (lV live st) b->Go.Proofs.YtadlacffdemoiaaGreatEv.live st b:=by
  rintro b ⟨y,H⟩;rcases J b with ⟨e,_⟩|⟨cs,e,_⟩
  ·rw[e]at H;cases H
  ·rw[e]at H;exact⟨y,H⟩
 have a1:∀ (q j:Nat) (l:Leaf),(lV live st q).ls[j]?=some l->q∈live.map (·.1)/\∃ r,(st q).ls[j]?=some r/\(l=.dead\/∃ c,l=bu st (live.map (·.1)) c r):=by
  intro q j l X;rcases J q with ⟨e,_⟩|⟨cs,e,I⟩
  ·rw[e]at X;simp[bT.none]at X
  ·rw[e]at X;exact⟨I,pC _ _ _ _ _ X⟩
 have b5:∀ (q j:Nat) (l:Leaf),(lV live st q).ls[j]?=some l->ao l->∃ r,(st q).ls[j]?=some r/\(ao r\/r=.nil):=by
  intro q j l X ho;obtain⟨_,r,y,H⟩:=a1 q j l X;rcases H with rfl|⟨c,rfl⟩
  ·exact ho.elim
  ·exact⟨r,y,yh ho⟩
 have a0:∀ b,(live.map (·.1)).any (BZ b)=true->b∈live.map (·.1):=λb O=>by
  rw[Cg]at O;obtain⟨x,hx,he⟩:=O;rw[BX he];exact hx
 let z:Nat->Nat->List Nat:=λq j=>if (∃ r,(st q).ls[j]?=some r/\ao r) then W.bs q j else []
 let a2:Nat->Prop:=λk=>W.nw k\/∃ q j r l,(st q).ls[j]?=some r/\ao r/\(lV live st q).ls[j]?=some l/\¬ ao l/\k∈W.bs q j
 have Z:∀ (q j k:Nat),k∈z q j->(∃ r,(st q).ls[j]?=some r/\ao r)/\k∈W.bs q j:=by
  intro q j k M;by_cases hc:∃ r,(st q).ls[j]?=some r/\ao r
  ·simp only[z,if_pos hc]at M;exact⟨hc,M⟩
  ·simp only[z,if_neg hc]at M;simp at M
 refine⟨{ β:=W.β,cs:=λq=>if q∈live.map (·.1) then W.cs q else [],bs:=z,nw:=a2 },?_⟩
 exact {
  nt:=h.nt,df:=h.df
  slots:=λt ht=>by
   rcases J t with ⟨e,I⟩|⟨cs,e,I⟩
   ·rw[e];simp[I,bT.none,ei]
   ·rw[e];simp only[I,if_true];exact h.slots t ht
  boxes:=λb O=>by
   rcases J b with ⟨e,I⟩|⟨cs,e,I⟩
   ·rw[e];exact .inl ⟨rfl,rfl⟩
   ·rw[e];rcases h.boxes b O with ⟨y,H⟩|⟨y,E,H⟩
    ·exact .inl ⟨y,by rw[H];exact List.eq_nil_of_length_eq_zero (by rw[kR];rfl)⟩
    ·exact .inr ⟨y,E,by simp only[I,if_true];exact H⟩
  len:=λq=>by
   rcases J q with ⟨e,I⟩|⟨cs,e,I⟩
   ·rw[e];simp[I,bT.none]
   ·rw[e];simp only[I,if_true,kR];exact h.len q
  one:=λq u hu=>by
   by_cases I:q∈live.map (·.1)
   ·simp only[I,if_true]at hu;exact h.one q u hu
   ·simp only[I,if_false]at hu;simp at hu
  leaf:=λq j l v X hv=>by
   obtain⟨I,r,y,H⟩:=a1 q j l X;simp only[I,if_true]at hv;have b4:=h.leaf q j r v y hv;rcases H with rfl|⟨c,rfl⟩
   ·trivial
   ·refine wU (st:=st) (W:=W) (W':={ β:=W.β,cs:=λq=>if q∈live.map (·.1) then W.cs q else [],bs:=z,nw:=a2 }) (keys:=live.map (·.1)) b4 (λk M=>Or.inl M) rfl (λq hq=>if_pos (a0 q hq)) ?_ ?_ ?_ ?_
    ·intro b O a4;have b1:=a0 b O;rcases J b with ⟨_,b3⟩|⟨cs,e,_⟩
     ·exact absurd b1 b3
     ·rw[e];exact a4
    ·intro ho;show z q j=_;simp only[z,if_pos (⟨r,y,ho⟩:∃ r,(st q).ls[j]?=some r/\ao r)]
    ·intro e;show z q j=_;have hc:¬ ∃ r,(st q).ls[j]?=some r/\ao r:=by
      rintro⟨l1,h3,h4⟩;rw[y,e]at h3;cases h3;exact h4.elim
     simp only[z,if_neg hc]
    ·intro ho hn _ k M;exact .inr ⟨q,j,r,_,y,ho,X,hn,M⟩
  ownb:=λq j l X ho k M=>by
   obtain⟨⟨r,y,H⟩,h3⟩:=Z q j k M;obtain⟨q1,q2,q3⟩:=h.ownb q j r y H k h3;refine⟨?_,q2,λb O=>q3 b (Y b O)⟩;rintro (hn|⟨q',j',l1,l2,h4,h5,h6,h7,h8⟩)
   ·exact q1 hn
   ·obtain⟨rfl,rfl⟩:=h.sep q j r q' j' l1 y H h4 h5 k h3 h8;rw[X]at h6;cases h6;exact h7 ho
  sep:=λq j l q' j' l' _ _ _ _ k M b0=>by
   obtain⟨⟨r,y,H⟩,h3⟩:=Z q j k M;obtain⟨⟨a5,a3,a6⟩,ad⟩:=Z q' j' k b0;exact h.sep q j r q' j' a5 y H a3 a6 k h3 ad
  box:=λb O=>by
   obtain⟨q1,q2⟩:=h.box b (Y b O);refine⟨?_,q2⟩;rintro (hn|⟨q',j',l1,l2,h4,h5,h6,h7,h8⟩)
   ·exact q1 hn
   ·exact (h.ownb q' j' l1 h4 h5 _ h8).2.2 b (Y b O) rfl
  inj:=λb b' O b2=>h.inj b b' (Y b O) (Y b' b2)
  nwlt:=λk M=>by
   rcases M with hn|⟨q',j',l1,l2,h4,h5,h6,h7,h8⟩
   ·exact h.nwlt k hn
   ·exact⟨h.own_lt h4 h5 k h8,(h.ownb q' j' l1 h4 h5 k h8).2.1⟩
  os:=h.os,tape:=h.tape,output:=h.output,size:=h.size,keep:=h.keep
  fixb:=λx hx=>by
   obtain⟨⟨y,H⟩,h3⟩:=h.fixb x hx;refine⟨⟨y,?_⟩,h3⟩;rcases J x.1 with ⟨_,I⟩|⟨cs,e,_⟩
   ·exact absurd (a9 x hx) I
   ·rw[e];exact H
  fixt:=h.fixt }
def exOf:Ex->Exit
 |.normal=>.normal
 |.exit id=>.exit id
 |.ret=>.ret
theorem mF {nt:Nat}{fix:List Nat}(u:V.nt=nt)(r:∀ x∈V.fixt,x.1∈fix)(h:lw nt fix all o=true):bN V o:=by
 intro d I;simp only[lw,I,BS,CU,Cq]at h;obtain⟨⟨y,z⟩,_⟩:=h;refine⟨by rw[u];simpa[Cc]using y,λx H e=>?_⟩;exact z _ (r x H) (by simp[e])
end
section
variable {P:Program} {V:Env} {Γ:List Ctr} {T:TypeId->TI} {R:Type}
open Classical in
theorem ug {Q:Exit->Act->World->Prop}{a:Act}{w:World}{c:Code}(J:Nat->Act->World->Prop)(h0:∃ n,J n a w)(hz:∀ a w,¬ J 0 a w)
  (u:∀ n a w,J (n+1) a w->c.wp P (Exit.then (J n) Q) a w):(Code.loop c).wp P Q a w:=by
 have y:∀ (a:Act) (w:World) (n:Nat),J n a w->∃ m,J m a w/\m<=n/\∀ k,J k a w->m<=k:=by
  intro a w n;induction n using DO with
  |ind n ih =>
   intro z;by_cases h:∃ k,k<n/\J k a w
   ·obtain⟨k,I,hJ⟩:=h;obtain⟨m,r,M,O⟩:=ih k I hJ;exact⟨m,r,by omega,O⟩
   ·refine⟨n,z,C0 _,λk I=>?_⟩;apply CL;intro a0;exact h ⟨k,by omega,I⟩
 let H:Act->World->Nat:=λa w=>if h:∃ m,J m a w/\∀ k,J k a w->m<=k then h.choose else 0
 have hμ:∀ a w n,J n a w->J (H a w) a w/\H a w<=n:=by
  intro a w n z;obtain⟨m,r,_,O⟩:=y a w n z;have h:∃ m,J m a w/\∀ k,J k a w->m<=k:=⟨m,r,O⟩;have e:H a w=h.choose:=by simp only[H];rw[dif_pos h]
  rw[e];exact⟨h.choose_spec.1,h.choose_spec.2 n z⟩
 refine wp_loop (λa w=>∃ n,J n a w) H h0 λa w ⟨n,z⟩=>?_
 obtain⟨r,_⟩:=hμ a w n z;cases hm:H a w with
 |zero=>rw[hm]at r;exact absurd r (hz a w)
 |succ m =>
  rw[hm]at r;refine wp_mono (u m a w r) λe Z X Y=>?_
  cases e with
  |normal =>
   have M:J m Z X:=Y;exact⟨⟨m,M⟩,Nat.lt_succ_of_le (hμ Z X m M).2⟩
  |_=>exact Y
theorem zy {st:St}{a:Act}{w:World}(u:Rel P V st a w){t:Nat}(y:t<GH){b:Bool}(H:(st t).sh=.one)(I:(st t).ls=[.bool b]):a.eval (.tmp t)=.bool b:=by
 obtain⟨W,u⟩:=u;have r:=u.slots t y;rw[H]at r;have r:W.cs t=[a.tmps.getD t undef]:=r;have z:=u.leaf t 0 (.bool b) (a.tmps.getD t undef) (by rw[I];rfl) (by rw[r];rfl);exact z
theorem sD (hV:ay V)(hT:TOk P T)(hΓ:∀ c∈Γ,bP P c)(a4:P.follows .mixedOrders=true){fx:List Nat}(a5:∀ x∈V.fixb,x.1∈fx){nt:Nat}{fix:List Nat}(a1:V.nt=nt)(a2:∀ x∈V.fixt,x.1∈fix)
  {L:List (Nat×List (Nat×List Coe))} {X:Nat}:∀ (c:Code),dQ nt fix c=true->dt L fx c=true->∀ (st:St) (I:Ex->St->Option R) (r:R) (Q:Exit->Act->World->Prop),evK Γ T L X c st I=some r ->
   (∀ ex J,I ex J=some r->∀ a w,Rel P V J a w->Q (exOf ex) a w)->∀ a w,Rel P V st a w->c.wp P Q a w:=by
 intro c;induction c with
 |skip=>exact λ_ _ st I r Q h z a w u=>wp_skip (z .normal st h a w u)
 |region id a3 a6 =>
  intro hc hlp st I r Q h z a w u;simp only[dQ,CG]at hc;have a0:∀ (i:Nat) (o:Oper),a3[i]?=some o->lw nt fix a3 o=true:=λi o hi=>hc o (by simpa using Cy hi)
  refine BH hV hT hΓ a4 (λi o hi=>mF a1 a2 (a0 i o hi)) (λi o hi j a9 hg s hs=>?_) h (λJ H a w u=>z .normal J H a w u) u;have:=a0 i o hi;simp only[lw,hg,hs,BS]at this;rw[a1];simpa[Cc]using this.2
 |seq x y Y Z =>
  intro hc hlp st I r Q h z a w u;simp only[dQ,BS]at hc;simp only[dt,BS]at hlp;simp only[evK]at h;refine wp_seq (Y hc.1 hlp.1 st _ r _ h (λex J H a w u=>?_) a w u);cases ex with
  |normal=>exact Z hc.2 hlp.2 J I r Q H z a w u
  |exit id=>exact z (.exit id) J H a w u
  |ret=>exact z .ret J H a w u
 |cond t x y Y Z =>
  intro hc hlp st I r Q h z a w u;simp only[dQ,BS]at hc;simp only[dt,BS]at hlp;simp only[evK]at h;unfold zG at h;split at h
  ·rename_i t;split at h
   ·rename_i b H h2;have hv:=zy u (DC (by have:=hc.1.1;simp only[wZ,Cc]at this;rw[a1];exact this) hV.nt) H h2;cases b with
    |true =>
     simp only[cond_true]at h;rw[pA H h2]at h;exact wp_cond_true hv (Y hc.1.2 hlp.1 st I r Q h z a w u)
    |false =>
     simp only[cond_false]at h;rw[pA H h2]at h;exact wp_cond_false hv (Z hc.2 hlp.2 st I r Q h z a w u)
   ·cases h
  ·rename_i b;cases b with
   |true=>exact wp_cond_true rfl (Y hc.1.2 hlp.1 st I r Q h z a w u)
   |false=>exact wp_cond_false rfl (Z hc.2 hlp.2 st I r Q h z a w u)
  ·cases h
 |block id c ih =>
  intro hc hlp st I r Q h z a w u;simp only[dQ]at hc;simp only[dt]at hlp;simp only[evK]at h;refine wp_block (ih hc hlp st _ r _ h (λex J H a w u=>?_) a w u);cases ex with
  |normal=>exact z .normal J H a w u
  |exit M =>
   simp only[sI]at H;show if M=id then Q .normal a w else Q (.exit M) a w
   by_cases e:M=id
   ·rw[if_pos e];subst e;simp only[Nat.beq_refl,cond_true]at H;exact z .normal J H a w u
   ·rw[if_neg e];have hb:BZ M id=false:=by
     cases hb:BZ M id with
     |false=>rfl
     |true=>exact absurd (BX hb) e
    rw[hb]at H;exact z (.exit M) J H a w u
  |ret=>exact z .ret J H a w u
 |loop c ih =>
  intro hc hlp st I r Q h z a w u;simp only[dQ]at hc;simp only[dt,BS,CG]at hlp;simp only[evK]at h;have O:∀ x∈V.fixb,x.1∈(lv L (eT c)).map (·.1):=λx hx=>by
   obtain⟨r,u,he⟩:=Cg.1 (hlp.1 x.1 (a5 x hx));exact B4.2 ⟨r,u,BX he⟩
  refine ug (λn a w=>∃ st,aT (lv L (eT c)) (evK Γ T L X c) n st I=some r/\Rel P V st a w) ⟨X,_,h,vF hV u _ O⟩ ?_ ?_
  ·rintro a w ⟨st,H,_⟩;cases H
  ·rintro n a w ⟨st,H,u⟩;simp only[aT]at H;refine ih hc hlp.2 st _ r _ H (λex J h2 a w u=>?_) a w u;cases ex with
   |normal=>exact⟨_,h2,vF hV u _ O⟩
   |exit id=>exact z (.exit id) J h2 a w u
   |ret=>exact z .ret J h2 a w u
 |exit id=>exact λ_ _ st I r Q h z a w u=>wp_exit (z (.exit id) st h a w u)
 |ret=>exact λ_ _ st I r Q h z a w u=>wp_ret (z .ret st h a w u)
 |_=>intro _ _ st I r Q h;simp[evK]at h
end
section
variable {P:Program} {Γ:List Ctr} {T:TypeId->TI} {R:Type} {w:World} {ro pr:Nat->Prop}
theorem jb {G:Nat->Prop}{p:Bool}:∀ {b:Ty} {h:Option Nat} {pos:Nat} {x:b.den} {cs:List Value} {bs:List Nat},Mx w G b h pos x cs bs->bs.Nodup ->
  ∃ a2:Nat->List Nat,
   (∀ (V:Env) (W:Wit) (st:St),(∀ k,G k->gd V W p k)->∀ (j:Nat) (l:Leaf) (u:Value),h≠some (pos+j)->(aq p b x)[j]?=some l->cs[j]?=some u->aI P V W st w (a2 j) l u) /\
   (∀ (j:Nat) (l:Leaf),h≠some (pos+j)->(aq p b x)[j]?=some l->ao l->∀ k∈a2 j,k∈bs) /\
   (∀ (j J:Nat) (l l':Leaf),h≠some (pos+j)->h≠some (pos+J)->(aq p b x)[j]?=some l->ao l->(aq p b x)[J]?=some l'->ao l'->∀ k,k∈a2 j->k∈a2 J->j=J)
 |.int k,_,_,x,cs,bs,H,_=>by
  obtain⟨rfl,rfl⟩:=H;exact⟨λ_=>[],λV W st _ j l u _ y X=>by cases j with|zero=>simp[aq]at y X;subst y;subst X;rfl|succ j=>simp[aq]at y,λj l _ y _ k r=>by simp at r,λj J l l' _ _ _ _ _ _ k r=>by simp at r⟩
 |.bool,_,_,x,cs,bs,H,_=>by
  obtain⟨rfl,rfl⟩:=H;exact⟨λ_=>[],λV W st _ j l u _ y X=>by cases j with|zero=>simp[aq]at y X;subst y;subst X;rfl|succ j=>simp[aq]at y,λj l _ y _ k r=>by simp at r,λj J l l' _ _ _ _ _ _ k r=>by simp at r⟩
 |.str,_,_,x,cs,bs,H,_=>by
  obtain⟨rfl,rfl⟩:=H;exact⟨λ_=>[],λV W st _ j l u _ y X=>by cases j with|zero=>simp[aq]at y X;subst y;subst X;rfl|succ j=>simp[aq]at y,λj l _ y _ k r=>by simp at r,λj J l l' _ _ _ _ _ _ k r=>by simp at r⟩
 |.unit,_,_,x,cs,bs,H,_=>by
  obtain⟨rfl,rfl⟩:=H;exact⟨λ_=>[],λV W st _ j l u _ y X=>by simp[aq]at y,λj l _ y _ k r=>by simp at r,λj J l l' _ _ _ _ _ _ k r=>by simp at r⟩
 |.hdr,_,_,x,cs,bs,H,_=>by
  obtain⟨⟨A,a9,rfl⟩,rfl⟩:=H;exact⟨λ_=>[],λV W st _ j l u _ y X=>by cases j with|zero=>simp[aq]at y X;subst y;subst X;exact⟨A,a9,rfl⟩|succ j=>simp[aq]at y,λj l _ y _ k r=>by simp at r,λj J l l' _ _ _ _ _ _ k r=>by simp at r⟩
 |.pair b c,h,pos,x,cs,bs,⟨c1,c2,b1,b2,e1,e2,y,X⟩,Z=>by
  subst e1;subst e2;rw[CX]at Z;obtain⟨d1,f2,f3,f4⟩:=jb y Z.1;obtain⟨d2,g2,g3,g4⟩:=jb X Z.2.1;have b0:=cM p b x.1;have ad:=y.len;have I:∀ (j:Nat) (l:Leaf),(aq p b x.1++aq p c x.2)[j]?=some l->(j<b.cells/\(aq p b x.1)[j]?=some l)\/(b.cells<=j/\(aq p c x.2)[j-b.cells]?=some l):=by
   intro j l z;by_cases O:j<b.cells
   ·rw[CK (by omega)]at z;exact .inl ⟨O,z⟩
   ·rw[CI (by omega),b0]at z;exact .inr ⟨by omega,z⟩
  have a0:∀ j,b.cells<=j->h≠some (pos+j)->h≠some (pos+b.cells+(j-b.cells)):=λj z hh=>by rwa [show pos+b.cells+(j-b.cells)=pos+j by omega]
  refine⟨λj=>if j<b.cells then d1 j else d2 (j-b.cells),λV W st hG j l u hh z hu=>?_,λj l hh z ho k r=>?_,λj J l l' hh a4 z ho Y a3 k r M=>?_⟩
  ·rcases I j l z with ⟨O,z⟩|⟨a1,z⟩
   ·rw[CK (by omega)]at hu;simp only[if_pos O];exact f2 V W st hG j l u hh z hu
   ·rw[CI (by omega),ad]at hu;simp only[if_neg (show ¬ j<b.cells by omega)];exact g2 V W st hG _ l u (a0 j a1 hh) z hu
  ·rcases I j l z with ⟨O,z⟩|⟨a1,z⟩
   ·simp only[if_pos O]at r;exact BT _ (f3 j l hh z ho k r)
   ·simp only[if_neg (show ¬ j<b.cells by omega)]at r;exact BU _ (g3 _ l (a0 j a1 hh) z ho k r)
  ·rcases I j l z with ⟨O,z⟩|⟨a1,z⟩ <;> rcases I J l' Y with ⟨a5,Y⟩|⟨a6,Y⟩
   ·simp only[if_pos O]at r;simp only[if_pos a5]at M;exact f4 j J l l' hh a4 z ho Y a3 k r M
   ·simp only[if_pos O]at r;simp only[if_neg (show ¬ J<b.cells by omega)]at M;exact absurd rfl (Z.2.2 k (f3 j l hh z ho k r) k (g3 _ l' (a0 J a6 a4) Y a3 k M))
   ·simp only[if_neg (show ¬ j<b.cells by omega)]at r;simp only[if_pos a5]at M;exact absurd rfl (Z.2.2 k (f3 J l' a4 Y a3 k M) k (g3 _ l (a0 j a1 hh) z ho k r))
   ·simp only[if_neg (show ¬ j<b.cells by omega)]at r;simp only[if_neg (show ¬ J<b.cells by omega)]at M;have:=g4 _ _ l l' (a0 j a1 hh) (a0 J a6 a4) z ho Y a3 k r M;omega
 |.list m E e,h,pos,xs,cs,bs,H,Z=>by
  cases m with
  |false =>
   rw[cr]at H;obtain⟨rfl,A,a9,rfl,X,h3⟩:=H;refine⟨λ_=>[],λV W st hG j l u _ y h4=>?_,λj l _ y _ k r=>by simp at r,λj J l l' _ _ _ _ _ _ k r=>by simp at r⟩;cases j with
   |zero =>
    simp[aq]at y h4;subst y;subst h4;exact Rd.mono hG (⟨A,a9,rfl,X,h3⟩:Rd w G (.list false E e) xs _)
   |succ j=>simp[aq]at y
  |true =>
   refine⟨λ_=>bs,λV W st hG j l u hh y h4=>?_,λj l _ y _ k r=>r,λj J l l' _ _ y _ h3 _ k _ _=>?_⟩
   ·cases j with
    |zero =>
     rw[Nat.add_zero]at hh;rw[bJ hh]at H;obtain⟨v,rfl,hO⟩:=H;simp[aq]at y h4;subst y;subst h4;exact⟨Z,OwB.shy (hO.carry hG (λ_ _=>rfl) (λ_ _=>rfl))⟩
    |succ j=>simp[aq]at y
   ·have h7:j<1:=by simpa[aq]using (B3.1 y).1
    have h8:J<1:=by simpa[aq]using (B3.1 h3).1
    omega
theorem mG {p:Bool}{off:Nat}:∀ {a:Ty} {pos:Nat} {x:a.den} {E:TypeId} {e:Ty} {xs:List e.den},bd off a pos x=some ⟨E,e,xs⟩->(aq p a x)[off-pos]?=some (.own (p&&e.shy) none E e xs)
 |.pair a b,pos,x,E,e,xs,h=>by
  have H:=cM p a x.1;simp only[bd]at h;simp only[aq];split at h
  ·rename_i u z;simp only[BQ]at h;subst h;have y:=gD z;rw[CK (by omega)];exact mG z
  ·have y:=gD h;rw[CI (by omega),H,show off-pos-a.cells=off-(pos+a.cells) by omega];exact mG h
 |.list m I J,pos,M,E,e,xs,h=>by
  simp only[bd]at h;cases r:m&&BZ pos off with
  |false=>simp[r]at h
  |true =>
   rw[r]at h;simp only[cond_true,BQ,Sigma.mk.injEq]at h;obtain⟨rfl,h⟩:=h;simp only[BS]at r;obtain⟨rfl,r⟩:=r;have r:=BX r;subst r;rw[heq_eq_eq,Sigma.mk.injEq]at h;obtain⟨rfl,h⟩:=h;rw[heq_eq_eq]at h;subst h;simp[aq]
 |.int _,_,_,_,_,_,h=>by simp[bd]at h
 |.bool,_,_,_,_,_,h=>by simp[bd]at h
 |.str,_,_,_,_,_,h=>by simp[bd]at h
 |.unit,_,_,_,_,_,h=>by simp[bd]at h
 |.hdr,_,_,_,_,_,h=>by simp[bd]at h
theorem uh (V:Env)(W:Wit)(I:V.ro0=ro)(r:V.prot=pr):∀ {cs:List (Bool×Ty)} {x:lQ cs} {us:List Value},jG w ro pr cs x us->us.length=(jU true cs x).length /\
  ∀ (i:Nat) (c:Bool×Bool×(a:Ty)×a.den) (u:Value),(jU true cs x)[i]?=some c->us[i]?=some u->iP V W w c u
 |[],_,us,h=>by
  have h:us=[]:=h;subst h;exact⟨rfl,λi c u z _=>by simp[jU]at z⟩
 |c::cs,x,us,⟨u,a0,e,z,h2⟩=>by
  subst e;obtain⟨i1,i2⟩:=uh V W I r h2;refine⟨by simp[jU,i1],λi c' u' h3 J=>?_⟩;cases i with
  |succ i=>exact i2 i c' u' (by simpa[jU]using h3) (by simpa using J)
  |zero =>
   simp[jU]at h3 J;subst h3;subst J;have hG:∀ k,ro k->gd V W true k:=λk hk=>.inr ⟨rfl,by rw[I];exact hk⟩
   unfold iP;unfold gU at z;split at z
   ·rename_i H;simp only[H,if_true];obtain⟨b,ob,g,o,M,hv,X,y,Y,Z,O⟩:=z;exact⟨b,ob,g,o,M,hv,.inr (by rw[r];exact X),y,.inr (by rw[r];exact Y),Z.mono hG,O⟩
   ·rename_i H;have H:c.1=false:=by simpa using H
    simp only[H,Ck,if_false];obtain⟨g,o,M,hv,Y,Z,O⟩:=z;exact⟨g,o,M,by rw[hv];rfl,.inr (by rw[r];exact Y),Z.mono hG,O⟩
structure Ent where
 r:Nat
 c:bT
 cs:List Value
 bs:Nat->List Nat
 bl:List Nat
 g:Nat
structure qw (P:Program) (w:World) (ro pr:Nat->Prop) (bx:List (Nat×Nat)) (e:Ent):Prop where
 len:e.c.ls.length=e.cs.length
 one:∀ u∈e.cs,u.oneCell'=true
 leaf:∀ (V:Env) (W:Wit) (st:St),V.w0=w->V.ro0=ro->V.prot=pr->(∀ z∈bx,B0<=z.1/\(st z.1).sh=.agg/\W.β z.1=z.2)->∀ (j:Nat) (l:Leaf) (u:Value),e.c.ls[j]?=some l->e.cs[j]?=some u->aI P V W st w (e.bs j) l u
 own:∀ (j:Nat) (l:Leaf),e.c.ls[j]?=some l->ao l->∀ k∈e.bs j,k∈e.bl
 sep:∀ (j j':Nat) (l l':Leaf),e.c.ls[j]?=some l->ao l->e.c.ls[j']?=some l'->ao l'->∀ k,k∈e.bs j->k∈e.bs j'->j=j'
 box:B0<=e.r->e.c.sh=.agg/\e.g∈e.bl/\(∀ (j:Nat) (l:Leaf),e.c.ls[j]?=some l->ao l->e.g∉e.bs j)/\(∃ E,w.heap[e.g]?=some (.cells e.cs.toArray E (0,0)))/\(e.r,e.g)∈bx
theorem qw.mono {y r:List (Nat×Nat)}{e:Ent}(h:qw P w ro pr y e)(u:∀ z∈y,z∈r):qw P w ro pr r e :=
  { len:=h.len,one:=h.one,own:=h.own,sep:=h.sep
    leaf:=λV W O H Y h3 J=>h.leaf V W O H Y h3 (λz hz=>J z (u z hz))
    box:=λX=>by obtain⟨q1,Z,q3,I,M⟩:=h.box X;exact⟨q1,Z,q3,I,u _ M⟩ }
structure wV (P:Program) (w:World) (ro pr:Nat->Prop) (t:Nat) (pk:PK) (v:Value) (b:List Nat) (bx:List (Nat×Nat)) (es:List Ent):Prop where
 bl:es.flatMap (·.bl)=b
 ok:∀ e∈es,qw P w ro pr bx e
 at_:∀ e∈es,e.r=t\/e.r=B0+t
 nod:(es.map (·.r)).Nodup
 slot:∃ e∈es,e.r=t/\ei e.c.sh v e.cs
 bxs:∀ z∈bx,z.1=B0+t/\(∃ e∈es,e.r=B0+t/\e.g=z.2)
theorem ui (t n:Nat){a:Ty}{x:a.den}{v:Value}{cs:List Value}{b:List Nat}(M:b.Nodup)(h1:di a.isAgg v cs)(J:Mx w ro a none 0 x cs b)(a0:t<B0) :
    ∃ Y,wV P w ro pr t (.own a) v b [] Y/\[((t,⟨n,bg a.isAgg,aq true a x⟩):Nat×bT)]=Y.map (λe=>(e.r,e.c)):=by
  obtain⟨I,m1,m2,m3⟩:=jb (P:=P) (p:=true) J M;have H:∀ j,(none:Option Nat)≠some (0+j):=λj=>by simp
  refine⟨[⟨t,⟨n,bg a.isAgg,aq true a x⟩,cs,I,b,0⟩],⟨by simp,?_,by simp,by simp,⟨_,CE _,rfl,ke h1⟩,by simp⟩,rfl⟩;intro e X;simp only[CQ]at X;subst X
  exact { len := by show (aq true a x).length = _; rw [cM, J.len]
          one:=J.one
          leaf:=λV W st _ O _ _ j l u z y=>m1 V W st (λk hk=>.inr ⟨rfl,by rw[O];exact hk⟩) j l u (H j) z y
          own:=λj l z y=>m2 j l (H j) z y
          sep:=λj Z l l' z y h5 h6=>m3 j Z l l' (H j) (H Z) z y h5 h6
          box:=λhr=>absurd hr (by show ¬ B0<=t;omega) }
theorem oh (t:Nat){l:Leaf}{v:Value}{pk:PK}(a0:t<B0)(I:¬ ao l)(h1:v.oneCell'=true)(z:∀ (V:Env) (W:Wit) (st:St),V.w0=w->V.ro0=ro->V.prot=pr->aI P V W st w [] l v) :
    ∃ es,wV P w ro pr t pk v [] [] es/\[((t,⟨0,.one,[l]⟩):Nat×bT)]=es.map (λe=>(e.r,e.c)):=by
  refine⟨[⟨t,⟨0,.one,[l]⟩,[v],λ_=>[],[],0⟩],⟨by simp,?_,by simp,by simp,⟨_,CE _,rfl,rfl⟩,by simp⟩,rfl⟩;intro e Z;simp only[CQ]at Z;subst Z;have M:∀ (j:Nat) (y:Leaf),[l][j]?=some y->j=0/\y=l:=λj y O=>by
    cases j with
    |zero=>simp at O;exact⟨rfl,O.symm⟩
    |succ j=>simp at O
  exact { len := rfl
          one:=λu hu=>by simp at hu;subst hu;exact h1
          leaf:=λV W st hw Y X _ j y u J H=>by
            obtain⟨rfl,rfl⟩:=M j y J;simp at H;subst H;exact z V W st hw Y X
          own:=λj y J H=>by obtain⟨_,rfl⟩:=M j y J;exact absurd H I
          sep:=λj j' l1 l2 J H=>by obtain⟨_,rfl⟩:=M j l1 J;exact absurd H I
          box:=λhr=>absurd hr (by show ¬ B0<=t;omega) }
def uj:Value->Nat
 |.pointer (some a)=>a.block
 |_=>0
def ea (t:Nat):List PK->List Value->List (Nat×Nat)
 |.iop _::r,v::u=>(B0+t,uj v)::ea (t+1) r u
 |_::r,_::u=>ea (t+1) r u
 |_,_=>[]
def ee (t:Nat):List PK->List Value->List (Nat×Value)
 |.io _::r,v::u=>(t,v)::ee (t+1) r u
 |.iop _::r,v::u=>(t,v)::ee (t+1) r u
 |_::r,_::u=>ee (t+1) r u
 |_,_=>[]
def PK.bx (t:Nat)(v:Value):PK->List (Nat×Nat)
 |.iop _=>[(B0+t,uj v)]
 |_=>[]
theorem BI (t:Nat)(a0:t<B0){pk:PK}{ps:List PK}{x:ab (pk::ps)}{v:Value}{b:List Nat}(a1:b.Nodup)(h:oc P w ro pr pk x.1 v b) :
    ∃ es,wV P w ro pr t pk v b (pk.bx t v) es/\dn t (pk::ps) x=es.map (λe=>(e.r,e.c))++dn (t+1) ps x.2:=by
  cases pk with
  |rd a =>
    obtain⟨rfl,cs,h1,h2⟩:=h;refine⟨[⟨t,⟨0,bg a.isAgg,cN true a x.1⟩,cs,λ_=>[],[],0⟩],⟨by simp,?_,by simp,by simp,⟨_,CE _,rfl,ke h1⟩,by simp[PK.bx]⟩,rfl⟩;intro e he;simp only[CQ]at he;subst he;have ad:∀ (V:Env) (W:Wit) (st:St),V.ro0=ro->aC P V W st w (cN true a x.1) cs:=λV W st J=>eZ (G:=ro) (λk I=>.inr ⟨rfl,by rw[J];exact I⟩) h2
    have b2:∀ (j:Nat) (l:Leaf),(cN true a x.1)[j]?=some l->¬ ao l:=λj l M=>by
      have hl:=gQ true a x.1;have hc:=h2.len;have c0:=(B3.1 M).1;exact ((ad ⟨w,ro,[],0,[],[]⟩ ⟨λ_=>0,λ_=>[],λ_ _=>[],λ_=>False⟩ (λ_=>bT.none) rfl).at_ j l _ M (CA (by omega))).2.1
    exact { len := by show (cN true a x.1).length = _; rw [gQ, h2.len]
            one:=h2.one
            leaf:=λV W st _ J _ _ j l u y H=>((ad V W st J).at_ j l u y H).1
            own:=λj l y H=>absurd H (b2 j l y)
            sep:=λj j' l l' y H=>absurd H (b2 j l y)
            box:=λhr=>absurd hr (by show ¬ B0<=t;omega) }
  |own a =>
    obtain⟨cs,h1,h2⟩:=h;obtain⟨es,y,H⟩:=ui (P:=P) (pr:=pr) t 0 a1 h1 h2 a0;exact⟨es,⟨y.bl,y.ok,y.at_,y.nod,y.slot,y.bxs⟩,by rw[<- H];rfl⟩
  |io a =>
    obtain⟨cs,h1,h2⟩:=h;obtain⟨es,y,H⟩:=ui (P:=P) (pr:=pr) t 7 a1 h1 h2 a0;exact⟨es,⟨y.bl,y.ok,y.at_,y.nod,y.slot,y.bxs⟩,by rw[<- H];rfl⟩
  |rref a =>
    obtain⟨rfl,h⟩:=h;unfold gU at h;rw[if_neg (by simp)]at h;obtain⟨g,o,c,hv,hg,hr,hc⟩:=h;subst hv;obtain⟨es,y,H⟩:=oh (P:=P) (w:=w) (ro:=ro) (pr:=pr) t (pk:=.rref a) (l:=.rp true a x.1 0) (v:=.pointer (some ⟨g,o,none⟩)) a0 id rfl (λV W st hw J O=>⟨g,o,c,rfl,.inr (by rw[O];exact hg),hr.mono (λk I=>.inr ⟨rfl,by rw[J];exact I⟩),hc⟩);exact⟨es,y,by rw[<- H];rfl⟩
  |rref2 a =>
    obtain⟨rfl,h⟩:=h;unfold gU at h;rw[if_pos rfl]at h;obtain⟨b,ob,g,o,c,hv,hb,a6,hg,hr,hc⟩:=h;subst hv;obtain⟨es,y,H⟩:=oh (P:=P) (w:=w) (ro:=ro) (pr:=pr) t (pk:=.rref2 a) (l:=.rpp true a x.1) (v:=.pointer (some ⟨b,ob,none⟩)) a0 id rfl (λV W st hw J O=>⟨b,ob,g,o,c,rfl,.inr (by rw[O];exact hb),a6,.inr (by rw[O];exact hg),hr.mono (λk I=>.inr ⟨rfl,by rw[J];exact I⟩),hc⟩);exact⟨es,y,by rw[<- H];rfl⟩
  |fn As B =>
    obtain⟨rfl,h⟩:=h;have ba:v.oneCell'=true:=by
      obtain⟨f,bn,e,_⟩:=h;rw[e];rfl
    obtain⟨es,y,H⟩:=oh (P:=P) (w:=w) (ro:=ro) (pr:=pr) t (pk:=.fn As B) (l:=.fn As B x.1) (v:=v) a0 id ba (λV W st hw J O=>by
      show il P V.w0 V.prot As B x.1 v;rw[hw,O];exact h)
    exact⟨es,y,by rw[<- H];rfl⟩
  |clo f cs =>
    obtain⟨rfl,us,e,h⟩:=h;subst e;obtain⟨es,y,H⟩:=oh (P:=P) (w:=w) (ro:=ro) (pr:=pr) t (pk:=.clo f cs) (l:=.clr f (jU true cs x.1)) (v:=.func (.func f) #[] us.toArray) a0 id rfl (λV W st hw J O=>by
      obtain⟨i1,i2⟩:=uh V W J O h;exact⟨us,rfl,i1,i2⟩)
    exact⟨es,y,by rw[<- H];rfl⟩
  |iop a =>
    obtain⟨g,c,E,b0,hv,hg,hm,rfl⟩:=h;subst hv;rw[CR]at a1;obtain⟨a5,m1,m2,m3⟩:=jb (P:=P) (p:=true) hm a1.2;have hn:∀ j,(none:Option Nat)≠some (0+j):=λj=>by simp
    have Z:t≠B0+t:=by simp[B0]
    refine⟨[⟨t,⟨0,.one,[.bp (B0+t) 0]⟩,[.pointer (some ⟨g,0,none⟩)],λ_=>[],[],0⟩,⟨B0+t,⟨0,.agg,aq true a x.1⟩,c,a5,g::b0,g⟩],
      ⟨by simp,?_,λe he=>by simp at he;rcases he with rfl|rfl <;> simp,by rw[CH,CH,DR,CR];exact⟨by simpa using Z,by simp⟩,⟨_,BW ..,rfl,rfl⟩,λz hz=>?_⟩,rfl⟩
    · intro e he
      simp only[B7,List.not_mem_nil,or_false]at he;rcases he with rfl|rfl
      · have h0:∀ (j:Nat) (l':Leaf),[Leaf.bp (B0+t) 0][j]?=some l'->j=0/\l'=.bp (B0+t) 0:=λj l' M=>by
          cases j with
          |zero=>simp at M;exact⟨rfl,M.symm⟩
          |succ j=>simp at M
        exact { len := rfl
                one:=λu hu=>by simp at hu;subst hu;rfl
                leaf:=λV W st hw J O hb j l' u y H=>by
                  obtain⟨rfl,rfl⟩:=h0 j l' y;simp at H;subst H;obtain⟨q1,q2,q3⟩:=hb (B0+t,g) (CE _);exact⟨q1,q2,by rw[q3]⟩
                own:=λj l' y H=>by obtain⟨_,rfl⟩:=h0 j l' y;exact H.elim
                sep:=λj j' l1 l2 y H=>by obtain⟨_,rfl⟩:=h0 j l1 y;exact H.elim
                box:=λhr=>absurd hr (by show ¬ B0<=t;omega) }
      · exact { len := by show (aq true a x.1).length = _; rw [cM, hm.len]
                one:=hm.one
                leaf:=λV W st _ J _ _ j l u y H=>m1 V W st (λk I=>.inr ⟨rfl,by rw[J];exact I⟩) j l u (hn j) y H
                own:=λj l y H k I=>BV _ (m2 j l (hn j) y H k I)
                sep:=λj j' l l' y H h5 h6=>m3 j j' l l' (hn j) (hn j') y H h5 h6
                box:=λ_=>⟨rfl,BW ..,λj l y H I=>a1.1 (m2 j l (hn j) y H g I),⟨E,hg⟩,CE _⟩ }
    · simp only[PK.bx,CQ]at hz
      subst hz;exact⟨rfl,_,BV _ (CE _),rfl,rfl⟩
  |hol a c off =>
    obtain⟨cs,u,b0,b1,E,e,xs,h1,h2,y,H,h5,h6⟩:=h;have a2:=bt.1 a1;have b6:b0.Nodup:=bt.2 λk=>by have:=a2 k;have:=h6 k;omega
    have a9:b1.Nodup:=bt.2 λk=>by have:=a2 k;have:=h6 k;omega
    have a4:∀ k,k∈b0->k∉b1:=λk I Y=>by
      have:=a2 k;have:=h6 k;have:=CF.2 I;have:=CF.2 Y;omega
    have b3:∀ k∈b0,k∈b:=λk I=>CF.1 (by have:=h6 k;have:=CF.2 I;omega)
    have b9:∀ k∈b1,k∈b:=λk I=>CF.1 (by have:=h6 k;have:=CF.2 I;omega)
    obtain⟨a5,m1,m2,m3⟩:=jb (P:=P) (p:=true) h2 b6;have Z:∀ j,j≠c->(some c:Option Nat)≠some (0+j):=λj M=>by simp;omega
    have b4:=mG (p:=true) H;rw[Nat.sub_zero]at b4;have bb:(aq true a x.1.1).getD c .dead=.own (true&&e.shy) none E e xs:=by rw[B8,b4];rfl
    refine⟨[⟨t,⟨0,bg a.isAgg,aS (aq true a x.1.1) c (.own (true&&e.shy) (some (x.1.2,off)) E e xs)⟩,cs,λj=>if j=c then b1 else a5 j,b,0⟩],
      ⟨by simp,?_,by simp,by simp,⟨_,CE _,rfl,ke h1⟩,by simp[PK.bx]⟩,?_⟩
    · intro en he
      simp only[CQ]at he;subst he;have X:∀ (j:Nat) (l:Leaf),(aS (aq true a x.1.1) c (.own (true&&e.shy) (some (x.1.2,off)) E e xs))[j]?=some l->(j=c/\l=.own (true&&e.shy) (some (x.1.2,off)) E e xs)\/(j≠c/\(aq true a x.1.1)[j]?=some l):=by
        intro j l M;rcases aR _ _ _ _ _ M with ⟨q1,q2,_⟩|⟨q1,q2⟩
        · exact .inl ⟨q1,q2⟩
        · exact .inr ⟨q1,q2⟩
      exact { len := by show (aS (aq true a x.1.1) c _).length = _; simp only [aS, List.length_set]; rw [cM, h2.len]
              one:=h2.one
              leaf:=λV W st _ J _ _ j l u' h7 h8=>by
                have h8:cs[j]?=some u':=h8;rcases X j l h7 with ⟨rfl,rfl⟩|⟨M,h7⟩
                · rw[y]at h8
                  simp only[BQ]at h8;subst h8;simp only[if_true];exact⟨a9,OwB.shy (p:=true) (h5.carry (λk I=>.inr ⟨rfl,by rw[J];exact I⟩) (λ_ _=>rfl) (λ_ _=>rfl))⟩
                · simp only[if_neg M]
                  exact m1 V W st (λk I=>.inr ⟨rfl,by rw[J];exact I⟩) j l u' (Z j M) h7 h8
              own:=λj l h7 h8 k I=>by
                rcases X j l h7 with ⟨rfl,rfl⟩|⟨M,h7⟩
                · simp only[if_true]at I;exact b9 k I
                · simp only[if_neg M]at I;exact b3 k (m2 j l (Z j M) h7 h8 k I)
              sep:=λj j' l l' h7 h8 h9 b5 k I Y=>by
                rcases X j l h7 with ⟨rfl,rfl⟩|⟨M,h7⟩ <;> rcases X j' l' h9 with ⟨rfl,rfl⟩|⟨a3,h9⟩
                · rfl
                · simp only[if_true]at I;simp only[if_neg a3]at Y
                  exact absurd I (a4 k (m2 j' l' (Z j' a3) h9 b5 k Y))
                · simp only[if_neg M]at I;simp only[if_true]at Y
                  exact absurd Y (a4 k (m2 j l (Z j M) h7 h8 k I))
                · simp only[if_neg M]at I;simp only[if_neg a3]at Y
                  exact m3 j j' l l' (Z j M) (Z j' a3) h7 h8 h9 b5 k I Y
              box:=λhr=>absurd hr (by show ¬ B0<=t;omega) }
    · show (t,(⟨0,bg a.isAgg,aS (aq true a x.1.1) c (uX x.1.2 off ((aq true a x.1.1).getD c .dead))⟩:bT))::dn (t+1) ps x.2=_
      rw[bb];rfl
theorem uk:∀ {ps:List PK} {x:ab ps} {u:List Value} {r:List (List Nat)},dg P w ro pr ps x u r->u.length=ps.length
 |[],_,_,_,h=>by rw[h.1];rfl
 |_::_,_,_,_,⟨_,_,_,_,e,_,_,h⟩=>by rw[e,CW,CW,uk h]
theorem vG:∀ (ps:List PK) (x:ab ps) (Z:List Value) (H:List (List Nat)) (t:Nat),dg P w ro pr ps x Z H->H.flatten.Nodup->t+ps.length<=B0 ->
  ∃ X:List Ent,dn t ps x=X.map (λe=>(e.r,e.c))/\X.flatMap (·.bl)=H.flatten/\(∀ e∈X,qw P w ro pr (ea t ps Z) e) /\
   (∀ e∈X,(t<=e.r/\e.r<t+ps.length)\/(B0+t<=e.r/\e.r<B0+t+ps.length))/\(X.map (·.r)).Nodup /\
   (∀ (i:Nat) (v:Value),Z[i]?=some v->∃ e∈X,e.r=t+i/\ei e.c.sh v e.cs)/\(∀ z∈ea t ps Z,∃ e∈X,e.r=z.1/\e.g=z.2/\B0<=z.1)
 |[],x,Z,H,t,⟨e1,e2⟩,_,_=>by
  subst e1;subst e2;exact⟨[],rfl,rfl,by simp,by simp,by simp,λi v h=>by simp at h,by simp[ea]⟩
 |pk::ps,x,Z,H,t,⟨v,M,b,a0,e1,e2,h1,h2⟩,O,hB=>by
  subst e1;subst e2;rw[B9,CX]at O;simp only[CW]at hB;obtain⟨a2,Y,p2⟩:=BI t (by omega) (ps:=ps) (x:=x) O.1 h1;obtain⟨a4,q1,q2,q3,q4,q5,q6,q7⟩:=vG ps x.2 M a0 (t+1) h2 O.2.1 (by omega);have a1:ea t (pk::ps) (v::M)=pk.bx t v++ea (t+1) ps M:=by cases pk <;> rfl
  refine⟨a2++a4,by rw[p2,q1,Ci],by rw[List.flatMap_append,Y.bl,q2,B9],λe y=>?_,λe y=>?_,?_,λi u hi=>?_,λz I=>?_⟩
  ·rw[a1];rcases BR.1 y with y|y
   ·exact (Y.ok e y).mono (λz I=>BT _ I)
   ·exact (q3 e y).mono (λz I=>BU _ I)
  ·simp only[CW];rcases BR.1 y with y|y
   ·rcases Y.at_ e y with h|h <;> omega
   ·rcases q4 e y with h|h <;> omega
  ·rw[Ci,CX];refine⟨Y.nod,q5,λa ha b' a5 e0=>?_⟩;subst e0;obtain⟨e,y,rfl⟩:=B4.1 ha;obtain⟨e',a3,e1⟩:=B4.1 a5;rcases Y.at_ e y with h|h <;> rcases q4 e' a3 with h'|h' <;> omega
  ·cases i with
   |zero =>
    simp at hi;subst hi;obtain⟨e,y,h3,J⟩:=Y.slot;exact⟨e,BT _ y,by omega,J⟩
   |succ i =>
    obtain⟨e,y,h3,J⟩:=q6 i u (by simpa using hi);exact⟨e,BU _ y,by omega,J⟩
  ·rw[a1]at I;rcases BR.1 I with I|I
   ·obtain⟨h3,e,y,J,h5⟩:=Y.bxs z I;exact⟨e,BT _ y,by rw[J,h3],h5,by rw[h3];exact Nat.le_add_right _ _⟩
   ·obtain⟨e,y,J,h5,h6⟩:=q7 z I;exact⟨e,BU _ y,J,h5,h6⟩
def gj (w:World)(ro:Nat->Prop)(ps:List PK)(u:List Value)(r:List (List Nat))(nt:Nat):Env:=⟨w,ro,r.flatten,nt,ea 0 ps u,ee 0 ps u⟩
theorem oi:∀ {I:List Ent},(I.flatMap (·.bl)).Nodup->∀ e∈I,∀ H∈I,∀ k,k∈e.bl->k∈H.bl->e=H
 |[],_,e,M,_,_,_,_,_=>by simp at M
 |x::I,u,e,M,H,O,k,J,r=>by
  rw[List.flatMap_cons,CX]at u;rcases B7.1 M with y|y <;> rcases B7.1 O with z|z
  ·rw[y,z]
  ·rw[y]at J;exact absurd rfl (u.2.2 k J k (CC.2 ⟨H,z,r⟩))
  ·rw[z]at r;exact absurd rfl (u.2.2 k r k (CC.2 ⟨e,y,J⟩))
  ·exact oi u.2.1 e y H z k J r
theorem yi:∀ {I:List Ent},(I.map (·.r)).Nodup->∀ e∈I,∀ H∈I,e.r=H.r->e=H
 |[],_,e,J,_,_,_=>by simp at J
 |x::I,u,e,J,H,M,O=>by
  rw[CH,CR]at u;rcases B7.1 J with y|y <;> rcases B7.1 M with z|z
  ·rw[y,z]
  ·exact absurd (B4.2 ⟨H,z,by rw[<- O,y]⟩) u.1
  ·exact absurd (B4.2 ⟨e,y,by rw[O,z]⟩) u.1
  ·exact yi u.2 e y H z O
theorem rZ:∀ (u:List Ent) (q:Nat),(av (u.map λe=>(e.r,e.c)) q=bT.none/\u.find? (λe=>e.r==q)=none)\/∃ e∈u,e.r=q/\u.find? (λe=>e.r==q)=some e/\av (u.map λe=>(e.r,e.c)) q=e.c
 |[],q=>.inl ⟨rfl,rfl⟩
 |e::u,q=>by
  by_cases h:e.r=q
  ·refine .inr ⟨e,BW ..,h,by simp[h],?_⟩;simp[av,ac,h]
  ·have y:BZ q e.r=false:=by
    cases y:BZ q e.r with
    |false=>rfl
    |true=>exact absurd (BX y).symm h
   have O:av ((e::u).map λe=>(e.r,e.c)) q=av (u.map λe=>(e.r,e.c)) q:=by simp[av,ac,y]
   have X:(e::u).find? (λe=>e.r==q)=u.find? (λe=>e.r==q):=by simp[h]
   rw[O,X];rcases rZ u q with z|⟨H,z,I,J,M⟩
   ·exact .inl z
   ·exact .inr ⟨H,BV _ z,I,J,M⟩
theorem vH:∀ {ps:List PK} {r:List Value} {t:Nat} {z:Nat×Value},z∈ee t ps r->∃ i,z.1=t+i/\r[i]?=some z.2
 |[],_,_,_,h=>by simp[ee]at h
 |u::ps,[],_,_,h=>by cases u <;> simp[ee]at h
 |u::ps,v::r,t,z,h=>by
  have:z=(t,v)\/z∈ee (t+1) ps r:=by cases u <;> simp[ee]at h <;> first|exact h|exact .inr h
  rcases this with rfl|h
  ·exact⟨0,rfl,rfl⟩
  ·obtain⟨i,H,y⟩:=vH h;exact⟨i+1,by omega,by simpa using y⟩
theorem vI {ps:List PK}{x:ab ps}{O:List Value}{J:List (List Nat)}{nt:Nat}(h:dg P w ro (λk=>k<w.heap.size/\k∉J.flatten) ps x O J)(a4:J.flatten.Nodup)
  (c4:ps.length<=nt) (hB:nt<=GH):Rel P (gj w ro ps O J nt) (av (dn 0 ps x)) { tmps:=O.toArray++CS (nt-O.length) undef,defers:=[] } w:=by
 have c2:=uk h;have c3:GH<=B0:=by decide
 obtain⟨Y,q1,q2,q3,q4,q5,q6,q7⟩:=vG ps x O J 0 h a4 (by omega);rw[q1];have c0:=rZ Y;have a5:∀ e∈Y,∀ H∈Y,e.r=H.r->e=H:=by
  intro e he H bb hr;exact yi q5 e he H bb hr
 rw[<- q2]at a4;have a0:∀ e∈Y,∀ k∈e.bl,k∈J.flatten:=λe he k Z=>by rw[<- q2];exact CC.2 ⟨e,he,Z⟩
 have hE:∀ q,(av (Y.map λe=>(e.r,e.c)) q=bT.none/\Y.find? (λe=>e.r==q)=none)\/∃ e∈Y,e.r=q/\Y.find? (λe=>e.r==q)=some e/\av (Y.map λe=>(e.r,e.c)) q=e.c:=c0;have a1:∀ q,live (av (Y.map λe=>(e.r,e.c))) q->∃ e∈Y,e.r=q/\B0<=e.r/\Y.find? (λe=>e.r==q)=some e:=by
  rintro q ⟨h1,h2⟩;rcases hE q with ⟨I,_⟩|⟨e,I,y,h5,M⟩
  ·rw[I]at h2;cases h2
  ·exact⟨e,I,y,by rw[y];exact h1,h5⟩
 let β:Nat->Nat:=λq=>match Y.find? (λe=>e.r==q) with|some e=>e.g|none=>0
 let cs:Nat->List Value:=λq=>match Y.find? (λe=>e.r==q) with|some e=>e.cs|none=>[]
 let bs:Nat->Nat->List Nat:=λq j=>match Y.find? (λe=>e.r==q) with|some e=>e.bs j|none=>[]
 have a9:∀ z∈ea 0 ps O,B0<=z.1/\(av (Y.map λe=>(e.r,e.c)) z.1).sh=.agg/\β z.1=z.2:=by
  intro z hz;obtain⟨e,he,h1,h2,I⟩:=q7 z hz;refine⟨I,?_⟩;rcases hE z.1 with ⟨_,y⟩|⟨H,y,h5,M,h7⟩
  ·exfalso;rw[DD]at y;exact y e he (by simp[h1])
  ·have:H=e:=a5 H y e he (by rw[h5,h1]);subst this;rw[h7];exact⟨((q3 H he).box (by rw[h1];exact I)).1,by simp only[β,M];exact h2⟩
 refine⟨{ β:=β,cs:=cs,bs:=bs,nw:=λ_=>False },?_⟩;have b4:(gj w ro ps O J nt).prot=λk=>k<w.heap.size/\k∉J.flatten:=rfl
 exact {
  nt:=by show (O.toArray++CS (nt-O.length) undef).size=nt;simp;omega
  df:=rfl
  slots:=λt ht=>by
   show ei _ ((O.toArray++CS (nt-O.length) undef).getD t undef) (cs t);by_cases hq:t<ps.length
   ·have hv:=CA (show t<O.length by omega);have:(O.toArray++CS (nt-O.length) undef).getD t undef=O[t]:=by
     rw[B6,Cn (by simp;omega)];simp[hv]
    rw[this];obtain⟨e,he,h1,h2⟩:=q6 t _ hv;rw[Ca]at h1;rcases hE t with ⟨_,y⟩|⟨H,y,h5,M,h7⟩
    ·exfalso;rw[DD]at y;exact y e he (by simp[h1])
    ·have:H=e:=a5 H y e he (by rw[h5,h1]);subst this;rw[h7];simp only[cs,M];exact h2
   ·rcases hE t with ⟨I,y⟩|⟨H,y,h5,M,h7⟩
    ·rw[I];simp only[cs,y];rfl
    ·rcases q4 H y with h8|h8 <;> omega
  boxes:=λb hb=>by
   rcases hE b with ⟨I,y⟩|⟨H,y,h5,M,h7⟩
   ·rw[I];exact .inl ⟨rfl,rfl⟩
   ·obtain⟨g1,g2,g3,⟨E,g4⟩,g5⟩:=(q3 H y).box (by rw[h5];exact hb);rw[h7];exact .inr ⟨g1,E,by simp only[β,cs,M];exact g4⟩
  len:=λq=>by
   rcases hE q with ⟨I,y⟩|⟨H,y,h5,M,h7⟩
   ·rw[I];simp only[cs,y];rfl
   ·rw[h7];simp only[cs,M];exact (q3 H y).len
  one:=λq u hu=>by
   have hu:u∈cs q:=hu;rcases hE q with ⟨I,y⟩|⟨H,y,h5,M,h7⟩
   ·simp only[cs,y]at hu;simp at hu
   ·simp only[cs,M]at hu;exact (q3 H y).one u hu
  leaf:=λq j l v X hv=>by
   have hv:(cs q)[j]?=some v:=hv;rcases hE q with ⟨I,y⟩|⟨H,y,h5,M,h7⟩
   ·rw[I]at X;simp[bT.none]at X
   ·rw[h7]at X;simp only[cs,M]at hv;show aI P _ _ _ w (bs q j) l v;simp only[bs,M];exact (q3 H y).leaf (gj w ro ps O J nt) _ _ rfl rfl rfl a9 j l v X hv
  ownb:=λq j l X ho k Z=>by
   have Z:k∈bs q j:=Z;rcases hE q with ⟨I,y⟩|⟨H,y,h5,M,h7⟩
   ·rw[I]at X;simp[bT.none]at X
   ·rw[h7]at X;simp only[bs,M]at Z;have b1:=(q3 H y).own j l X ho k Z;refine⟨id,λhp=>hp.2 (a0 H y k b1),λb hb e0=>?_⟩;obtain⟨e2,g1,g2,g3,g4⟩:=a1 b hb;have a6:=(q3 e2 g1).box g3;have e0:β b=k:=e0;simp only[β,g4]at e0;have:=oi a4 H y e2 g1 k b1 (by rw[<- e0];exact a6.2.1);subst this;exact a6.2.2.1 j l X ho (by rw[e0];exact Z)
  sep:=λq j l q' j' l' X ho a3 b0 k Z a2=>by
   have Z:k∈bs q j:=Z;have a2:k∈bs q' j':=a2;rcases hE q with ⟨I,y⟩|⟨e1,y,h5,M,h7⟩
   ·rw[I]at X;simp[bT.none]at X
   ·rcases hE q' with ⟨bn,ad⟩|⟨e2,ad,bx,b5,b6⟩
    ·rw[bn]at a3;simp[bT.none]at a3
    ·rw[h7]at X;rw[b6]at a3;simp only[bs,M]at Z;simp only[bs,b5]at a2;have:=oi a4 e1 y e2 ad k ((q3 e1 y).own j l X ho k Z) ((q3 e2 ad).own j' l' a3 b0 k a2);subst this;exact⟨by rw[<- h5,<- bx],(q3 e1 y).sep j j' l l' X ho a3 b0 k Z a2⟩
  box:=λb hb=>by
   obtain⟨e2,g1,g2,g3,g4⟩:=a1 b hb;have a6:=(q3 e2 g1).box g3;refine⟨id,λhp=>hp.2 ?_⟩;show β b∈_;simp only[β,g4];exact a0 e2 g1 _ a6.2.1
  inj:=λb b' hb b9 e0=>by
   obtain⟨e1,g1,g2,g3,g4⟩:=a1 b hb;obtain⟨e2,b2,ba,b3,c1⟩:=a1 b' b9;have e0:β b=β b':=e0;simp only[β,g4,c1]at e0;have:=oi a4 e1 g1 e2 b2 e1.g ((q3 e1 g1).box g3).2.1 (by rw[e0];exact ((q3 e2 b2).box b3).2.1);subst this;rw[<- g2,<- ba]
  nwlt:=λk Z=>Z.elim
  os:=rfl,tape:=rfl,output:=rfl,size:=C0 _,keep:=λ_ _=>rfl
  fixb:=λz hz=>by
   obtain⟨h1,h2,I⟩:=a9 z hz;exact⟨⟨h1,h2⟩,I⟩
  fixt:=λz hz=>by
   obtain⟨i,h1,h2⟩:=vH hz;rw[Ca]at h1;show (O.toArray++CS (nt-O.length) undef).getD z.1 undef=z.2;rw[h1,B6,Cn (by simpa using (B3.1 h2).1)];simp[h2] }
end
section
variable {P:Program} {V:Env} {W:Wit} {Γ:List Ctr} {T:TypeId->TI} {R:Type} {st:St} {a:Act} {w:World} {ro:Nat->Prop}
theorem BJ (hT:TOk P T)(h:ap P V W st a w)(x:ResultVar)(H:pK st T x≠.off) :
  ∃ v J,(match x with|.tmp t=>(pure (a.tmps.getD t undef):Sem Value)|.cell b t=>(do loadVar t (<- asAddr (a.tmps.getD b undef)):Sem Value)).run P w=.ok v w /\
   ei (pK st T x) v J/\aC P V W st w (vL st T x) J:=by
 cases x with
 |tmp t =>
  obtain⟨J,h1,O⟩:=cW h (.tmp t);exact⟨_,J,rfl,h1,O⟩
 |cell t u =>
  simp only[pK]at H ⊢;split at H
  ·rename_i b off Y;cases M:decide ((st b).sh=.agg)&&C4 (off+(T u).cells) (st b).ls.length&&!BZ (T u).cells 0 with
   |false=>rw[M]at H;exact absurd rfl H
   |true =>
    simp only[Y,M,cond_true,vL];simp only[BS,decide_eq_true_eq,CU]at M;obtain⟨⟨h1,O⟩,h3⟩:=M;have O:off+(T u).cells<=(st b).ls.length:=CM O;have a1:T u≠.none:=by
     intro e;rw[e]at h3;simp[TI.cells]at h3
    obtain⟨hp,_,_,_,_⟩:=br h (.tmp t) (by rw[Y];simp);rw[Y]at hp;obtain⟨hB,a0,I⟩:=hp;have I:a.tmps.getD t undef=.pointer (some ⟨W.β b,off,none⟩):=I;rcases h.boxes b hB with ⟨X,_⟩|⟨_,E,X⟩
    ·rw[a0]at X;cases X
    ·have r:cY w (W.β b) 0 (W.cs b):=λi v I=>by
      rw[Ca,cell_of_row w (W.β b) i _ E (0,0) X];simpa using I
     have a2:=h.len b;have y:=r.sub off (T u).cells;rw[Ca]at y;obtain⟨v,z,Z⟩:=ou (hT u) a1 y (by simp;omega);refine⟨v,_,?_,Z,((iD h b).drop off).take _⟩;simp only[I];simpa[asAddr]using z
  ·exact absurd rfl H
def nK (a:Act):ResultVar->Sem Value
 |.tmp t=>pure (a.tmps.getD t undef)
 |.cell b t=>do loadVar t (<- asAddr (a.tmps.getD b undef))
def nL (P:Program)(a:Act)(w:World):List ResultVar->List Value->Prop
 |[],u=>u=[]
 |x::y,u=>∃ v r,u=v::r/\(nK a x).run P w=.ok v w/\nL P a w y r
theorem r8:∀ (l:List ResultVar) (u:List Value),nL P a w l u->(l.mapM (nK a)).run P w=.ok u w
 |[],_,h=>by rw[show _=_ from h];rfl
 |x::l,_,⟨v,r,e,y,z⟩=>by subst e;simp[C3,y,r8 l r z]
theorem AQ (b:Bool):bg b≠.off:=by cases b <;> simp[bg]
def RK.isBox:RK->Bool
 |.box _=>true
 |_=>false
theorem ul (hV:ay V)(hT:TOk P T)(h:ap P V W st a w)(b2:V.ro0=ro){fx:List Nat}:∀ (rs:List RK) (I:List ResultVar) (y:cO (aj rs)),kj st T fx rs I=some y ->
  ∀ {G:Nat->Prop},(∀ k,bo V W y.p y.frz k->G k) ->
  ∃ (us:List Value) (H:List (List Nat)) (bx:List Nat),nL P a w I us/\gE w G ro rs y.val us H/\(∀ k,H.flatten.count k=(aY W y.kill).count k+(bx.map W.β).count k) /\
   (∀ b∈bx,live st b/\fx.any (BZ b)=false)/\bx.length=rs.countP RK.isBox/\(∀ z∈y.frz,aB st z)/\∀ z∈y.kill,aB st z
 |[],[],y,J,G,hG=>by
  simp only[kj,BQ]at J;subst J;exact⟨[],[],[],rfl,⟨rfl,rfl⟩,λk=>by simp[aY],by simp,rfl,by simp,by simp⟩
 |[],_::_,_,J,_,_=>by simp[kj]at J
 |_::_,[],_,J,_,_=>by simp[kj]at J
 |r::rs,x::I,y,J,G,hG=>by
  simp only[kj]at J;cases M:decide (pK st T x=r.sh) with
  |false=>simp[M]at J
  |true =>
   simp only[M,cond_true]at J;have M:=of_decide_eq_true M;split at J
   ·rename_i X y2 u b4;simp only[BQ]at J;subst J;obtain⟨v,a4,ad,O,a0⟩:=BJ hT h x (by rw[M];cases r <;> simp only[RK.sh] <;> first|exact AQ _|simp);rw[M]at O;have a1:∀ k,bo V W X.p X.frz k->G k:=λk Z=>hG k (dS.1 k Z)
    have b5:∀ k,bo V W y2.p y2.frz k->G k:=λk Z=>hG k (dS.2 k Z)
    obtain⟨us,H,bx,i1,i2,i3,i4,i5,i6,i7⟩:=ul hV hT h b2 rs I y2 b4 b5;have a3:(nK a x).run P w=.ok v w:=by cases x <;> exact ad
    have a5:∀ (b:List Nat) (Y:List Nat),qk w G ro r X.val v b->(∀ k,b.count k=(aY W X.kill).count k+(Y.map W.β).count k)->(∀ b∈Y,live st b/\fx.any (BZ b)=false)->Y.length=(if r.isBox then 1 else 0)->(∀ z∈X.frz,aB st z)->(∀ z∈X.kill,aB st z) ->
      ∃ (us:List Value) (H:List (List Nat)) (bx:List Nat),nL P a w (x::I) us/\gE w G ro (r::rs) (X.val,y2.val) us H/\(∀ k,H.flatten.count k=(aY W (X.kill++y2.kill)).count k+(bx.map W.β).count k) /\
       (∀ b∈bx,live st b/\fx.any (BZ b)=false)/\bx.length=(r::rs).countP RK.isBox/\(∀ z∈X.frz++y2.frz,aB st z)/\∀ z∈X.kill++y2.kill,aB st z:=by
     intro b Y f1 f2 f3 f4 f5 f6;refine⟨v::us,b::H,Y++bx,⟨v,us,rfl,a3,i1⟩,⟨v,us,b,H,rfl,rfl,f1,i2⟩,λk=>?_,λz hz=>(BR.1 hz).elim (f3 z) (i4 z),?_,λz hz=>(BR.1 hz).elim (f5 z) (i6 z),λz hz=>(BR.1 hz).elim (f6 z) (i7 z)⟩
     ·rw[B9,CD,f2 k,i3 k,dK,CD,Ci,CD];omega
     ·rw[List.length_append,f4,i5,DJ];cases r.isBox <;> simp <;> omega
    cases r with
    |v b =>
     simp only[so]at u;obtain⟨g1,g2,g3⟩:=dP (pos:=0) h a0 u;exact a5 (aY W X.kill) [] ⟨a4,gF O,g1.mono a1⟩ (λk=>by simp) (by simp) rfl g2 g3
    |bv b =>
     simp only[so,BY]at u;obtain⟨⟨p,z⟩,hz,rfl⟩:=u;have g1:=eD h a0 hz;refine a5 [] [] ⟨rfl,a4,gF O,g1.mono λk Z=>?_⟩ (λk=>by simp[aY]) (by simp) rfl (λz hz=>eo a0 hz) (by simp);rcases Z with (Z|⟨_,Z⟩)|Z
     ·exact .inl (a1 k (.inl (.inl Z)))
     ·exact .inr (by rw[<- b2];exact Z)
     ·exact .inl (a1 k (.inr Z))
    |box b =>
     simp only[so]at u;split at u
     ·rename_i b0 b3;cases a2:!(fx.any (BZ b0)) with
      |false=>rw[a2]at u;cases u
      |true =>
       rw[a2]at u;simp only[cond_true]at u;have O:a4=[v]:=O;subst O;rw[b3]at a0;obtain⟨hB,a6,a9⟩:=a0.1.1;obtain⟨g1,g2,g3⟩:=dP (pos:=0) h (iD h b0) u;rcases h.boxes b0 hB with ⟨h8,_⟩|⟨_,E,h8⟩
       ·rw[a6]at h8;cases h8
       ·exact a5 (W.β b0::aY W X.kill) [b0] ⟨W.β b0,W.cs b0,E,_,a9,h8,g1.mono a1,rfl⟩ (λk=>by
         rw[Cj,CH,DR,Cj,List.count_nil];omega) (λb' b1=>by
         simp at b1;subst b1;exact⟨⟨hB,a6⟩,by simpa using a2⟩) rfl g2 g3
     ·cases u
   ·cases J
theorem mH (hV:ay V)(h:ap P V W st a w){w0:World}{pr:Nat->Prop}(a4:V.nt<=GH):∀ (ps:List PK) (x:ab ps) (vs:List Value) (a5:List (List Nat)) (t:Nat) (o:cO (ai ps)),dg P w0 ro pr ps x vs a5->ij st t ps=some o->t+ps.length<=V.nt ->
  (∀ z∈ee t ps vs,a.tmps.getD z.1 undef=z.2)->(∀ z∈ea t ps vs,live st z.1/\W.β z.1=z.2)->∀ {G:Nat->Prop},(∀ k,bo V W o.p o.frz k->G k) ->
  ∃ r,bL w G ps o.val vs r/\(∀ k,r.flatten.count k=(aY W o.kill).count k+((bG t ps).map W.β).count k)/\(∀ z∈o.frz,aB st z)/\(∀ z∈o.kill,aB st z)/\∀ b∈bG t ps,live st b
 |[],x,vs,a5,t,o,⟨e1,e2⟩,y,_,_,_,G,hG=>by
  simp only[ij,BQ]at y;subst y;subst e1;exact⟨[],trivial,λk=>by simp[aY,bG],by simp,by simp,by simp[bG]⟩
 |pk::ps,x,vs,a5,t,o,⟨v,M,b,a0,e1,e2,h1,h2⟩,y,ht,a1,a2,G,hG=>by
  subst e1;subst e2;simp only[CW]at ht;have u:∀ (o':cO (ai ps)),ij st (t+1) ps=some o'->ee t (pk::ps) (v::M)=ee (t+1) ps M->ea t (pk::ps) (v::M)=ea (t+1) ps M->(∀ k,bo V W o'.p o'.frz k->G k) ->
    ∃ r,bL w G ps o'.val M r/\(∀ k,r.flatten.count k=(aY W o'.kill).count k+((bG (t+1) ps).map W.β).count k)/\(∀ z∈o'.frz,aB st z)/\(∀ z∈o'.kill,aB st z)/\∀ b∈bG (t+1) ps,live st b:=by
   intro o' ad e1 e2 b1;exact mH hV h a4 ps x.2 M a0 (t+1) o' h2 ad (by omega) (λz H=>a1 z (by rw[e1];exact H)) (λz H=>a2 z (by rw[e2];exact H)) b1
  cases pk with
  |io b =>
   simp only[ij]at y;split at y
   ·rename_i y1 y2 Z a6;simp only[BQ]at y;subst y;obtain⟨r,J,I,X,Y,O⟩:=mH hV h a4 ps x.2 M a0 (t+1) y2 h2 a6 (by omega) (λz H=>a1 z (BV _ H)) (λz H=>a2 z H) (λk hk=>hG k (dS.2 k hk));cases hb:decide ((au st (.tmp t)).1=bg b.isAgg) with
    |false=>rw[hb]at Z;cases Z
    |true =>
     rw[hb]at Z;simp only[cond_true]at Z;obtain⟨cs,h3,h4⟩:=cW h (.tmp t);rw[of_decide_eq_true hb]at h3;have hv:a.eval (.tmp t)=v:=a1 (t,v) (BW ..);rw[hv]at h3;obtain⟨g1,g2,g3⟩:=dP (pos:=0) h h4 Z;refine⟨aY W y1.kill::r,⟨?_,J⟩,λk=>?_,λz H=>(BR.1 H).elim (g2 z) (X z),λz H=>(BR.1 H).elim (g3 z) (Y z),O⟩
     ·unfold ju;rw[if_neg (by simp)];exact⟨cs,gF h3,g1.mono (λk hk=>hG k (dS.1 k hk))⟩
     ·rw[B9,CD,I k,dK,CD];show _=_+((bG (t+1) ps).map W.β).count k;omega
   ·cases y
  |iop b =>
   simp only[ij]at y;split at y
   ·rename_i y1 y2 Z a6;simp only[BQ]at y;subst y;obtain⟨r,J,I,X,Y,O⟩:=mH hV h a4 ps x.2 M a0 (t+1) y2 h2 a6 (by omega) (λz H=>a1 z (BV _ H)) (λz H=>a2 z (BV _ H)) (λk hk=>hG k (dS.2 k hk));obtain⟨g,c,E,b0,hv,_,_,_⟩:=h1;subst hv;obtain⟨a3,hβ⟩:=a2 (B0+t,uj (.pointer (some ⟨g,0,none⟩))) (BW ..);have hβ:W.β (B0+t)=g:=hβ;obtain⟨g1,g2,g3⟩:=dP (pos:=0) h (iD h (B0+t)) Z;rcases h.boxes (B0+t) a3.1 with ⟨h8,_⟩|⟨_,E',h8⟩
    ·have:=a3.2;rw[h8]at this;cases this
    ·refine⟨(g::aY W y1.kill)::r,⟨?_,J⟩,λk=>?_,λz H=>(BR.1 H).elim (g2 z) (X z),λz H=>(BR.1 H).elim (g3 z) (Y z),λb' a9=>?_⟩
     ·unfold ju;rw[if_pos rfl];exact⟨g,W.cs (B0+t),E',_,rfl,by rw[<- hβ];exact h8,g1.mono (λk hk=>hG k (dS.1 k hk)),rfl⟩
     ·rw[B9,CD,I k,dK,CD,Cj];show _=_+(W.β (B0+t)::(bG (t+1) ps).map W.β).count k;rw[Cj,hβ];omega
     ·rcases B7.1 a9 with rfl|a9
      ·exact a3
      ·exact O b' a9
   ·cases y
  |rd b =>
   obtain⟨r,J,I,X,Y,O⟩:=u o y rfl rfl hG;exact⟨[]::r,⟨rfl,J⟩,λk=>by rw[B9,CP];exact I k,X,Y,O⟩
  |own b =>
   obtain⟨r,J,I,X,Y,O⟩:=u o y rfl rfl hG;exact⟨[]::r,⟨rfl,J⟩,λk=>by rw[B9,CP];exact I k,X,Y,O⟩
  |rref b =>
   obtain⟨r,J,I,X,Y,O⟩:=u o y rfl rfl hG;exact⟨[]::r,⟨rfl,J⟩,λk=>by rw[B9,CP];exact I k,X,Y,O⟩
  |rref2 b =>
   obtain⟨r,J,I,X,Y,O⟩:=u o y rfl rfl hG;exact⟨[]::r,⟨rfl,J⟩,λk=>by rw[B9,CP];exact I k,X,Y,O⟩
  |fn As B =>
   obtain⟨r,J,I,X,Y,O⟩:=u o y rfl rfl hG;exact⟨[]::r,⟨rfl,J⟩,λk=>by rw[B9,CP];exact I k,X,Y,O⟩
  |clo f cs =>
   obtain⟨r,J,I,X,Y,O⟩:=u o y rfl rfl hG;exact⟨[]::r,⟨rfl,J⟩,λk=>by rw[B9,CP];exact I k,X,Y,O⟩
  |hol b c off =>
   obtain⟨r,J,I,X,Y,O⟩:=u o y rfl rfl hG;exact⟨[]::r,⟨rfl,J⟩,λk=>by rw[B9,CP];exact I k,X,Y,O⟩
end
section
variable {P:Program} {Γ:List Ctr} {T:TypeId->TI} {w:World} {ro:Nat->Prop}
theorem uU {fn:Func}{a:Act}{w:World}{r:List Value}(h:nL P a w fn.results.toList r):(results fn a.tmps).run P w=.ok (if h:r.toArray.size=1 then r.toArray[0] else .tuple r.toArray) w:=by
 have y:=r8 _ _ h;have e:results fn a.tmps=(fn.results.mapM (nK a) >>= λu=>pure (if h:u.size=1 then u[0] else .tuple u)):=by
  unfold results;congr 1
 have z:(fn.results.mapM (nK a)).run P w=.ok r.toArray w:=by
  rw[Array.mapM_eq_mapM_toList];simp[y]
 rw[e];simp only[Ce,z,CY,DF]
theorem BK (us:List Value):sA us (if h:us.toArray.size=1 then us.toArray[0] else .tuple us.toArray):=by
 match us with
 |[]=>rfl
 |[u]=>rfl
 |u::r::us =>
  rw[dif_neg (by simp)];rfl
theorem r9:∀ (ps:List PK) (t:Nat),(bG t ps).Nodup/\∀ b∈bG t ps,B0+t<=b
 |[],t=>⟨Co,by simp[bG]⟩
 |I::ps,t=>by
  obtain⟨u,y⟩:=r9 ps (t+1);have z:∀ b∈bG (t+1) ps,B0+t<=b:=λb r=>by have:=y b r;omega
  cases I with
  |iop a =>
   refine⟨CR.2 ⟨λH=>?_,u⟩,λb r=>?_⟩
   ·have:=y _ H;omega
   ·rcases B7.1 r with rfl|r
    ·exact C0 _
    ·exact z b r
  |_=>exact⟨u,z⟩
theorem BL {u:List RK}(h:qC u=true):u.countP RK.isBox<=1:=by
 unfold qC at h;split at h
 ·simp[RK.isBox]
 ·rw[C7.2]
  ·exact DL _
  ·intro r y;rw[CG]at h;have:=h r y;cases r <;> simp[RK.isV,RK.isBox]at this ⊢
theorem sa {β:Nat->Nat}:∀ {bs:List Nat},bs.Nodup->(∀ b∈bs,∀ u∈bs,β b=β u->b=u)->(bs.map β).Nodup
 |[],_,_=>Co
 |b::bs,z,H=>by
  rw[CR]at z;rw[CH,CR];refine⟨λI=>?_,sa z.2 (λx M y J=>H x (BV _ M) y (BV _ J))⟩;obtain⟨u,r,e⟩:=B4.1 I;have:=H u (BV _ r) b (BW ..) e;exact z.1 (by rw[<- this];exact r)
theorem yj (hT:TOk P T){c:Ctr}(bl:qC c.rs=true){vs:List Value}{J:List (List Nat)}{fn:Func}{nt:Nat}(hV:ay (gj w ro c.ps vs J nt)){x:ab c.ps}{pr:Nat->Prop}(b5:dg P w ro pr c.ps x vs J)(c2:c.ps.length<=nt){ex:Ex}{s1:St}{y:aj c.rs×ai c.ps}
  (r:c9 T c.ps c.rs c.fresh fn.results.toList ex s1=some y) {a:Act} {w':World} (u:Rel P (gj w ro c.ps vs J nt) s1 a w') :
  (ex=.normal\/ex=.ret)/\∃ v,(results fn a.tmps).run P w'=.ok v w'/\tP c w ro vs J y (.returned v) w':=by
 obtain⟨W,u⟩:=u;have b9:ex=.normal\/ex=.ret:=by
  cases ex with
  |normal=>exact .inl rfl
  |ret=>exact .inr rfl
  |exit id=>cases r
 refine⟨b9,?_⟩;have r:finR T c.ps c.rs c.fresh fn.results.toList s1=some y:=by
  rcases b9 with rfl|rfl <;> exact r
 unfold finR at r;split at r
 ·rename_i M O c3 c1;cases Y:aZ (M.kill++O.kill)&&dF (M.frz++O.frz) (M.kill++O.kill)&&(!c.fresh||!(M.p||O.p)) with
  |false=>rw[Y]at r;cases r
  |true =>
   rw[Y]at r;simp only[cond_true,BQ]at r;subst r;simp only[BS]at Y;obtain⟨⟨bb,bn⟩,ba⟩:=Y;let N:Nat->Prop:=λk=>W.nw k\/∃ z∈M.frz++O.frz,k∈W.bs z.1 z.2
   have hG:∀ (p:Bool) (a6:List (Nat×Nat)),(p=true->(M.p||O.p)=true)->(∀ z∈a6,z∈M.frz++O.frz)->∀ k,bo (gj w ro c.ps vs J nt) W p a6 k->N k\/(c.fresh=false/\ro k):=by
    intro p a6 hp H k I;rcases I with (I|⟨hq,I⟩)|⟨z,Z,I⟩
    ·exact .inl (.inl I)
    ·refine .inr ⟨?_,I⟩;rw[hp hq]at ba;simpa using ba
    ·exact .inl (.inr ⟨z,H z Z,I⟩)
   obtain⟨us,b2,bx,r1,r2,r3,r4,r5,r6,r7⟩:=ul hV hT u rfl c.rs fn.results.toList M c3 (G:=λk=>N k\/(c.fresh=false/\ro k)) (hG M.p M.frz (by intro h;simp[h]) (λz H=>BT _ H));obtain⟨b1,o1,o2,o3,o4,o5⟩:=mH hV u hV.nt c.ps x vs J 0 O b5 c1 (by rw[Ca];exact c2) (λz H=>u.fixt z H) (λz H=>u.fixb z H) (G:=λk=>N k\/(c.fresh=false/\ro k)) (hG O.p O.frz (by intro h;simp[h]) (λz H=>BU _ H));have a3:∀ z∈M.kill++O.kill,aB s1 z:=λz H=>(BR.1 H).elim (r7 z) (o4 z)
   have a1:∀ z∈M.frz++O.frz,aB s1 z:=λz H=>(BR.1 H).elim (r6 z) (o3 z)
   have a4:∀ k,k<w'.heap.size->¬ (gj w ro c.ps vs J nt).prot k->ql w w' J.flatten k:=by
    intro k I hp;refine⟨I,?_⟩;by_cases c4:k<w.heap.size
    ·right;apply CL;intro hn;exact hp ⟨c4,hn⟩
    ·exact .inl (by omega)
   have c5:∀ k,N k->ql w w' J.flatten k:=by
    rintro k (I|⟨z,H,I⟩)
    ·exact a4 k (u.nwlt k I).1 (u.nwlt k I).2
    ·obtain⟨l,h7,h8⟩:=a1 z H;exact a4 k (u.own_lt h7 h8 k I) (u.ownb z.1 z.2 l h7 h8 k I).2.1
   have X:∀ b∈bx++bG 0 c.ps,live s1 b:=λb R=>(BR.1 R).elim (λR=>(r4 b R).1) (o5 b)
   have b6:(bx++bG 0 c.ps).Nodup:=by
    rw[CX];refine⟨?_,(r9 c.ps 0).1,λb R b' b0 e=>?_⟩
    ·have:=BL bl;rw[<- r5]at this
     match bx,this with
     |[],_=>exact Co
     |[b],_=>simp
    ·subst e;have:=Cq.1 (r4 b R).2 b b0;simp at this
   have b3:=sa (β:=W.β) b6 (λb R b' b0 e=>u.inj b b' (X b R) (X b' b0) e);have a5:∀ k,(b1.flatten++b2.flatten).count k=(aY W (M.kill++O.kill)).count k+((bx++bG 0 c.ps).map W.β).count k:=λk=>by
    rw[CD,o2 k,r3 k,dK,CD,Ci,CD];omega
   have c0:=bt.1 (gT u bb a3);have b4:∀ k∈b1.flatten++b2.flatten,(∃ z∈M.kill++O.kill,k∈W.bs z.1 z.2)\/∃ b,live s1 b/\W.β b=k:=λk I=>by
    have h5:=CF.2 I;rw[a5 k]at h5;by_cases h6:k∈aY W (M.kill++O.kill)
    ·exact .inl (gq.1 h6)
    ·have:=Cp.2 h6;obtain⟨b,R,e⟩:=B4.1 (CF.1 (show 0<((bx++bG 0 c.ps).map W.β).count k by omega));exact .inr ⟨b,X b R,e⟩
   refine⟨_,uU r1,_,us,N,b1,b2,rfl,BK us,u.size,u.os,u.tape,u.output,λk h1 h2=>u.keep k ⟨h1,h2⟩,c5,o1,r2,bt.2 λk=>?_,λk I=>?_⟩
   ·rw[a5 k];have h5:=c0 k;have h6:=bt.1 b3 k;by_cases h7:k∈(bx++bG 0 c.ps).map W.β
    ·have:(aY W (M.kill++O.kill)).count k=0:=Cp.2 λhm=>by
      obtain⟨b,R,e⟩:=B4.1 h7;obtain⟨z,H,a0⟩:=gq.1 hm;obtain⟨l,hl,ho⟩:=a3 z H;exact (u.ownb z.1 z.2 l hl ho k a0).2.2 b (X b R) e
     omega
    ·have:=Cp.2 h7;omega
   ·rcases b4 k I with ⟨z,H,a0⟩|⟨b,R,e⟩
    ·obtain⟨l,hl,ho⟩:=a3 z H;have h9:=u.ownb z.1 z.2 l hl ho k a0;refine⟨a4 k (u.own_lt hl ho k a0) h9.2.1,?_⟩;rintro (hn|⟨z',Z,a2⟩)
     ·exact h9.1 hn
     ·obtain⟨l',ad,a9⟩:=a1 z' Z;obtain⟨e1,e2⟩:=u.sep z.1 z.2 l z'.1 z'.2 l' hl ho ad a9 k a0 a2;exact nQ bn z' Z (by rw[show z'=z from Prod.ext e1.symm e2.symm];exact H)
    ·subst e;have h9:=u.box b R;refine⟨a4 _ (u.box_lt R) h9.2,?_⟩;rintro (hn|⟨z',Z,a2⟩)
     ·exact h9.1 hn
     ·obtain⟨l',ad,a9⟩:=a1 z' Z;exact (u.ownb z'.1 z'.2 l' ad a9 _ a2).2.2 b R rfl
 ·cases r
theorem kb:∀ {ps:List PK} {u:List Value} {t:Nat} {z:Nat×Value},z∈ee t ps u->z.1∈gp t ps
 |[],_,_,_,h=>by simp[ee]at h
 |r::ps,[],_,_,h=>by cases r <;> simp[ee]at h
 |r::ps,v::u,t,z,h=>by
  cases r <;> simp only[ee,gp,B7]at h ⊢ <;> first
   |exact kb h
   |exact h.imp (λe=>by rw[e]) kb
theorem kc:∀ {ps:List PK} {u:List Value} {t:Nat} {z:Nat×Nat},z∈ea t ps u->z.1∈bG t ps
 |[],_,_,_,h=>by simp[ea]at h
 |r::ps,[],_,_,h=>by cases r <;> simp[ea]at h
 |r::ps,v::u,t,z,h=>by
  cases r <;> simp only[ea,bG,B7]at h ⊢ <;> first
   |exact kc h
   |exact h.imp (λe=>by rw[e]) kc
theorem dr {f:FuncId}{fn:Func}{c:Code}(z:P.funcs[f]?=some fn)(H:(fn.name== "runtime.NumGoroutine")=false) (y:fn.body=some c):fW P f:=by
 intro u w;have r:fn.name≠ "runtime.NumGoroutine" := by simpa using H
 simp[callFunc,z,r,y]
theorem pD (hT:TOk P T)(hΓ:∀ c∈Γ,bP P c)(a0:P.follows .mixedOrders=true){c:Ctr}{fn:Func}(hf:P.funcs[c.f]?=some fn)(hn:(fn.name== "runtime.NumGoroutine")=false)
  {L:List (Nat×List (Nat×List Coe))} {R:Nat} (M:fn.body.isSome=true) (O:∀ x,evF Γ T L R fn c.ps c.rs c.fresh x=c.den x):bP P c:=by
 obtain⟨u,M⟩:=Option.isSome_iff_exists.1 M;refine⟨dr hf hn M,λw ro x vs a3 y H a4 a2 J=>?_⟩;rw[<- O]at J;unfold evF at J;simp only[M]at J;cases r:dQ fn.ntmps (gp 0 c.ps) u&&C4 c.ps.length fn.ntmps&&C4 fn.ntmps GH&&qC c.rs&&dt L (bG 0 c.ps) u with
 |false=>simp[r]at J
 |true =>
  simp only[r,cond_true]at J;simp only[BS]at r;obtain⟨⟨⟨⟨h1,h2⟩,h3⟩,h4⟩,h5⟩:=r;have h2:=CM h2;have h3:=CM h3;have hV:ay (gj w ro c.ps vs a3 fn.ntmps):=⟨λk hk=>a4 k hk,h3⟩;have Y:=vI (P:=P) (ro:=ro) H a2 h2 h3;refine calls_of_wp hf M ?_;rw[DG];refine sD hV hT hΓ a0 (λz hz=>kc hz) (nt:=fn.ntmps) (fix:=gp 0 c.ps) rfl (λz hz=>kb hz) u h1 h5 _ _ y _ J (λex s1 Z a' w' hr=>?_) _ _ Y;obtain⟨a1,v,X,I⟩:=yj hT h4 hV H h2 Z hr;have a5:a'.defers=[]:=by obtain⟨W,hr⟩:=hr;exact hr.df
  rcases a1 with rfl|rfl <;> exact⟨a5,v,X,I⟩
end
section
variable {P:Program}
def szB (P:Program)(t:TypeId)(n:Nat):Bool :=
 match P.info? t with
 |some i=>BZ i.size n
 |none=>false
theorem fT {t:TypeId}{n:Nat}(h:szB P t n=true):bQ P t n:=by
 unfold szB at h;unfold bQ;split at h
 ·rename_i i r;rw[r];simp only[CJ];rw[BX h]
 ·cases h
def um (P:Program)(t:TypeId)(agg:Bool):Bool :=
 match P.underlying t with
 |some (.struct _)|some (.array _ _)=>agg
 |some _=>!agg
 |none=>false
theorem re {t:TypeId}{agg:Bool}(h:um P t agg=true):(P.underlying t).map (λd=>match d with|.struct _|.array _ _=>true|_=>false)=some agg:=by
 unfold um at h;split at h
 ·rename_i r;rw[r];simp[h]
 ·rename_i r;rw[r];simp[h]
 ·rename_i d u y r;rw[r];simp only[CJ,BQ];cases agg with
  |true=>cases h
  |false =>
   cases d <;> first|rfl|(exact absurd r (u _))|(exact absurd r (y _ _))
 ·cases h
theorem AR {t:TypeId}{agg:Bool}(h:(P.underlying t).map (λd=>match d with|.struct _|.array _ _=>true|_=>false)=some agg)(w:World):(isAgg t).run P w=.ok agg w:=by
 unfold isAgg;cases r:P.underlying t with
 |none=>simp[r]at h
 |some u =>
  rw[r]at h;simp only[CJ,BQ]at h;subst h;rw[Ce,run_underlying r w];cases u <;> rfl
def lM (P:Program)(f:Field)(off:Nat)(b:Ty):Bool:=(f.name != "_")&&BZ f.offset off&&szB P f.type b.cells&&um P f.type b.isAgg
def eqF (P:Program)(g:Ty->TypeId->Bool):List Field->Nat->Ty->Bool
 |[],_,_=>false
 |[f],off,b=>lM P f off b&&g b f.type
 |f::r,off,.pair b c=>lM P f off b&&g b f.type&&eqF P g r (off+b.cells) c
 |_,_,_=>false
def eqT (P:Program):Nat->Ty->TypeId->Bool
 |0,_,_=>false
 |n+1,a,t=>match a with
  |.int k=>(match P.underlying t with|some (.int k')=>decide (k'=k)|_=>false)
  |.bool=>(match P.underlying t with|some .bool=>true|_=>false)
  |.str=>(match P.underlying t with|some .string=>true|_=>false)
  |.pair b c=>(match P.underlying t with|some (.struct fs)=>!P.stoodInHeld t&&eqF P (eqT P n) fs.toList 0 (.pair b c)|_=>false)
  |_=>false
theorem zz:∀ (b:Ty),b.isAgg=false->b.cells=1
 |.int _,_=>rfl
 |.bool,_=>rfl
 |.str,_=>rfl
 |.list _ _ _,_=>rfl
 |.hdr,_=>rfl
 |.unit,h=>by cases h
 |.pair _ _,h=>by cases h
theorem mI {f:Field}{off:Nat}{b:Ty}(h:lM P f off b=true){xs p c s:List Value}(J:xs=p++c++s)(M:p.length=off)(H:c.length=b.cells)(w:World) :
  ∃ v,(part f.type xs.toArray f.offset).run P w=.ok v w/\di b.isAgg v c:=by
 unfold lM at h;simp only[BS]at h;obtain⟨⟨⟨_,y⟩,X⟩,R⟩:=h;have y:=BX y;have r:=AR (re R) w;have I:=dx (fT X) w;have u:(xs.drop off).take b.cells=c:=by
  rw[J,CN,<- M,List.drop_left,<- H,List.take_left]
 cases z:b.isAgg with
 |true =>
  rw[z]at r;refine⟨.agg c.toArray,?_,rfl⟩;have e:xs.toArray.extract off (off+b.cells)=c.toArray:=by
   rw[List.extract_toArray,List.extract_eq_take_drop,Nat.add_sub_cancel_left,u]
  simp only[part,Ce,r,CY,if_true,I,DF,y,e]
 |false =>
  rw[z]at r;have O:=zz b z;rw[O]at H
  match c,H with
  |[v],_ =>
   refine⟨v,?_,rfl⟩;have e:xs.toArray[off]?=some v:=by
    simp only[List.getElem?_toArray];rw[J,CN,CI (by omega)];simp[M]
   simp only[part,Ce,r,CY,Ck,if_false,y,e,DF]
def zS (P:Program)(d:Nat)(b:Ty)(t:TypeId):Prop:=∀ (w:World) (G:Nat->Prop) (x y:b.den) (z u:Value) (r H:List Value),di b.isAgg z r->Rd w G b x r->di b.isAgg u H->Rd w G b y H ->
 (Op.equalIn d t z u).run P w=.ok (b.eqv x y) w
theorem yk {d:Nat}{g:Ty->TypeId->Bool}(hg:∀ b t,g b t=true->zS P d b t):∀ (fs:List Field) (off:Nat) (b:Ty),eqF P g fs off b=true->∀ (w:World) (G:Nat->Prop) (x y:b.den) (z R H M:List Value),
  z.length=off->H.length=off->Rd w G b x R->Rd w G b y M->(Op.eqFields d (z++R).toArray (H++M).toArray fs).run P w=.ok (b.eqv x y) w
 |[],_,_,h=>by simp[eqF]at h
 |[f],off,b,h=>by
  intro w G x y z R H M u r hx hy;simp only[eqF,BS]at h;obtain⟨v1,h1,h2⟩:=mI h.1 (xs:=z++R) (p:=z) (c:=R) (s:=[]) (by simp) u hx.len w;obtain⟨v2,h3,h4⟩:=mI h.1 (xs:=H++M) (p:=H) (c:=M) (s:=[]) (by simp) r hy.len w;have h5:=hg b f.type h.2 w G x y v1 v2 R M h2 hx h4 hy;have hn:f.name≠ "_" := by
   have:=h.1;unfold lM at this;simp only[BS]at this;simpa using this.1.1.1
  simp only[Op.eqFields,if_pos hn,Ce,h1,h3,h5,CY];cases b.eqv x y <;> simp
 |f::I::fs,off,.pair b c,h=>by
  intro w G x y z R H M u r hx hy;simp only[eqF,BS]at h;obtain⟨⟨Y,a0⟩,O⟩:=h;obtain⟨Z,c2,rfl,J,a1⟩:=hx;obtain⟨d1,d2,rfl,X,a2⟩:=hy;obtain⟨v1,h1,h2⟩:=mI Y (xs:=z++(Z++c2)) (p:=z) (c:=Z) (s:=c2) (by simp) u J.len w;obtain⟨v2,h3,h4⟩:=mI Y (xs:=H++(d1++d2)) (p:=H) (c:=d1) (s:=d2) (by simp) r X.len w;have h5:=hg b f.type a0 w G x.1 y.1 v1 v2 Z d1 h2 J h4 X;have h6:=yk hg (I::fs) (off+b.cells) c O w G x.2 y.2 (z++Z) c2 (H++d1) d2 (by simp[u,J.len]) (by simp[r,X.len]) a1 a2;rw[CN,CN]at h6;have hn:f.name≠ "_" := by
   unfold lM at Y;simp only[BS]at Y;simpa using Y.1.1.1
  rw[Op.eqFields];simp only[if_pos hn,Ce,h1,h3,h5,CY];show _=Result.ok (b.eqv x.1 y.1&&c.eqv x.2 y.2) w;cases b.eqv x.1 y.1 with
  |false=>simp
  |true=>simpa using h6
 |f::I::fs,off,.int _,h=>by simp[eqF]at h
 |f::I::fs,off,.bool,h=>by simp[eqF]at h
 |f::I::fs,off,.str,h=>by simp[eqF]at h
 |f::I::fs,off,.unit,h=>by simp[eqF]at h
 |f::I::fs,off,.list _ _ _,h=>by simp[eqF]at h
 |f::I::fs,off,.hdr,h=>by simp[eqF]at h
theorem sb (x y:ByteArray):(x==y)=decide (x=y):=by
 rw[beq_toListBytes];by_cases h:x=y
 ·subst h;simp
 ·rw[decide_eq_false h];cases r:(x.toList==y.toList) with
  |false=>rfl
  |true =>
   exfalso;apply h;have:=eq_of_beq r;rw[C8,C8]at this;apply ByteArray.ext;exact Array.ext' this
theorem yl:∀ (n:Nat) (a:Ty) (t:TypeId),eqT P n a t=true->∀ d,n<=d->zS P d a t
 |0,_,_,h=>by simp[eqT]at h
 |n+1,a,t,h=>by
  intro d hd;obtain⟨d,rfl⟩:∃ d',d=d'+1:=⟨d-1,by omega⟩;intro w G x y O R J I u H r z;cases a with
  |int k =>
   simp only[eqT]at h;split at h
   ·rename_i Y M;have hk:=of_decide_eq_true h;subst hk;have H:J=[.int Y x]:=H;have z:I=[.int Y y]:=z;have u:J=[O]:=u;have r:I=[R]:=r;rw[H]at u;rw[z]at r;simp at u r;subst u;subst r;simp[Op.equalIn,run_underlying M,Ty.eqv];rfl
   ·cases h
  |bool =>
   simp only[eqT]at h;split at h
   ·rename_i M;have H:J=[.bool x]:=H;have z:I=[.bool y]:=z;have u:J=[O]:=u;have r:I=[R]:=r;rw[H]at u;rw[z]at r;simp at u r;subst u;subst r;simp[Op.equalIn,run_underlying M,Ty.eqv]
   ·cases h
  |str =>
   simp only[eqT]at h;split at h
   ·rename_i M;have H:J=[.string x]:=H;have z:I=[.string y]:=z;have u:J=[O]:=u;have r:I=[R]:=r;rw[H]at u;rw[z]at r;simp at u r;subst u;subst r;have:=sb x y;simp[Op.equalIn,run_underlying M,Ty.eqv,this]
   ·cases h
  |pair b c =>
   simp only[eqT]at h;split at h
   ·rename_i X M;simp only[BS,CU]at h;have Z:P.fieldsOf t=X:=by simp[Program.fieldsOf,M]
    have u:O=.agg J.toArray:=u;have r:R=.agg I.toArray:=r;subst u;subst r;rw[run_equalIn_struct (P:=P) w d t _ _ (by rw[Z];exact M) h.1,Z];have:=yk (P:=P) (λb t hb=>yl n b t hb d (by omega)) X.toList 0 (.pair b c) h.2 w G x y [] J [] I rfl rfl H z;simpa using this
   ·cases h
  |unit=>simp[eqT]at h
  |hdr=>simp[eqT]at h
  |list m E e=>simp[eqT]at h
theorem AS {t:TypeId}{a:Ty}(h:eqT P 64 a t=true)(z:a.isAgg=true):EqAt P t a:=by
 intro _ w G x y r u I H;have:=yl 64 a t h Op.maxDepth (by decide) w G x y (.agg r.toArray) (.agg u.toArray) r u (by rw[z];rfl) I (by rw[z];rfl) H;exact this
def wW:Value->Value->Bool
 |.int k n,.int r y=>decide (k=r)&&decide (n=y)
 |.bool b,.bool u=>b==u
 |.string s,.string z=>decide (s.toList=z.toList)
 |.slice none 0 0,.slice none 0 0=>true
 |.pointer none,.pointer none=>true
 |.nilFunc,.nilFunc=>true
 |_,_=>false
def kS:List Value->List Value->Bool
 |[],[]=>true
 |v::r,u::y=>wW v u&&kS r y
 |_,_=>false
theorem zA {v u:Value}(h:wW v u=true):v=u:=by
 unfold wW at h;split at h
 ·simp only[BS,decide_eq_true_eq]at h;rw[h.1,h.2]
 ·rw[eq_of_beq h]
 ·rename_i s y;have:s=y:=by
   have r:=sb s y;rw[beq_toListBytes,of_decide_eq_true h]at r;simpa using r.symm
  rw[this]
 ·rfl
 ·rfl
 ·rfl
 ·cases h
theorem mJ:∀ {r us:List Value},kS r us=true->r=us
 |[],[],_=>rfl
 |v::r,u::us,h=>by
  simp only[kS,BS]at h;rw[zA h.1,mJ h.2]
 |[],_::_,h=>by simp[kS]at h
 |_::_,[],h=>by simp[kS]at h
def zB (P:Program)(t:TypeId)(agg:Bool)(cs:List Value):Bool :=
 match P.info? t with
 |some i=>match i.zero with
  |some (.agg r)=>agg&&kS r.toList cs
  |some v=>!agg&&kS [v] cs
  |none=>false
 |none=>false
theorem ym {t:TypeId}{cs:List Value}(h:zB P t true cs=true):d7 P t (.agg cs.toArray):=by
 unfold zB at h;unfold d7;split at h
 ·rename_i i u;rw[u];split at h
  ·rename_i y r;simp only[DA]at h;rw[CJ,r,<- mJ h,Array.toArray_toList]
  ·cases h
  ·cases h
 ·cases h
theorem lN {t:TypeId}{v:Value}(h:zB P t false [v]=true):d7 P t v:=by
 unfold zB at h;unfold d7;split at h
 ·rename_i i y;rw[y];split at h
  ·cases h
  ·rename_i u _ r;simp only[DQ,DA]at h;have:=mJ h;simp only[Cw,and_true]at this;rw[CJ,r,this]
  ·cases h
 ·cases h
def ki (P:Program)(n:Nat):List Field->List (Nat×Nat×Bool)->Bool
 |[],[]=>true
 |f::r,(off,k,agg)::u=>BZ f.offset off&&szB P f.type k&&um P f.type agg&&Cv 0 k&&C4 (off+k) n&&(agg||BZ k 1)&&ki P n r u
 |_,_=>false
def isU8:Ty->Bool
 |.int .u8=>true
 |_=>false
def u8B (P:Program)(E:TypeId):Bool :=
 match P.underlying E with
 |some (.int .u8)=>true
 |_=>false
def tiB (P:Program)(t:TypeId):TI->Bool
 |.int k=>(match P.underlying t with|some (.int k')=>decide (k'=k)|_=>false)&&szB P t 1&&zB P t false [.int k 0]
 |.bool=>(match P.underlying t with|some .bool=>true|_=>false)&&szB P t 1&&zB P t false [.bool false]
 |.str=>(match P.underlying t with|some .string=>true|_=>false)&&szB P t 1&&zB P t false [.string ByteArray.empty]
 |.slice E e r=>(match P.underlying t with|some (.slice E')=>BZ E' E|_=>false)&&szB P t 1&&zB P t false [.slice none 0 0]&&Cv 0 e.cells&&Cv 0 r &&
  szB P E e.cells&&(match P.info? E with | some i=>BZ i.bytes r&&(match i.zero with | some z=>kS z.cells.toList (zeroCells e) | none=>false) | none=>false)&&(!isU8 e||u8B P E)
 |.arr e n=>(match P.underlying t with|some (.array m E)=>BZ m n&&szB P E e.cells&&um P E e.isAgg|_=>false)&&Cv 0 e.cells&&szB P t (n*e.cells)&&zB P t true (List.replicate n (zeroCells e)).flatten
 |.struct a u=>(match P.underlying t with | some (.struct y)=>ki P a.cells y.toList u | _=>false)&&szB P t a.cells&&zB P t true (zeroCells a)&&a.isAgg&&(!a.flat||eqT P 64 a t)&&!P.eqGuardType P.depth t
 |.ptr=>(match P.underlying t with|some (.pointer _)=>true|_=>false)&&szB P t 1&&zB P t false [.pointer none]
 |.fn=>(match P.underlying t with|some (.func _ _ _)=>true|_=>false)&&szB P t 1&&zB P t false [.nilFunc]
 |.none=>true
theorem qx {n:Nat}:∀ {fs:List Field} {xs:List (Nat×Nat×Bool)},ki P n fs xs=true ->
  fs.mapM (λf=>(P.info? f.type).map λi=>(f.offset,i.size))=some (xs.map λx=>(x.1,x.2.1)) /\
  ∀ (i off k:Nat) (agg:Bool),xs[i]?=some (off,k,agg)->(agg=false->k=1)/\∃ f:Field,fs[i]?=some f/\f.offset=off/\0<k/\off+k<=n/\bQ P f.type k /\
   (P.underlying f.type).map (λd=>match d with|.struct _|.array _ _=>true|_=>false)=some agg
 |[],[],_=>⟨rfl,λi off k agg h=>by simp at h⟩
 |[],_::_,h=>by simp[ki]at h
 |_::_,[],h=>by simp[ki]at h
 |f::fs,(off,k,agg)::xs,h=>by
  simp only[ki,BS,Ch]at h;obtain⟨⟨⟨⟨⟨⟨H,Z⟩,h3⟩,O⟩,h5⟩,u⟩,Y⟩:=h;have H:=BX H;have r:=fT Z;obtain⟨h8,M⟩:=qx Y;constructor
  ·unfold bQ at r;cases J:P.info? f.type with
   |none=>rw[J]at r;cases r
   |some i =>
    rw[J]at r;simp only[CJ,BQ]at r;simp[C3,J,h8,r,H]
  ·intro i y X z I;cases i with
   |zero =>
    simp at I;obtain⟨rfl,rfl,rfl⟩:=I;refine⟨λha=>?_,f,rfl,H,by simpa[Cc]using O,CM h5,r,re h3⟩;rcases u with u|u
    ·rw[ha]at u;cases u
    ·exact BX u
   |succ i =>
    obtain⟨q1,R,q2,q3⟩:=M i y X z (by simpa using I);exact⟨q1,R,by simpa using q2,q3⟩
theorem BM {t:TypeId}{i:TI}(h:tiB P t i=true):oV P t i:=by
 cases i with
 |none=>trivial
 |int k =>
  simp only[tiB,BS]at h;obtain⟨⟨r,H⟩,I⟩:=h;split at r
  ·rename_i k' u;rw[of_decide_eq_true r]at u;exact⟨u,fT H,lN I⟩
  ·cases r
 |bool =>
  simp only[tiB,BS]at h;obtain⟨⟨r,H⟩,I⟩:=h;split at r
  ·rename_i u;exact⟨u,fT H,lN I⟩
  ·cases r
 |str =>
  simp only[tiB,BS]at h;obtain⟨⟨r,H⟩,I⟩:=h;split at r
  ·rename_i u;exact⟨u,fT H,lN I⟩
  ·cases r
 |ptr =>
  simp only[tiB,BS]at h;obtain⟨⟨r,H⟩,I⟩:=h;split at r
  ·rename_i e u;exact⟨⟨e,u⟩,fT H,lN I⟩
  ·cases r
 |fn =>
  simp only[tiB,BS]at h;obtain⟨⟨r,H⟩,I⟩:=h;split at r
  ·rename_i x y z u;exact⟨⟨x,y,z,u⟩,fT H,lN I⟩
  ·cases r
 |slice E e a0 =>
  simp only[tiB,BS]at h;obtain⟨⟨⟨⟨⟨⟨⟨r,H⟩,I⟩,Y⟩,M⟩,Z⟩,R⟩,J⟩:=h;have a1:e=.int .u8->P.underlying E=some (.int .u8):=by
   intro he;subst he;have J:u8B P E=true:=by simpa[isU8]using J
   unfold u8B at J;split at J
   ·rename_i hq;exact hq
   ·cases J
  split at r
  ·rename_i E' u;rw[BX r]at u;split at R
   ·rename_i ti X;simp only[BS]at R;obtain⟨h8,h9⟩:=R;split at h9
    ·rename_i z hz;have O:=fT Z;unfold bQ at O;rw[X]at O;simp only[CJ,BQ]at O;exact⟨u,fT H,lN I,by simpa[Cc]using Y,⟨by simpa[Cc]using M,a1⟩,ti,z,X,O,BX h8,hz,mJ h9⟩
    ·cases h9
   ·cases R
  ·cases r
 |arr e n =>
  simp only[tiB,BS]at h;obtain⟨⟨⟨r,H⟩,I⟩,Y⟩:=h;split at r
  ·rename_i m E u;simp only[BS]at r;obtain⟨⟨M,Z⟩,R⟩:=r;rw[BX M]at u;exact⟨⟨E,u,fT Z,re R⟩,by simpa[Cc]using H,fT I,ym Y⟩
  ·cases r
 |struct a a2 =>
  simp only[tiB,BS,Ch,CU]at h;obtain⟨⟨⟨⟨⟨r,H⟩,I⟩,Y⟩,M⟩,Z⟩:=h;split at r
  ·rename_i fs u;obtain⟨R,h8⟩:=qx r;refine⟨⟨fs,u,R,λi off n agg hx=>?_⟩,fT H,ym I,?_,Z⟩
   ·obtain⟨q1,f,q2,q3⟩:=h8 i off n agg hx;exact⟨q1,f,by simpa using q2,q3⟩
   ·intro hf;rcases M with M|M
    ·rw[hf]at M;cases M
    ·exact AS M Y hf
  ·cases r
def tlB (P:Program):List (TypeId×TI)->Bool
 |[]=>true
 |x::l=>tiB P x.1 x.2&&tlB P l
theorem ia:∀ {l:List (TypeId×TI)},tlB P l=true->TOk P (gf l):=by
 intro l h;refine sO ?_;induction l with
 |nil=>simp
 |cons x l u =>
  simp only[tlB,BS]at h;intro y r;rcases B7.1 r with rfl|r
  ·exact BM h.1
  ·exact u h.2 y r
end
section
variable {P:Program} {T:TypeId->TI}
theorem nM (hT:TOk P T)(M:P.follows .mixedOrders=true){f:FuncId}{fn:Func}(hf:P.funcs[f]?=some fn)(hn:(fn.name== "runtime.NumGoroutine")=false) {E:TypeId} {e:Ty} {rs:List RK} {r:Bool}
  {R:ab [PK.rd (.list false E e)]->Option (aj rs×ai [PK.rd (.list false E e)])} {R0 A B C:Code} {rid:Nat} {o0 o1:Oper} {d0 q t t':Nat} {x0:Operand} {L:List (Nat×List (Nat×List Coe))} {K:Nat}
  (hb:fn.body=some (.seq R0 (.seq (.seq (.region rid #[o0,o1] false) (.cond (.tmp q) A B)) C))) (b3:o0.guard=none) (d1:o0.op=.move x0) (ba:o1.op=.binOp .eql t (.tmp d0) (.const (.slice none 0 0)) t') (cb:o1.guard=none) (b2:o1.dst=some q)
  {E':TypeId} (ht:P.underlying t=some (.slice E'))
  (a5:(dQ fn.ntmps [] (.seq R0 (.seq (.seq (.region rid #[o0,o1] false) (.cond (.tmp q) A B)) C))&&C4 1 fn.ntmps&&C4 fn.ntmps GH&&qC rs&&dt L [] (.seq R0 (.seq (.seq (.region rid #[o0,o1] false) (.cond (.tmp q) A B)) C)))=true)
  {S1:ab [PK.rd (.list false E e)]->St}
  (b5:∀ x,evK [] T L K R0 (av (dn 0 [PK.rd (.list false E e)] x)) (qA (λs _=>act [] T o0 s (λU=>some (ac U s))) (λ_ _=>none))=some (S1 x))
  (a0:∀ x,one (S1 x) (.tmp d0)=.ro true E e x.1)
  (hF:∀ x,evK [] T L K (.seq (.cond (.tmp q) A B) C) (ac (cm (S1 x) [] q .one [.bool false]) (S1 x)) (c9 T [PK.rd (.list false E e)] rs r fn.results.toList)=R x)
  (c0:∀ x y,x.1=[]->R x=some y->evK [] T L K (.seq (.cond (.tmp q) A B) C) (ac (cm (S1 x) [] q .one [.bool true]) (S1 x)) (c9 T [PK.rd (.list false E e)] rs r fn.results.toList)=some y) :
  bP P ⟨f,[PK.rd (.list false E e)],rs,r,R⟩:=by
 refine⟨dr hf hn hb,λw ro x vs u y Z c2 cp hy=>?_⟩;simp only[BS]at a5;obtain⟨⟨⟨⟨h1,h2⟩,h3⟩,h4⟩,h5⟩:=a5;have h2:=CM h2;have h3:=CM h3;have hV:ay (gj w ro [PK.rd (.list false E e)] vs u fn.ntmps):=⟨λk hk=>c2 k hk,h3⟩;have bn:=vI (P:=P) (ro:=ro) Z cp h2 h3;have hnoΓ:∀ c∈([]:List Ctr),bP P c:=by simp
 have b0:∀ z∈(gj w ro [PK.rd (.list false E e)] vs u fn.ntmps).fixb,z.1∈([]:List Nat):=λz hz=>kc (ps:=[PK.rd (.list false E e)]) hz
 have O:∀ z∈(gj w ro [PK.rd (.list false E e)] vs u fn.ntmps).fixt,z.1∈([]:List Nat):=λz hz=>kb (ps:=[PK.rd (.list false E e)]) hz
 simp only[dQ,BS]at h1;simp only[dt,BS]at h5;obtain⟨c3,⟨b9,c4⟩,c5⟩:=h1;obtain⟨cu,⟨_,cx⟩,c1⟩:=h5;refine calls_of_wp hf hb ?_;rw[DG];generalize cc:bodyPost P fn (tP ⟨f,[PK.rd (.list false E e)],rs,r,R⟩ w ro vs u y)=Q;have hQ:∀ ex s1,c9 T [PK.rd (.list false E e)] rs r fn.results.toList ex s1=some y->∀ a I,Rel P (gj w ro [PK.rd (.list false E e)] vs u fn.ntmps) s1 a I->Q (exOf ex) a I:=by
  intro ex s1 b6 a' I J;obtain⟨cw,v,X,b1⟩:=yj (c:=⟨f,[PK.rd (.list false E e)],rs,r,R⟩) hT h4 hV Z h2 b6 J;have cy:a'.defers=[]:=by obtain⟨W,J⟩:=J;exact J.df
  subst cc;rcases cw with rfl|rfl <;> exact⟨cy,v,X,b1⟩
 have a6:∀ (b:Bool),evK [] T L K (.seq (.cond (.tmp q) A B) C) (ac (cm (S1 x) [] q .one [.bool b]) (S1 x)) (c9 T [PK.rd (.list false E e)] rs r fn.results.toList)=some y ->
   ∀ a I,Rel P (gj w ro [PK.rd (.list false E e)] vs u fn.ntmps) (ac (cm (S1 x) [] q .one [.bool b]) (S1 x)) a I->(Code.cond (.tmp q) A B).wp P (Exit.then (C.wp P Q) Q) a I:=by
  intro b a9 a I J;refine sD hV hT hnoΓ M b0 (nt:=fn.ntmps) (fix:=[]) rfl O (.cond (.tmp q) A B) (by simp only[dQ,BS];exact c4) (by simp only[dt,BS];exact cx) _ _ y _ a9 (λex s1 H a I J=>?_) a I J;cases ex with
  |normal=>exact sD hV hT hnoΓ M b0 (nt:=fn.ntmps) (fix:=[]) rfl O C c5 c1 s1 _ y Q H hQ a I J
  |exit bx=>exact hQ (.exit bx) s1 H a I J
  |ret=>exact hQ .ret s1 H a I J
 have a3:∀ (i:Nat) (o:Oper),(#[o0,o1]:Array Oper)[i]?=some o->lw fn.ntmps [] #[o0,o1] o=true:=λi o hi=>by
  simp only[CG]at b9;exact b9 o (by simpa using Cy hi)
 refine wp_seq (sD hV hT hnoΓ M b0 (nt:=fn.ntmps) (fix:=[]) rfl O R0 c3 cu _ _ (S1 x) _ (b5 x) (λex s0 H a I J=>?_) _ _ bn);cases ex with
 |exit bx=>cases H
 |ret=>cases H
 |normal =>
  have H:act [] T o0 s0 (λU=>some (ac U s0))=some (S1 x):=H;rw[tW]at H;obtain⟨U,hU,H⟩:=CO.1 H;simp only[BQ]at H;refine wp_seq (wp_seq (wp_region ?_));have a2:DP (#[o0,o1]:Array Oper).size=[0,1]:=rfl;rw[a2,wpOps_cons];refine wT hV hT hnoΓ (ops:=#[o0,o1]) (i:=0) (o:=o0) rfl (mF rfl O (a3 0 o0 rfl)) (λj d2 hg=>by rw[b3]at hg;cases hg) (U:=U) (by unfold mC;rw[b3];exact hU) J (λa1 w1 Y=>?_);rw[H]at Y;rw[wpOps_cons];obtain⟨W1,Y⟩:=Y;have a4:bN (gj w ro [PK.rd (.list false E e)] vs u fn.ntmps) o1:=mF rfl O (a3 1 o1 rfl);obtain⟨h7,_,_,_,_⟩:=br Y (.tmp d0) (by rw[a0 x];simp);rw[a0 x]at h7;obtain⟨A',bb,hv,_,c6⟩:=h7;have hv:a1.eval (.tmp d0)=.slice A' x.1.length bb:=by simpa using hv
  have bl:A'=none->x.1=[]:=λhA=>by
   cases hx:x.1 with
   |nil=>rfl
   |cons y ys =>
    obtain⟨g,o,b4,_⟩:=c6 (by rw[hx];simp);rw[hA]at b4;cases b4
  have a9:evK [] T L K (.seq (.cond (.tmp q) A B) C) (ac (cm (S1 x) [] q .one [.bool A'.isNone]) (S1 x)) (c9 T [PK.rd (.list false E e)] rs r fn.results.toList)=some y:=by
   cases hA:A' with
   |none=>exact c0 x y (bl hA) hy
   |some ad=>exact (hF x).trans hy
  have X:(execOp a1.eval o1).run P w1=.ok (.value (.bool A'.isNone)) w1:=by
   have:=Lib.run_eql_slice_nil (P:=P) w1 t E' A' x.1.length bb 0 0 ht;have hc:a1.eval (.const (.slice none 0 0))=.slice none 0 0:=rfl;simp[execOp,ba,hv,hc,eqGuard,this]
  unfold wpOp;have hi:(#[o0,o1]:Array Oper)[1]?=some o1:=rfl;simp only[hi];have hw:Region.wanted o1 (yielded #[o0,o1] a1.tmps)=true:=by simp[Region.wanted,cb]
  rw[if_pos hw];refine .inl (dY X ?_);rw[b2];show Exit.then _ _ _ _ _;exact a6 _ a9 _ _ (Y.putLs hV q (a4 q b2).1 (a4 q b2).2 _ .one [.bool A'.isNone] (.bool A'.isNone) [.bool A'.isNone] (CZ _) rfl ⟨⟨rfl,id,rfl⟩,trivial⟩)
end
open Go.ChangeShapes Go.WideShapes
section
variable {H:Type} {enc:TypeId×Value->H} {P:Program}
theorem mM (J:laidOutB P=true){W W':World}{M:Nat->Bool}:∀ {y:List TypeId} {I:List Value} {ds:List (DataW H)} {ps:List MemPlace},(∀ t∈y,P.readableRec t=true/\t<P.types.size) ->
  DataW.TrodAll enc P W 0 (λ_=>true) true y I ds ps->(∀ x∈ps,W.sameAt W' x)->(∀ x∈ps,M x.block=true)->DataW.TrodAll enc P W' 0 M true y I ds ps
 |[],[],[],_,_,h,_,_=>h
 |[],[],_::_,_,_,h,_,_=>h.elim
 |[],_::_,_,_,_,h,_,_=>h.elim
 |_::_,[],_,_,_,h,_,_=>h.elim
 |_::_,_::_,[],_,_,h,_,_=>h.elim
 |t::y,v::I,d::ds,ps,z,⟨p,q,R,Y,e⟩,O,u=>by
  subst e;refine⟨p,q,WideElems.Trod_stays J (z t (BW ..)).1 (z t (BW ..)).2 R (λx r=>O x (BT _ r)) (λx r=>u x (BT _ r)),
   mM J (λZ X=>z Z (BV _ X)) Y (λx r=>O x (BU _ r)) (λx r=>u x (BU _ r)),rfl⟩
theorem sl (hl:laidOutB P=true){f:Func}{s:ChangeSpec}{J Z y a0:Bool}{W W':World}{u:Array Value}{ds gs:List (DataW H)}{r:List MemPlace}
  (hW:DataW.Whole enc P f.params.toList s.vars J W u.toList ds gs r) (I:s.vars=[]) (hb:Below W.heap.size W W') (a1:∀ t∈f.params.toList,P.readableRec t=true/\t<P.types.size)
  {tb:TypeId} (O:f.resultTypes=#[tb]) (z:P.underlying tb=some .bool) (a2:(s.fn H (ds++gs)).results=[.lit (.bool true)]) (Y:(s.fn H (ds++gs)).args=ds) (a3:(s.fn H (ds++gs)).vars=[]) :
  s.post enc P f J Z y a0 W u (.bool true) W':=by
 have X:∀ p∈r,p.block<W.heap.size:=λp hp=>by simpa using hW.lt p hp
 have a5:=hW;obtain⟨p,q,hA,hV,e,hz,hn⟩:=hW;rw[I]at hV;obtain⟨rfl,rfl⟩:=trodVars_none hV;simp only[List.append_nil]at e;subst e;have R:∀ x∈r,W.sameAt W' x:=λx hx=>hb.same (X x hx)
 have a4:(Value.bool true).resultList f.resultTypes.size=[.bool true]:=by rw[O];rfl
 have hr:∀ (b:Nat) (M:Nat->Bool) (hd:Bool),DataW.TrodAll enc P W' b M hd f.resultTypes.toList ((Value.bool true).resultList f.resultTypes.size) (s.fn H (ds++[])).results []:=by
  intro b M hd;rw[a4,a2,O];exact trodAll_mk1 (shut_bool z true)
 have ha:∀ (M:Nat->Bool),(∀ x∈r,M x.block=true)->DataW.TrodAll enc P W' 0 M true f.params.toList u.toList (s.fn H (ds++[])).args r:=by
  intro M a9;rw[Y];exact mM hl a1 hA R a9
 have hv:∀ (M:Nat->Bool),DataW.TrodVars enc P W' M s.vars (s.fn H (ds++[])).vars []:=by
  intro M;rw[I,a3];rfl
 refine⟨ds,[],r,[],r,[],a5,hr _ _ _,ha _ (λx hx=>by simpa using X x hx),hv _,hb.frame _,λ_=>⟨ok_one O rfl (okWide_bool_mk z true),_,_,([]++r)++[],⟨[]++r,[],trodAll_append (ha _ (λ_ _=>rfl)) (hr _ _ _),hv _,rfl,?_,?_⟩,?_⟩⟩
 ·intro b off hp;have hp:MemPlace.cell b off∈r:=by simpa using hp
  rw[hb.frozen (p:=⟨b,off,none⟩) (X _ hp)];exact hz b off hp
 ·intro a6;have:=hn a6;simpa using this
 ·intro x hx _;simpa using hx
end
section
variable {H:Type} {enc:TypeId×Value->H} {P:Program} {w:World} {base:Nat} {spare:Nat->Bool} {held:Bool}
def shF (P:Program)(g:Ty->TypeId->Bool):List Field->Nat->Ty->Bool
 |[],_,_=>false
 |[f],off,b=>BZ f.offset off&&BZ (P.cellsOf f.type) b.cells&&g b f.type
 |f::r,off,.pair b c=>BZ f.offset off&&BZ (P.cellsOf f.type) b.cells&&g b f.type&&shF P g r (off+b.cells) c
 |_,_,_=>false
def shT (P:Program):Nat->Ty->TypeId->Bool
 |0,_,_=>false
 |n+1,a,t=>match a with
  |.int k=>(match P.underlying t with|some (.int k')=>decide (k'=k)|_=>false)
  |.bool=>(match P.underlying t with|some .bool=>true|_=>false)
  |.str=>(match P.underlying t with|some .string=>true|_=>false)
  |.pair b c=>(match P.underlying t with|some (.struct fs)=>shF P (shT P n) fs.toList 0 (.pair b c)&&BZ (P.cellsOf t) (b.cells+c.cells)|_=>false)
  |.list _ E e=>(match P.underlying t with|some (.slice E')=>BZ E' E&&BZ (P.cellsOf E) e.cells&&Cv 0 e.cells&&shT P n e E|_=>false)
  |.unit=>false
  |.hdr=>false
def Sm:(a:Ty)->a.den->Prop
 |.int k,n=>(Lit.int k n).wf=true
 |.pair a b,x=>Sm a x.1/\Sm b x.2
 |.list _ _ e,r=>r.length<=maxLen/\∀ x∈(r:List e.den),Sm e x
 |.bool,_=>True
 |.str,s=>s.size<=maxLen
 |.unit,_=>True
 |.hdr,_=>True
theorem kT {α β:Type}{f:α->Option β}:∀ (l:List α) (r:List β),l.mapM f=some r->r.length=l.length/\∀ (i:Nat) (x:α),l[i]?=some x->∃ y,f x=some y/\r[i]?=some y
 |[],r,h=>by
  simp at h;subst h;exact⟨rfl,λi x M=>by simp at M⟩
 |x::l,r,h=>by
  rw[C3]at h;cases z:f x with
  |none=>rw[z]at h;cases h
  |some y =>
   rw[z]at h;cases J:l.mapM f with
   |none=>rw[J]at h;cases h
   |some X =>
    rw[J]at h;cases h;obtain⟨O,R⟩:=kT l X J;refine⟨by simp[O],λi u I=>?_⟩;cases i with
    |zero=>simp at I;subst I;exact⟨y,z,rfl⟩
    |succ i=>simpa using R i u (by simpa using I)
theorem sd {a:Addr}{n:Nat}{cs:List Value}(h:w.cells? base a n=some cs):base<=a.block/\cs.length=n/\∀ i u,cs[i]?=some u->w.cell? (a.add i)=some u:=by
 unfold World.cells? at h;split at h
 ·rename_i J;obtain⟨r,M⟩:=kT _ _ h;refine⟨J,by simpa using r,λi u I=>?_⟩;have R:i<n:=by have:=(B3.1 I).1;rw[r]at this;simpa using this
  obtain⟨y,O,z⟩:=M i i (by simp[R]);rw[I]at z;cases z;exact O
 ·cases h
theorem oQ {g:Ty->TypeId->Bool}{rd:TypeId->List Value->Option (DataW H×List MemPlace)}
  (X:∀ b t,g b t=true->∀ cs d,rd t cs=some d->∃ x:b.den,Rd w (λk=>k<w.heap.size) b x cs/\Sm b x) :
  ∀ (fs:List Field) (off:Nat) (b:Ty),shF P g fs off b=true->∀ (cs:List Value),cs.length=off+b.cells ->
   (∀ f∈fs,∃ d,rd f.type ((cs.drop f.offset).take (P.cellsOf f.type))=some d)->∃ x:b.den,Rd w (λk=>k<w.heap.size) b x (cs.drop off)/\Sm b x
 |[],_,_,h=>by simp[shF]at h
 |[f],off,b,h=>by
  intro cs u M;simp only[shF,BS]at h;obtain⟨⟨r,I⟩,Z⟩:=h;have r:=BX r;have I:=BX I;obtain⟨d,J⟩:=M f (BW ..);rw[r,I,List.take_of_length_le (by simp;omega)]at J;exact X b f.type Z _ d J
 |f::z::fs,off,.pair b c,h=>by
  intro cs u M;simp only[shF,BS]at h;obtain⟨⟨⟨r,I⟩,Z⟩,h4⟩:=h;have r:=BX r;have I:=BX I;have u:cs.length=off+(b.cells+c.cells):=u;obtain⟨d,J⟩:=M f (BW ..);rw[r,I]at J;obtain⟨x,hx,O⟩:=X b f.type Z _ d J;obtain⟨y,hy,Y⟩:=oQ X (z::fs) (off+b.cells) c h4 cs (by omega) (λf0 R=>M f0 (BV _ R));refine⟨(x,y),⟨_,_,?_,hx,hy⟩,O,Y⟩;rw[<- Cz,List.take_append_drop]
 |f::z::fs,off,.int _,h=>by simp[shF]at h
 |f::z::fs,off,.bool,h=>by simp[shF]at h
 |f::z::fs,off,.str,h=>by simp[shF]at h
 |f::z::fs,off,.unit,h=>by simp[shF]at h
 |f::z::fs,off,.list _ _ _,h=>by simp[shF]at h
 |f::z::fs,off,.hdr,h=>by simp[shF]at h
theorem oR {β:Type}(Q:Nat->β->Prop):∀ (n:Nat),(∀ i,i<n->∃ x,Q i x)->∃ u:List β,u.length=n/\∀ i x,u[i]?=some x->Q i x
 |0,_=>⟨[],rfl,λi x h=>by simp at h⟩
 |n+1,h=>by
  obtain⟨u,I,J⟩:=oR Q n (λi O=>h i (by omega));obtain⟨x,M⟩:=h n (by omega);refine⟨u++[x],by simp[I],λi y r=>?_⟩;by_cases O:i<n
  ·rw[CK (by omega)]at r;exact J i y r
  ·have z:i<(u++[x]).length:=(B3.1 r).1;have:i=n:=by simp at z;omega
   subst this;rw[CI (by omega),I,Nat.sub_self]at r;simp at r;subst r;exact M
theorem rg:∀ (n:Nat) (a:Ty) (t:TypeId),shT P n a t=true->∀ (I:Nat) (cs:List Value) (d:DataW H×List MemPlace),DataW.trod enc P w base spare held I t cs=some d ->
    ∃ x:a.den,Rd w (λk=>k<w.heap.size) a x cs/\Sm a x
  |0,_,_,h=>by simp[shT]at h
  |n+1,a,t,h=>by
    intro I cs d z;cases I with
    |zero=>simp[DataW.trod]at z
    |succ I =>
      cases a with
      |int k =>
        simp only[shT]at h;split at h
        · rename_i k' O
          have hk:=of_decide_eq_true h;subst hk;simp only[DataW.trod,O]at z;split at z <;> first|(rename_i M;cases M;done)|skip
          all_goals first
            | (rename_i k1 k2 m J
               cases J;split at z
               · rename_i hw
                 obtain⟨rfl,hw⟩:=hw;exact⟨m,rfl,hw⟩
               · cases z)
            |cases z
        · cases h
      |bool =>
        simp only[shT]at h;split at h
        · rename_i O
          simp only[DataW.trod,O]at z;split at z <;> first|(rename_i M;cases M;done)|skip
          all_goals first
            |(rename_i b J;exact⟨b,rfl,trivial⟩)
            |cases z
        · cases h
      |str =>
        simp only[shT]at h;split at h
        · rename_i O
          simp only[DataW.trod,O]at z;split at z <;> first|(rename_i M;cases M;done)|skip
          all_goals first
            | (rename_i b J
               split at z
               · rename_i hb
                 exact⟨b,rfl,hb⟩
               · cases z)
            |cases z
        · cases h
      |unit=>simp[shT]at h
      |hdr=>simp[shT]at h
      |pair b c =>
        simp only[shT]at h;split at h
        · rename_i fs O
          simp only[BS]at h;obtain⟨h1,Z⟩:=h;have Z:=BX Z;simp only[DataW.trod,O]at z;split at z
          · rename_i a9
            simp only[BY]at z;obtain⟨ys,b4,_⟩:=z;obtain⟨h3,h4⟩:=kT _ _ b4;have:=oQ (w:=w) (rd:=DataW.trod enc P w base spare held I) (λb t hb cs d z=>rg n b t hb I cs d z) fs.toList 0 (.pair b c) h1 cs (by rw[a9,Z,Ca];rfl) (λf hf=>by
              obtain⟨i,hi,e⟩:=C9 hf;obtain⟨y,h5,_⟩:=h4 i f (by rw[CA hi,e]);exact⟨y,h5⟩)
            simpa using this
          · cases z
        · cases h
      |list m E e =>
        simp only[shT]at h;split at h
        · rename_i E' O
          simp only[BS]at h;obtain⟨⟨⟨h1,Z⟩,h3⟩,h4⟩:=h;have h1:=BX h1;subst h1;have Z:=BX Z;have h3:0<e.cells:=by simpa[Cc]using h3
          simp only[DataW.trod,O]at z;split at z <;> first|(rename_i M;cases M;done)|skip
          all_goals first
            |cases z;done
            |skip
          · exact⟨[],Rd.nil w _ m _ e,DL _,by simp⟩
          · rename_i E2 R a4 b2 J
            cases J;split at z
            · rename_i hc
              obtain⟨b5,bl,bb⟩:=hc;obtain⟨ba,a5,_⟩:=CO.1 z;obtain⟨h5,h6⟩:=kT _ _ a5;have b1:∀ i,i<a4->∃ x:e.den,∃ c,w.cells? base (R.add (i*e.cells)) e.cells=some c/\Rd w (λk=>k<w.heap.size) e x c/\Sm e x:=by
                intro i hi;obtain⟨y,h7,_⟩:=h6 i i (by simp[hi]);obtain⟨c,h8,h9⟩:=CO.1 h7;rw[Z]at h8;obtain⟨x,hx,b0⟩:=rg n e _ h4 I c y h9;exact⟨x,c,h8,hx,b0⟩
              obtain⟨xs,b3,a1⟩:=oR (λi (x:e.den)=>∃ c,w.cells? base (R.add (i*e.cells)) e.cells=some c/\Rd w (λk=>k<w.heap.size) e x c/\Sm e x) a4 b1;refine⟨xs,⟨some R,b2,by rw[b3],by omega,λhp=>?_⟩,by omega,λx hx=>?_⟩
              · have b6:0<xs.length:=hp
                obtain⟨c,Y,a2,_⟩:=a1 0 xs[0] (CA b6);obtain⟨_,b9,X⟩:=sd Y;have h0:0<c.length:=by omega
                have r:=X 0 c[0] (CA h0);have e0:(R.add (0*e.cells)).add 0=R:=by simp[Addr.add]
                rw[e0]at r;have a0:R.spot=none/\R.block<w.heap.size:=by
                  unfold World.cell? at r;split at r
                  · rename_i hh
                    split at r
                    · cases r
                    · rename_i hs
                      refine⟨by simpa using hs,(Cm.1 hh).1⟩
                  · cases r
                obtain⟨g,o,sp⟩:=R;obtain⟨a3,a6⟩:=a0;simp only at a3 a6;subst a3;refine⟨g,o,rfl,a6,λj x hj=>?_⟩;obtain⟨c,Y,a2,_⟩:=a1 j x hj;obtain⟨_,_,X⟩:=sd Y;refine⟨c,a2,λi u hi=>?_⟩;have:=X i u hi
                rwa [e8,e8]at this
              · obtain⟨j,hj,e1⟩:=C9 hx
                obtain⟨c,_,_,hs⟩:=a1 j x (by rw[CA hj,e1]);exact hs
            · cases z
        · cases h
end
section
variable {H:Type} {enc:TypeId×Value->H} {P:Program} {w:World}
theorem zC {n:Nat}{a:Ty}{t:TypeId}(r:shT P (n+1) a t=true){v:Value}{d:DataW H}{p:List MemPlace}(M:DataW.Trod enc P w 0 (λ_=>true) true t v d p){base:Nat}(u:DS P w .any base t v) :
  ∃ x:a.den,(∃ z,di a.isAgg v z/\Rd w (λk=>k<w.heap.size) a x z)/\Sm a x:=by
 obtain⟨I,M⟩:=M;obtain⟨x,R,J⟩:=rg (n+1) a t r I _ _ M;refine⟨x,⟨v.cells.toList,?_,R⟩,J⟩;cases a with
 |int k =>
  simp only[shT]at r;split at r
  ·rename_i k' y;obtain⟨n,rfl⟩:=okWide_int y u;rfl
  ·cases r
 |bool =>
  simp only[shT]at r;split at r
  ·rename_i y;obtain⟨n,rfl⟩:=okWide_bool y u;rfl
  ·cases r
 |str =>
  simp only[shT]at r;split at r
  ·rename_i y;obtain⟨n,rfl⟩:=okWide_string y u;rfl
  ·cases r
 |list m E e =>
  simp only[shT]at r;split at r
  ·rename_i Y y;obtain⟨A,X,O,rfl⟩:=okWide_slice y u;rfl
  ·cases r
 |unit=>simp[shT]at r
 |hdr=>simp[shT]at r
 |pair b c =>
  simp only[shT]at r;split at r
  ·rename_i Z y;obtain⟨z,rfl,_⟩:=okWide_struct y u;show Value.agg z=.agg (Value.agg z).cells.toList.toArray;simp[Value.cells]
  ·cases r
def Sms:(as:List Ty)->ab (as.map .rd)->Prop
 |[],_=>True
 |a::as,x=>Sm a x.1/\Sms as x.2
def un (P:Program):List Ty->List TypeId->Bool
 |[],[]=>true
 |a::as,t::r=>shT P 64 a t&&un P as r
 |_,_=>false
theorem se {pr:Nat->Prop}:∀ (as:List Ty) (I:List TypeId) (u:List Value) (ds:List (DataW H)) (ps:List MemPlace),un P as I=true->DataW.TrodAll enc P w 0 (λ_=>true) true I u ds ps ->
  (∃ r,∀ (j:Nat) (t:TypeId) (v:Value),I[j]?=some t->u[j]?=some v->DS P w .any r t v)->∃ x:ab (as.map .rd),dg P w (λk=>k<w.heap.size) pr (as.map .rd) x u (as.map λ_=>[])/\Sms as x
 |[],[],[],[],_,_,_,_=>⟨(),⟨rfl,rfl⟩,trivial⟩
 |[],[],[],_::_,_,_,h,_=>h.elim
 |[],[],_::_,_,_,_,h,_=>h.elim
 |[],_::_,_,_,_,h,_,_=>by simp[un]at h
 |_::_,[],_,_,_,h,_,_=>by simp[un]at h
 |_::_,_::_,[],_,_,_,h,_=>h.elim
 |_::_,_::_,_::_,[],_,_,h,_=>h.elim
 |a::as,t::I,v::u,d::ds,ps,O,⟨p,q,R,h2,_⟩,⟨r,z⟩=>by
  simp only[un,BS]at O;obtain⟨x,Z,J⟩:=zC (n:=63) O.1 R (z 0 t v rfl rfl);obtain⟨y,Y,M⟩:=se as I u ds q O.2 h2 ⟨r,λj t' v' h3 X=>z (j+1) t' v' (by simpa using h3) (by simpa using X)⟩;exact⟨(x,y),⟨v,u,[],_,rfl,rfl,⟨rfl,Z⟩,Y⟩,J,M⟩
theorem zD (tys:List Ty):(tys.map λ_=>([]:List Nat)).flatten=[]:=by
 induction tys with
 |nil=>rfl
 |cons a tys r=>simp
theorem yn {f:FuncId}{tys:List Ty}{z:Bool}{J:ab (tys.map PK.rd)->Option (aj [.v .bool]×ai (tys.map PK.rd))}(hs:bP P ⟨f,tys.map .rd,[.v .bool],z,J⟩){x:ab (tys.map .rd)}{vs:List Value}{o:ai (tys.map .rd)}
  (hx:dg P w (λk=>k<w.heap.size) (λk=>k<w.heap.size) (tys.map .rd) x vs (tys.map λ_=>[])) (hd:J x=some ((true,()),o)):Calls P f vs.toArray w (λe w'=>e=.returned (.bool true)/\Below w.heap.size w w'):=by
 have R:=zD tys;have:=hs.2 w (λk=>k<w.heap.size) x vs _ _ (hx.mono (λ_ h=>h) (λk I=>⟨I,by rw[R];simp⟩)) (λk I=>⟨I,by rw[R];simp⟩) (by rw[R];exact Co) hd;refine this.mono λe w' hp=>?_
 obtain⟨v,us,N,a5,a3,rfl,r,a1,a0,X,Z,Y,_,_,M,_,_⟩:=hp;refine⟨?_,⟨a0,X,Z,a1,λk I=>Y k I (by rw[R];simp)⟩⟩;obtain⟨u,a4,b,a2,e1,e2,⟨cs,y,O⟩,e3,e4⟩:=M;subst e3;subst e1;have r:v=u:=r;subst r;have y:cs=[v]:=y;have O:cs=[.bool true]:=O.1;rw[y]at O;simp only[Cw,and_true]at O;rw[O]
end
end Go.Proofs.YtadlacffdemoiaaGreatEv
