/- One operation looks at some slots alone. -/
import Derived.Test.YtaegajachoklkaaGreatE3
import Derived.Laws.StructEq
import Derived.Lib.SliceRun
import Derived.ProofKit
set_option linter.unusedVariables false
set_option linter.unusedSimpArgs false
open Array renaming getElem?_eq_getElem->B9,getD_eq_getD_getElem?->CA,replicate->CW,all_eq_true_iff_forall_mem->Ch,getElem?_eq_some_iff->Cp,getElem?_append_left->Cq,getElem?_replicate->Cw,mem_of_getElem?->C4,length_toList->DA,mem_append->DM
open Bool renaming and_eq_true->BW,not_eq_true'->CY,or_eq_true->Ck,false_eq_true->Cn,and_false->Co,and_true->Cv,true_and->DE,not_false->DU
open Classical renaming byContradiction->CP
open Go.ByteArray renaming toList_eq->DC
open Go.Result renaming andThen_ok->Cc
open Go.Sem renaming run_bind->Ci,run_pure->DJ
open Go.Value renaming okWide->DW
open List renaming mem_append->BV,mem_append_left->BX,mem_append_right->BY,mem_cons_of_mem->BZ,mem_cons_self->B3,getElem?_eq_some_iff->B7,mem_map->B8,mem_cons->CB,getD_eq_getElem?_getD->CC,flatten_cons->CD,getElem?_eq_getElem->CE,mem_flatMap->CG,count_append->CH,mem_singleton_self->CI,count_pos_iff->CJ,all_eq_true->CK,map_cons->CL,getElem?_append_right->CM,getElem?_append_left->CO,append_assoc->CR,nil_append->CT,mem_singleton->CU,nodup_cons->CV,length_cons->Ca,nodup_append->Cb,mem_filter->Cf,any_eq_true->Cj,map_append->Cl,count_cons->Cm,nodup_nil->Cr,count_eq_zero->Cs,any_eq_false->Ct,all_cons->Cu,getElem?_cons_succ->Cy,getElem?_eq_none->C3,drop_drop->C5,mapM_cons->C7,map_congr_left->C9,countP_eq_zero->DB,getElem_of_mem->DD,set_cons_succ->DF,find?_eq_none->DH,getElem?_map->DI,size_toArray->DK,mem_toArray->DL,countP_cons->DN,foldl_cons->DR,range->DT,map_nil->DV
open List.cons renaming injEq->C0
open Nat renaming eq_of_beq_eq_true->B4,beq->B6,le_of_ble_eq_true->CQ,lt_succ_self->Cd,zero_add->Ce,blt_eq->Cg,blt->Cz,le_refl->C6,ble->C8,lt_of_lt_of_le->DG,zero_le->DP,strongRecOn->DS
open Option renaming map_eq_some_iff->B5,map_some->CN,bind_eq_some_iff->CS,bind_assoc->CX,bind_some->CZ,bind_none->Cx,getD_some->DO
open Option.some renaming injEq->BU,inj->DQ
open Prod.mk renaming injEq->CF
namespace Go.Proofs.YtaegajachoklkaaGreatEv
open Go Go.RowKit
section
variable {P:Program} {V:Env} {Γ:List Ctr} {T:TypeId->TI} {st st':St} {o:Oper} {R:Type} {κ:Upd->Option R} {r:R}
theorem gJ {α β:Type}(b:Bool)(x y:Option α)(f:α->Option β):(bif b then x else y).bind f=bif b then x.bind f else y.bind f:=by cases b <;> rfl
theorem wK {b:Option (Bool×Nat×Nat)}{U:Upd}:ka st b U κ=(ka st b U some).bind κ:=by
 unfold ka;split
 ·split
  ·simp only[CX];congr 1;funext y;split <;> rfl
  ·rfl
 ·rfl
theorem wL {d:Nat}{f:FuncId}{xs:List (aI×List Leaf)}:jA Γ st d f xs κ=(jA Γ st d f xs some).bind κ:=by
 unfold jA;cases lZ Γ f with
 |none=>rfl
 |some c =>
  simp only[gI,CX];congr 1;funext u;cases oP Γ (ac u.1 st) c.ps u.2.1 with
  |none=>rfl
  |some g =>
   simp only[gJ,CX,Cx];congr 2;funext y;exact wK
theorem mM {z:St}{H:Upd}{d:Nat}{E:TypeId}{e:Ty}{u:Nat}{p:Bool}{xs:List e.den}{ks:List (Nat×Nat)}{y:Leaf}:d5 st z H d E e u p xs ks y κ=(d5 st z H d E e u p xs ks y some).bind κ:=by
 unfold d5;split
 ·simp only[gJ,Cx,CZ]
 ·rfl
theorem tN {z:Upd}{d:Nat}{E:TypeId}{e:Ty}{u:Nat}{x y:Leaf}:eH st z d E e u x y κ=(eH st z d E e u x y some).bind κ:=by
 unfold eH;split
 ·split
  ·rw[gJ,<- mM];rfl
  ·rfl
 ·exact mM
 ·rfl
theorem tO {d:Nat}{E:TypeId}{e:Ty}{u:Nat}{x y:Leaf}:iC st d E e u x y κ=(iC st d E e u x y some).bind κ:=by
 unfold iC;simp only[ic,gJ,CX,<- tN]
theorem nD {r j i off n:Nat}{p:Bool}{E:TypeId}{e:Ty}{xs:List e.den}{h:Option (Nat×Nat)}{ls:List Leaf}:gO st r j i off n p E e xs h ls κ=(gO st r j i off n p E e xs h ls some).bind κ:=by
 unfold gO;simp only[CX];congr 1;funext u;split
 ·rw[gJ];congr 1;split
  ·rfl
  ·simp only[gJ,CZ]
 ·rfl
theorem tP:act Γ T o st κ=(act Γ T o st some).bind κ:=by
 cases u:o.op <;> simp only[act,wrU,u] <;> (repeat' split) <;>
  (try simp only[gJ,CX,Cx,CZ]) <;> (try rfl) <;> (try exact wL) <;> (try (rw[tO];done)) <;> (try (rw[nD];done)) <;> (try (rw[<- nD];done))
theorem bt {q:Nat}(h:st' q=st q):∀ (U:Upd),ac U st' q=ac U st q
 |[]=>h
 |(r,c)::U=>by simp only[ac,bt h U]
theorem d4 {x:Operand}(h:∀ t,x=.tmp t->st' t=st t):au st' x=au st x:=by
 cases x with
 |tmp t=>simp only[au,h t rfl]
 |_=>rfl
theorem dL {x:Operand}(h:∀ t,x=.tmp t->st' t=st t):one st' x=one st x:=by
 unfold one;rw[d4 h]
theorem lv:∀ (u y:List Leaf),aw (u++y)=aw u++aw y
 |[],_=>rfl
 |l::u,y=>by cases l <;> simp[aw,lv u y]
theorem aM (l:Leaf)(ls:List Leaf):aw (l::ls)=aw [l]++aw ls:=lv [l] ls
theorem fQ:∀ (n:Nat) (ls:List Leaf) (q:Nat),q∈aw (ls.drop n)->q∈aw ls
 |0,_,_,h=>h
 |n+1,[],_,h=>h
 |n+1,l::ls,q,h=>by rw[aM];exact BY _ (fQ n ls q h)
theorem rN:∀ (n:Nat) (ls:List Leaf) (q:Nat),q∈aw (ls.take n)->q∈aw ls
 |0,_,_,h=>by simp[aw]at h
 |n+1,[],_,h=>by simp[aw]at h
 |n+1,l::ls,q,h=>by
  rw[List.take_succ_cons,aM,BV]at h;rw[aM,BV];exact h.imp id (rN n ls q)
theorem qU:∀ {ls:List Leaf} {k:Nat} {l:Leaf},ls[k]?=some l->∀ q∈aw [l],q∈aw ls
 |[],_,_,h,_,_=>by simp at h
 |y::ls,0,l,h,q,u=>by simp at h;subst h;rw[aM];exact BX _ u
 |y::ls,k+1,l,h,q,u=>by rw[aM];exact BY _ (qU (by simpa using h) q u)
theorem jR {ks:List (Nat×Nat×Nat)}{ep:Nat}(h:∀ q∈EPO::ks.map (·.1),st' q=st q):bw st' ks ep=bw st ks ep:=by
 unfold bw;rw[h EPO (B3 ..)];congr 1;induction ks with
 |nil=>rfl
 |cons k ks y =>
  rw[Cu,Cu,y (λq u=>h q (by simp at u ⊢;rcases u with u|u;exact .inl u;exact .inr (.inr u))),h k.1 (by simp)]
theorem iy {p:Bool}{ks:List (Nat×Nat×Nat)}{ep:Nat}{u:Option (Nat×Nat×Nat)}{E:TypeId}{e:Ty}{xs:List e.den}:aw [.nal p ks ep u E e xs]=EPO::ks.map (·.1):=by simp[aw]
theorem vr {p:Bool}{ks:List (Nat×Nat×Nat)}{ep:Nat}{a:Ty}{x:a.den}{off:Nat}:aw [.np p ks ep a x off]=EPO::ks.map (·.1):=by simp[aw]
theorem co {l:Leaf}(h:∀ q∈aw [l],st' q=st q):aE st' l=aE st l:=by
 cases l with
 |al r j v=>simp only[aE,h r (by simp[aw])]
 |nal p y ep u E e z=>rw[iy]at h;simp only[aE,jR h]
 |_=>rfl
theorem j8:∀ (a:Ty) (ls:List Leaf) (p:Bool) (x:a.den) (u:List Leaf),bf st a ls=some (p,x,u)->∃ I,ls=I++u
 |.int k,ls,p,x,u,h=>by
  simp only[bf]at h;split at h
  ·split at h
   ·simp at h;exact⟨[_],by rw[<- h.2.2];rfl⟩
   ·cases h
  ·cases h
 |.bool,ls,p,x,u,h=>by
  simp only[bf]at h;split at h
  ·simp at h;exact⟨[_],by rw[<- h.2.2];rfl⟩
  ·cases h
 |.str,ls,p,x,u,h=>by
  simp only[bf]at h;split at h
  ·simp at h;exact⟨[_],by rw[<- h.2.2];rfl⟩
  ·cases h
 |.unit,ls,p,x,u,h=>by
  simp only[bf,BU,CF]at h;exact⟨[],by rw[h.2.2];rfl⟩
 |.hdr,ls,p,x,u,h=>by
  simp only[bf]at h;split at h
  ·split at h
   ·simp at h;exact⟨[_],by rw[<- h.2.2];rfl⟩
   ·cases h
  ·cases h
 |.pair a b,ls,p,x,u,h=>by
  simp only[bf]at h;split at h
  ·rename_i q y H M;split at h
   ·rename_i O z J Y;simp at h;obtain⟨I,Z⟩:=j8 a ls q y H M;obtain⟨X,e2⟩:=j8 b H O z J Y;exact⟨I++X,by rw[Z,e2,h.2.2,CR]⟩
   ·cases h
  ·cases h
 |.list m E e,ls,p,x,u,h=>by
  simp only[bf]at h;split at h
  ·split at h
   ·simp at h;exact⟨[_],by rw[<- h.2.2];rfl⟩
   ·cases h
  ·cases h
theorem gK:∀ (a:Ty) (ls:List Leaf),(∀ q∈aw ls,st' q=st q)->bf st' a ls=bf st a ls
 |.int k,ls,h=>rfl
 |.bool,ls,h=>rfl
 |.str,ls,h=>rfl
 |.unit,ls,h=>rfl
 |.hdr,ls,h=>by
  cases ls with
  |nil=>rfl
  |cons l ls =>
   simp only[bf];rw[co (l:=l) (λq z=>h q (by rw[aM];exact BX _ z))]
 |.pair a b,ls,h=>by
  simp only[bf,gK a ls h];cases H:bf st a ls with
  |none=>rfl
  |some x =>
   obtain⟨p,y,u⟩:=x;obtain⟨J,I⟩:=j8 a ls p y u H;simp only;rw[gK b u (λq z=>h q (by rw[I,lv];exact BY _ z))]
 |.list m E e,ls,h=>by
  cases ls with
  |nil=>rfl
  |cons l ls =>
   simp only[bf];rw[co (l:=l) (λq z=>h q (by rw[aM];exact BX _ z))]
theorem eU {a:Ty}{ls:List Leaf}(h:∀ q∈aw ls,st' q=st q):cU st' a ls=cU st a ls:=by
 unfold cU;rw[gK a ls h]
theorem nE {e:Ty}:∀ (n:Nat) (ls:List Leaf),(∀ q∈aw ls,st' q=st q)->fP st' e n ls=fP st e n ls
 |0,_,_=>rfl
 |n+1,ls,h=>by
  simp only[fP,eU (ls:=ls.take e.cells) (λq u=>h q (rN _ _ q u)),nE n (ls.drop e.cells) (λq u=>h q (fQ _ _ q u))]
theorem jt:∀ {ls:List Leaf},(∀ q∈aw ls,st' q=st q)->bC st' ls=bC st ls
 |[],_=>rfl
 |l::ls,h=>by
  have z:=jt (ls:=ls) (λq u=>h q (by rw[aM];exact BY _ u));cases l with
  |al r j v=>simp only[bC,z,co (l:=.al r j v) (λq u=>h q (by rw[aM];exact BX _ u))]
  |nal p H ep y E e I=>simp only[bC,z,co (l:=.nal p H ep y E e I) (λq u=>h q (by rw[aM];exact BX _ u))]
  |_=>simpa[bC]using z
theorem pi:∀ {ls:List Leaf},(∀ q∈aw ls,st' q=st q)->cd st' ls=cd st ls
 |[],_=>rfl
 |l::ls,h=>by
  have y:=pi (ls:=ls) (λq u=>h q (by rw[aM];exact BY _ u));cases l with
  |al r j v=>simp only[cd,y,co (l:=.al r j v) (λq u=>h q (by rw[aM];exact BX _ u))]
  |_=>simpa[cd]using y
theorem qW:∀ {ls:List Leaf},(∀ q∈aw ls,st' q=st q)->dB st' ls=dB st ls
 |[],_=>rfl
 |l::ls,h=>by
  have z:=qW (ls:=ls) (λq y=>h q (by rw[aM];exact BY _ y));cases l with
  |nal p H ep u E e I =>
   cases u with
   |none=>simp only[dB,z,co (l:=.nal p H ep none E e I) (λq y=>h q (by rw[aM];exact BX _ y))]
   |some x=>simpa[dB]using z
  |_=>simpa[dB]using z
theorem pj {ls:List Leaf}(h:∀ q∈aw ls,st' q=st q):dP st' ls=dP st ls:=by
 unfold dP;induction ls with
 |nil=>rfl
 |cons l ls y =>
  rw[CL,CL,y (λq u=>h q (by rw[aM];exact BY _ u))];unfold gv;rw[co (λq u=>h q (by rw[aM];exact BX _ u))]
theorem eN:∀ {ls:List Leaf} {x:Nat×Nat},x∈bC st ls->x.1∈aw ls
 |[],_,h=>by simp[bC]at h
 |l::ls,x,h=>by
  cases l with
  |al r j v =>
   simp only[bC,BV]at h;rcases h with h|h
   ·split at h
    ·simp at h;subst h;simp[aw]
    ·simp at h
   ·rw[aM];exact BY _ (eN h)
  |nal p z ep y E e H =>
   simp only[bC,BV]at h;rcases h with h|h
   ·split at h
    ·obtain⟨k,u,rfl⟩:=B8.1 h;rw[aM,iy];exact BX _ (BZ _ (B8.2 ⟨k,u,rfl⟩))
    ·simp at h
   ·rw[aM];exact BY _ (eN h)
  |_=>(simp only[bC]at h;rw[aM];exact BY _ (eN h))
theorem ju:∀ {ls:List Leaf} {x:Nat×Nat},x∈cd st ls->x.1∈aw ls
 |[],_,h=>by simp[cd]at h
 |l::ls,x,h=>by
  cases l with
  |al r j v =>
   simp only[cd,BV]at h;rcases h with h|h
   ·split at h
    ·simp at h;subst h;simp[aw]
    ·simp at h
   ·rw[aM];exact BY _ (ju h)
  |_=>(simp only[cd]at h;rw[aM];exact BY _ (ju h))
theorem ij:∀ {ls:List Leaf} {x:Nat×Nat},x∈dB st ls->x.1∈aw ls
 |[],_,h=>by simp[dB]at h
 |l::ls,x,h=>by
  cases l with
  |nal p H ep u E e I =>
   cases u with
   |none =>
    simp only[dB,BV]at h;rcases h with h|h
    ·split at h
     ·obtain⟨k,z,rfl⟩:=B8.1 h;rw[aM,iy];exact BX _ (BZ _ (B8.2 ⟨k,z,rfl⟩))
     ·simp at h
    ·rw[aM];exact BY _ (ij h)
   |some y=>(simp only[dB]at h;rw[aM];exact BY _ (ij h))
  |_=>(simp only[dB]at h;rw[aM];exact BY _ (ij h))
theorem iz:∀ {ks:List (Nat×Nat)},(∀ x∈ks,st' x.1=st x.1)->aO st' ks=aO st ks
 |[],_=>rfl
 |(r,j)::ks,h=>by
  simp only[aO,iz (ks:=ks) (λx u=>h x (BZ _ u)),bt (h (r,j) (B3 ..))]
theorem kq:∀ {ks:List (Nat×Nat)},(∀ x∈ks,st' x.1=st x.1)->aF st' ks=aF st ks
 |[],_=>rfl
 |(r,j)::ks,h=>by
  simp only[aF,kq (ks:=ks) (λx u=>h x (BZ _ u)),bt (h (r,j) (B3 ..))]
theorem tQ {ls:List Leaf}(h:∀ q∈aw ls,st' q=st q):mvU st' ls=mvU st ls:=by
 unfold mvU;rw[qW h,pi h,kq (λx u=>h _ (ij u))];simp only;rw[iz (λx u=>bt (h _ (ju u)) _)]
theorem qX {ls:List Leaf}(h:∀ q∈aw ls,st' q=st q):ik st' ls=ik st ls:=by
 unfold ik;rw[qW h,pi h]
theorem jv:∀ (a:Ty) (ls:List Leaf),(∀ q∈aw ls,st' q=st q)->take st' a ls=take st a ls
 |.int k,ls,h=>by simp only[take,gK (.int k) ls h]
 |.bool,ls,h=>by simp only[take,gK .bool ls h]
 |.str,ls,h=>by simp only[take,gK .str ls h]
 |.unit,ls,h=>rfl
 |.hdr,ls,h=>by simp only[take,gK .hdr ls h]
 |.pair a b,ls,h=>by
  simp only[take,jv a ls h];cases H:take st a ls with
  |none=>rfl
  |some x =>
   have z:=kp.take_rest a ls x H;simp only;rw[jv b x.rest (λq u=>h q (fQ a.cells ls q (by rw[<- z];exact u)))]
 |.list m E e,ls,h=>by
  cases ls with
  |nil=>rfl
  |cons l ls =>
   have y:∀ q∈aw [l],st' q=st q:=λq u=>h q (by rw[aM];exact BX _ u)
   simp only[take,co y,jt y];congr 1;split
   ·rename_i r j v;rw[co y]
   ·rfl
   ·rfl
theorem hI {a:Ty}{ls:List Leaf}(h:∀ q∈aw ls,st' q=st q):cn st' a ls=cn st a ls:=by
 unfold cn;rw[jv a ls h]
theorem od:∀ (a:Ty) (ls:List Leaf) (t:cP a.den),take st a ls=some t->(∀ z∈t.frz,z.1∈aw ls)/\∀ z∈t.kill,z.1∈aw ls
 |.int k,ls,t,h=>by simp only[take,B5]at h;obtain⟨_,_,rfl⟩:=h;exact⟨by simp,by simp⟩
 |.bool,ls,t,h=>by simp only[take,B5]at h;obtain⟨_,_,rfl⟩:=h;exact⟨by simp,by simp⟩
 |.str,ls,t,h=>by simp only[take,B5]at h;obtain⟨_,_,rfl⟩:=h;exact⟨by simp,by simp⟩
 |.hdr,ls,t,h=>by simp only[take,B5]at h;obtain⟨_,_,rfl⟩:=h;exact⟨by simp,by simp⟩
 |.unit,ls,t,h=>by simp only[take,BU]at h;subst h;exact⟨by simp,by simp⟩
 |.pair a b,ls,t,h=>by
  simp only[take]at h;split at h
  ·rename_i x I;split at h
   ·rename_i y X;simp only[BU]at h;subst h;have hr:=kp.take_rest a ls x I;obtain⟨O,Z⟩:=od a ls x I;obtain⟨H,J⟩:=od b x.rest y X;rw[hr]at H J;exact⟨λz u=>(BV.1 u).elim (O z) (λu=>fQ _ _ _ (H z u)),λz u=>(BV.1 u).elim (Z z) (λu=>fQ _ _ _ (J z u))⟩
   ·cases h
  ·cases h
 |.list m E e,ls,t,h=>by
  cases ls with
  |nil=>simp[take]at h
  |cons l ls =>
   have M:∀ q∈aw [l],q∈aw (l::ls):=λq Y=>by rw[aM];exact BX _ Y
   cases m with
   |false =>
    simp only[take,cond_false]at h;split at h
    ·simp only[BU]at h;subst h;exact⟨λz u=>M _ (eN u),by simp⟩
    ·cases h
   |true =>
    simp only[take,cond_true]at h;split at h
    ·split at h
     ·simp only[B5]at h;obtain⟨_,_,rfl⟩:=h;exact⟨by simp,λz u=>by simp at u;subst u;exact M _ (by simp[aw])⟩
     ·cases h
    ·simp only[BU]at h;subst h;exact⟨by simp,by simp⟩
    ·cases h
theorem jh {a:Ty}{ls:List Leaf}{t:cP a.den}(h:cn st a ls=some t):(∀ z∈t.frz,z.1∈aw ls)/\∀ z∈t.kill,z.1∈aw ls:=by
 unfold cn at h;split at h
 ·rename_i p x f k u;simp only[BU]at h;subst h;exact od a ls _ u
 ·cases h
theorem kj:∀ {off n:Nat} (a:Ty) (pos:Nat) (x:a.den) (ls:List Leaf) (t:cP a.den),di st off n a pos x ls=some t->∃ k,t.rest=ls.drop k
 |off,n,.pair a b,pos,x,ls,t,h=>by
  simp only[di]at h;split at h
  ·rename_i u z;split at h
   ·rename_i v J;simp only[BU]at h;subst h;obtain⟨y,H⟩:=kj a pos x.1 ls u z;obtain⟨I,M⟩:=kj b (pos+a.cells) x.2 u.rest v J;exact⟨y+I,by show v.rest=_;rw[M,H,C5]⟩
   ·cases h
  ·cases h
 |off,n,.unit,pos,x,ls,t,h=>by simp only[di,BU]at h;subst h;exact⟨0,rfl⟩
 |off,n,.hdr,pos,x,ls,t,h=>by simp[di]at h
 |off,n,.int k,pos,x,ls,t,h=>sc (a:=.int k) h
 |off,n,.bool,pos,x,ls,t,h=>sc (a:=.bool) h
 |off,n,.str,pos,x,ls,t,h=>sc (a:=.str) h
 |off,n,.list m E e,pos,x,ls,t,h=>sc (a:=.list m E e) h
where
 sc {a:Ty} {b:Bool} {x:a.den} {ls:List Leaf} {t:cP a.den} (h:(bif b then take st a ls else some ⟨false,x,[],[],ls⟩)=some t):∃ k,t.rest=ls.drop k:=by
  cases b with
  |true=>exact⟨_,kp.take_rest a ls t h⟩
  |false=>simp only[cond_false,BU]at h;subst h;exact⟨0,rfl⟩
theorem pm:∀ {off n:Nat} (a:Ty) (pos:Nat) (x:a.den) (ls:List Leaf),(∀ q∈aw ls,st' q=st q)->di st' off n a pos x ls=di st off n a pos x ls
 |off,n,.pair a b,pos,x,ls,h=>by
  simp only[di,pm a pos x.1 ls h];cases y:di st off n a pos x.1 ls with
  |none=>rfl
  |some u =>
   obtain⟨k,e⟩:=kj a pos x.1 ls u y;simp only;rw[pm b (pos+a.cells) x.2 u.rest (λq z=>h q (fQ k ls q (by rw[<- e];exact z)))]
 |off,n,.unit,pos,x,ls,h=>rfl
 |off,n,.hdr,pos,x,ls,h=>rfl
 |off,n,.int k,pos,x,ls,h=>by simp only[di,jv (.int k) ls h]
 |off,n,.bool,pos,x,ls,h=>by simp only[di,jv .bool ls h]
 |off,n,.str,pos,x,ls,h=>by simp only[di,jv .str ls h]
 |off,n,.list m E e,pos,x,ls,h=>by simp only[di,jv (.list m E e) ls h]
theorem pn:∀ {off n:Nat} (a:Ty) (pos:Nat) (x:a.den) (ls:List Leaf) (t:cP a.den),di st off n a pos x ls=some t->(∀ z∈t.frz,z.1∈aw ls)/\∀ z∈t.kill,z.1∈aw ls
 |off,n,.pair a b,pos,x,ls,t,h=>by
  simp only[di]at h;split at h
  ·rename_i u I;split at h
   ·rename_i v X;simp only[BU]at h;subst h;obtain⟨k,e⟩:=kj a pos x.1 ls u I;obtain⟨M,O⟩:=pn a pos x.1 ls u I;obtain⟨H,J⟩:=pn b (pos+a.cells) x.2 u.rest v X;rw[e]at H J;exact⟨λz y=>(BV.1 y).elim (M z) (λy=>fQ _ _ _ (H z y)),λz y=>(BV.1 y).elim (O z) (λy=>fQ _ _ _ (J z y))⟩
   ·cases h
  ·cases h
 |off,n,.unit,pos,x,ls,t,h=>by simp only[di,BU]at h;subst h;exact⟨by simp,by simp⟩
 |off,n,.hdr,pos,x,ls,t,h=>by simp[di]at h
 |off,n,.int k,pos,x,ls,t,h=>sc (a:=.int k) h
 |off,n,.bool,pos,x,ls,t,h=>sc (a:=.bool) h
 |off,n,.str,pos,x,ls,t,h=>sc (a:=.str) h
 |off,n,.list m E e,pos,x,ls,t,h=>sc (a:=.list m E e) h
where
 sc {a:Ty} {b:Bool} {x:a.den} {ls:List Leaf} {t:cP a.den} (h:(bif b then take st a ls else some ⟨false,x,[],[],ls⟩)=some t):(∀ z∈t.frz,z.1∈aw ls)/\∀ z∈t.kill,z.1∈aw ls:=by
  cases b with
  |true=>exact od a ls t h
  |false=>simp only[cond_false,BU]at h;subst h;exact⟨by simp,by simp⟩
theorem vt {U:Upd}{d:Nat}{sh:aI}{ls:List Leaf}(h:st' d=st d):ck st' U d sh ls=ck st U d sh ls:=by
 simp only[ck,bt h]
theorem rO:∀ {xs:List Operand} {t:Nat},Operand.tmp t∈xs->t∈iD xs
 |[],_,h=>by simp at h
 |x::xs,t,h=>by
  rcases CB.1 h with rfl|h
  ·simp[iD]
  ·have u:=rO h;cases x <;> simp[iD,u]
theorem nF (t n:Nat):∀ (j:Nat) (ls:List Leaf) (q:Nat),q∈aw (bJ t n j ls)->q=t\/q∈aw ls
 |_,[],_,h=>by simp[bJ,aw]at h
 |j,l::ls,q,h=>by
  simp only[bJ]at h;rw[aM,BV]at h;rw[aM,BV];rcases h with h|h
  ·cases l with
   |own p y E e u=>simp[lW,aw]at h;exact .inl h
   |_=>exact .inr (.inl h)
  ·exact (nF t n (j+1) ls q h).imp id .inr
theorem lw:∀ (u y:List Leaf),ay (u++y)=ay u++ay y
 |[],_=>rfl
 |l::u,y=>by cases l <;> simp[ay,lw u y]
theorem dz (l:Leaf)(ls:List Leaf):ay (l::ls)=ay [l]++ay ls:=lw [l] ls
theorem fR:∀ {ls:List Leaf} {q:Nat},q∈aw ls->q∈ay ls
 |[],_,h=>by simp[aw]at h
 |l::ls,q,h=>by
  rw[aM,BV]at h;rw[dz,BV];rcases h with h|h
  ·left;cases l with
   |nal p u ep y E e z=>simp[aw]at h;simpa[ay]using h
   |np p u ep a x off=>simp[aw]at h;simpa[ay]using h
   |_=>simp[aw]at h <;> simp[ay,h]
  ·exact .inr (fR h)
theorem nG (t n:Nat):∀ (j:Nat) (ls:List Leaf) (q:Nat),q∈ay (bJ t n j ls)->q=t\/q∈ay ls
 |_,[],_,h=>by simp[bJ,ay]at h
 |j,l::ls,q,h=>by
  simp only[bJ]at h;rw[dz,BV]at h;rw[dz,BV];rcases h with h|h
  ·cases l with
   |own p y E e u=>simp[lW,ay]at h;exact .inl h
   |_=>exact .inr (.inl h)
  ·exact (nG t n (j+1) ls q h).imp id .inr
theorem rP {x:Operand}{q:Nat}(h:q∈aw (au st x).2):∃ t,x=.tmp t/\(q=t\/q∈aw (st t).ls):=by
 cases x with
 |tmp t =>
  simp only[au]at h;cases y:Cz t GH with
  |false=>simp[y,aw]at h
  |true=>simp only[y,cond_true]at h;exact⟨t,rfl,nF _ _ _ _ _ h⟩
 |const v =>
  simp only[au]at h;split at h
  ·rename_i l u;unfold iA at u;split at u <;> simp at u <;> subst u <;> simp[aw]at h
  ·simp[aw]at h
 |func f=>simp[au,aw]at h
 |global g=>simp[au,aw]at h
theorem rQ {x:Operand}{q:Nat}(h:q∈ay (au st x).2):∃ t,x=.tmp t/\(q=t\/q∈ay (st t).ls):=by
 cases x with
 |tmp t =>
  simp only[au]at h;cases y:Cz t GH with
  |false=>simp[y,ay]at h
  |true=>simp only[y,cond_true]at h;exact⟨t,rfl,nG _ _ _ _ _ h⟩
 |const v =>
  simp only[au]at h;split at h
  ·rename_i l u;unfold iA at u;split at u <;> simp at u <;> subst u <;> simp[ay]at h
  ·simp[ay]at h
 |func f=>simp[au,ay]at h
 |global g=>simp[au,ay]at h
theorem qY {x:Operand}{l:Leaf}(h:one st x=l)(u:l≠.dead):(au st x).2=[l]:=by
 unfold one at h;split at h
 ·rename_i z y;rw[y,h]
 ·exact absurd h.symm u
theorem jx {x:Operand}{q:Nat}(h:q∈aw [one st x]):q∈aw (au st x).2:=by
 by_cases u:one st x=.dead
 ·rw[u]at h;simp[aw]at h
 ·rw[qY rfl u];exact h
theorem tR {x:Operand}{q:Nat}(h:q∈ay [one st x]):q∈ay (au st x).2:=by
 by_cases u:one st x=.dead
 ·rw[u]at h;simp[ay]at h
 ·rw[qY rfl u];exact h
def jF:Leaf->Bool×Leaf
 |.own _ _ _ e u=>(true,.ep 0 0 0 e.cells u.length 0)
 |l=>(false,l)
def bN (c:bV):Nat×aI×List (Bool×Leaf):=(c.ver,c.sh,c.ls.map jF)
theorem tS {l l':Leaf}(h:jF l'=jF l):l'=l\/∃ (p p':Bool) (z y:Option (Nat×Nat)) (E E':TypeId) (e e':Ty) (xs:List e.den) (u:List e'.den),l=.own p z E e xs/\l'=.own p' y E' e' u/\e'.cells=e.cells/\u.length=xs.length:=by
 cases l <;> cases l' <;> simp only[jF,CF,Cn,reduceCtorEq,false_and,and_false,true_and,Leaf.ep.injEq,Bool.true_eq_false]at h <;>
  first
  |exact .inr ⟨_,_,_,_,_,_,_,_,_,_,rfl,rfl,h.1,h.2.1⟩
  |exact .inr ⟨_,_,_,_,_,_,_,_,_,_,rfl,rfl,h.1,h.2⟩
  |exact .inl rfl
  |exact .inl (by rw[h])
  |exact .inl h
  |(obtain⟨rfl,rfl,rfl,rfl,rfl,rfl⟩:=h;exact .inl rfl)
theorem qk (t n:Nat):∀ (j:Nat) (ls u:List Leaf),u.map jF=ls.map jF->bJ t n j u=bJ t n j ls
 |_,[],[],_=>rfl
 |_,[],_::_,h=>by simp at h
 |_,_::_,[],h=>by simp at h
 |j,l::ls,M::u,h=>by
  simp only[CL,C0]at h;simp only[bJ,qk t n (j+1) ls u h.2];rcases tS h.1 with e|⟨p,Z,X,y,E,J,e,Y,O,I,z,H,_,_⟩
  ·rw[e]
  ·rw[z,H];rfl
theorem yw {x:Operand}(h:∀ t,x=.tmp t->bN (st' t)=bN (st t)):au st' x=au st x:=by
 cases x with
 |tmp t =>
  have:=h t rfl;simp only[bN,CF]at this;simp only[au,this.1,this.2.1,qk _ _ _ _ _ this.2.2]
 |_=>rfl
theorem Ac {x:Operand}(h:∀ t,x=.tmp t->bN (st' t)=bN (st t)):one st' x=one st x:=by
 unfold one;rw[yw h]
theorem yx {c u:bV}(h:bN u=bN c)(j:Nat):jF (u.ls.getD j .dead)=jF (c.ls.getD j .dead):=by
 simp only[bN,CF]at h;have:=congrArg (λl=>l[j]?) h.2.2;simp only[DI]at this;rw[CC,CC];generalize u.ls[j]?=a at this;generalize c.ls[j]?=b at this
 match a,b,this with
 |none,none,_=>rfl
 |some x,some y,h=>exact DQ h
theorem rR (l:Leaf):lD l=(jF l).1:=by cases l <;> rfl
theorem zK {ks:List (Nat×Nat×Nat)}{ep:Nat}(h:∀ q∈EPO::ks.map (·.1),bN (st' q)=bN (st q)):bw st' ks ep=bw st ks ep:=by
 unfold bw;have z:=h EPO (B3 ..);simp only[bN,CF]at z;rw[z.1];congr 1;induction ks with
 |nil=>rfl
 |cons k ks I =>
  have y:=h k.1 (by simp);have H:(st' k.1).ver=(st k.1).ver:=by simp only[bN,CF]at y;exact y.1
  rw[Cu,Cu,I (λq u=>h q (by simp at u ⊢;rcases u with u|u;exact .inl u;exact .inr (.inr u))),rR,rR,yx y,H]
end
section
variable {P:Program} {V:Env} {Γ:List Ctr} {T:TypeId->TI} {st st':St} {o:Oper} {R:Type} {κ:Upd->Option R} {r:R}
theorem tT {d:Nat}(u:o.dst=some d)(h:∀ q∈fG st o,st' q=st q):st' d=st d/\st' (B0+d)=st (B0+d):=by
 refine⟨h d ?_,h (B0+d) ?_⟩ <;> simp[fG,zS,u]
theorem lx {ls:List Leaf}(h:∀ q∈aw ls,st' q=st q):∀ x∈bC st ls,st' x.1=st x.1:=λx u=>h _ (eN u)
theorem ql {u:List (Nat×Nat×Bool)}:∀ (ps:List (Nat×Operand)) (ls:List Leaf),(∀ x∈ps,∀ t,x.2=.tmp t->st' t=st t)->fF st' u ps ls=fF st u ps ls
 |[],_,_=>rfl
 |(i,x)::ps,ls,h=>by
  simp only[fF,d4 (h (i,x) (B3 ..))];split
  ·rw[ql ps _ (λy z=>h y (BZ _ z))]
  ·rfl
theorem oG {e:Ty}:∀ (ps:List (Nat×Operand)) (k:Nat),(∀ x∈ps,(∀ t,x.2=.tmp t->st' t=st t)/\∀ q∈aw (au st x.2).2,st' q=st q)->eO st' e k ps=eO st e k ps
 |[],_,_=>rfl
 |(i,x)::ps,k,h=>by
  have u:=h (i,x) (B3 ..);simp only[eO,d4 u.1,hI u.2,oG ps (k+1) (λy z=>h y (BZ _ z))]
theorem oH {e:Ty}:∀ (ps:List (Nat×Operand)) (k:Nat) (u:cP (List e.den)),eO st e k ps=some u->∀ z,z∈u.frz\/z∈u.kill->∃ x∈ps,z.1∈aw (au st x.2).2
 |[],_,_,h=>by simp only[eO,BU]at h;subst h;simp
 |(i,x)::ps,k,u,h=>by
  simp only[eO]at h;cases O:B6 i k&&decide ((au st x).1=bq e.isAgg) with
  |false=>simp[O]at h
  |true =>
   simp only[O,cond_true]at h;split at h
   ·rename_i t1 J hg M;simp only[BU]at h;subst h;intro z H;obtain⟨p1,Y⟩:=jh hg;have I:(z∈t1.frz\/z∈t1.kill)\/(z∈J.frz\/z∈J.kill):=by
     rcases H with H|H <;> rcases BV.1 H with H|H
     ·exact .inl (.inl H)
     ·exact .inr (.inl H)
     ·exact .inl (.inr H)
     ·exact .inr (.inr H)
    rcases I with H|H
    ·exact⟨(i,x),B3 ..,H.elim (p1 z) (Y z)⟩
    ·obtain⟨y,X,Z⟩:=oH ps (k+1) J M z H;exact⟨y,BZ _ X,Z⟩
   ·cases h
theorem nH {x:Option Operand}{n:Int}(h:∀ y,x=some y->∀ t,y=.tmp t->st' t=st t):dq st' x n=dq st x n:=by
 cases x with
 |none=>rfl
 |some y=>simp only[dq,dL (h y rfl)]
theorem vu:∀ (xs:List Operand) (u:Option (List Nat)),(∀ x∈xs,∀ t,x=.tmp t->st' t=st t) ->
  xs.foldl (λ (u:Option (List Nat)) x=>u.bind λl=>match one st' x with|.bp b 0=>some (l++[b])|_=>none) u =
  xs.foldl (λ (u:Option (List Nat)) x=>u.bind λl=>match one st x with|.bp b 0=>some (l++[b])|_=>none) u
 |[],_,_=>rfl
 |x::xs,u,h=>by
  simp only[DR,dL (h x (B3 ..))];exact vu xs _ (λy z=>h y (BZ _ z))
theorem qm {l:Leaf}(H:st' TMP=st TMP)(z:st' EPO=st EPO)(h:∀ q∈aw [l],st' q=st q):cr st' l=cr st l:=by
 cases l with
 |nal p y ep u E e M =>
  rw[iy]at h;simp only[cr,jR h,H,z];congr 1
  match y,u,h with
  |[(r,j,n)],some (i,J,off),h =>
   have I:=h r (by simp);simp only[I]
  |[(r,j,n)],none,_=>rfl
  |[],_,_=>rfl
  |_::_::_,_,_=>rfl
 |_=>rfl
theorem oI {l l':Leaf}{U:Upd}(h:cr st l=some (U,l')):∃ n,l'=.al TMP 0 n/\∀ q,q≠TMP->∀ z∈ay (ac U st q).ls,z∈ay (st q).ls:=by
 cases l with
 |nal p ks ep a0 E e X =>
  simp only[cr]at h;cases H:bw st ks ep with
  |false=>simp[H]at h
  |true =>
   rw[H]at h;simp only[cond_true]at h;split at h
   ·rename_i r j n0 i sz off;split at h
    ·rename_i p' E' M O hg;cases Y:!B6 r TMP&&!B6 r EPO&&B6 sz M.cells with
     |false=>simp[Y]at h
     |true =>
      rw[Y]at h;simp only[cond_true]at h;split at h
      ·split at h
       ·rename_i y _ _ _ _ _;simp only[BU,CF]at h;obtain⟨rfl,rfl⟩:=h;refine⟨_,rfl,λq hq z u=>?_⟩;rw[aR]at u;rcases aj r q ⟨(st r).ver,(st r).sh,aV (st r).ls j (.own p' (some (i,off)) E' M O)⟩ (ac [(TMP,⟨(st TMP).ver+1,.one,[.own (p'&&M.shy) none _ _ _]⟩),(EPO,bY (st EPO))] st) with ⟨rfl,J⟩|⟨_,J⟩
        ·rw[J]at u;exact refs_set u
        ·rw[J,aR,aJ hq]at u;rcases aj EPO q (bY (st EPO)) st with ⟨rfl,Z⟩|⟨_,Z⟩ <;> rw[Z]at u <;> exact u
       ·cases h
      ·cases h
    ·cases h
   ·cases h
 |_=>simp[cr]at h
where
 refs_set {I:List Leaf} {j z:Nat} {p:Bool} {hh:Option (Nat×Nat)} {E:TypeId} {e:Ty} {X:List e.den} (h:z∈ay (aV I j (.own p hh E e X))):z∈ay I:=by
  unfold aV at h;induction I generalizing j with
  |nil=>simpa using h
  |cons l I ih =>
   cases j with
   |zero =>
    rw[List.set_cons_zero,dz,BV]at h;rw[dz,BV];rcases h with h|h
    ·simp[ay]at h
    ·exact .inr h
   |succ j =>
    rw[DF,dz,BV]at h;rw[dz,BV];exact h.imp id ih
theorem uK {l l':Leaf}{U:Upd}(h:cr st l=some (U,l')):ay (ac U st TMP).ls=[]:=by
 cases l with
 |nal p J ep H E e Z =>
  simp only[cr]at h;cases u:bw st J ep with
  |false=>simp[u]at h
  |true =>
   rw[u]at h;simp only[cond_true]at h;split at h
   ·rename_i r j n0 i I off;split at h
    ·rename_i p' X M O Y;cases y:!B6 r TMP&&!B6 r EPO&&B6 I M.cells with
     |false=>simp[y]at h
     |true =>
      rw[y]at h;simp only[cond_true]at h;have z:TMP≠r:=λe=>by subst e;simp at y
      split at h
      ·split at h
       ·simp only[BU,CF]at h;obtain⟨rfl,rfl⟩:=h;rw[aR,aJ z,aR,br];rfl
       ·cases h
      ·cases h
    ·cases h
   ·cases h
 |_=>simp[cr]at h
theorem wM {E:TypeId}{e:Ty}{y:Leaf}(u:∀ q∈aw [y],st' q=st q):gb st' E e y=gb st E e y:=by
 unfold gb;rw[co u,jt u,hI u]
theorem wN {E:TypeId}{e:Ty}{y:Leaf}{t:cP (List e.den)}(h:gb st E e y=some t):(∀ z∈t.frz,z.1∈aw [y])/\∀ z∈t.kill,z.1∈aw [y]:=by
 unfold gb at h;cases u:e.flat with
 |true =>
  rw[u]at h;simp only[cond_true,B5]at h;obtain⟨_,_,rfl⟩:=h;exact⟨by simp,by simp⟩
 |false =>
  rw[u]at h;simp only[cond_false]at h;cases H:decide (e.sh=e) with
  |true =>
   rw[H]at h;simp only[cond_true,B5]at h;obtain⟨_,_,rfl⟩:=h;exact⟨λz J=>eN J,by simp⟩
  |false =>
   rw[H]at h;simp only[cond_false,B5]at h;obtain⟨M,I,rfl⟩:=h;exact jh I
theorem ly {u:Upd}{d:Nat}{E:TypeId}{e:Ty}{H:Nat}{p:Bool}{xs:List e.den}{ks:List (Nat×Nat)}{y:Leaf}(O:∀ z∈ks,st' z.1=st z.1)(J:∀ q∈aw [y],st' q=st q)(hd:st' d=st d) :
  d5 st' (ac u st') u d E e H p xs ks y κ=d5 st (ac u st) u d E e H p xs ks y κ:=by
 unfold d5;have M:∀ q,st' q=st q->ac u st' q=ac u st q:=λq h=>bt h u
 rw[wM (st:=ac u st) (st':=ac u st') (λq X=>M q (J q X))];split
 ·rename_i t ht;obtain⟨p1,Y⟩:=wN ht;have Z:aF (ac u st') t.frz=aF (ac u st) t.frz:=kq (λz I=>M _ (J _ (p1 z I)));have e2:∀ U:Upd,aO (ac U (ac u st')) (t.kill++ks)=aO (ac U (ac u st)) (t.kill++ks):=λU=>iz (λz I=>bt (M _ ((BV.1 I).elim (λI=>J _ (Y z I)) (O z))) U)
  simp only[Z,e2,vt hd]
 ·rfl
theorem wO {H:Upd}{d:Nat}{E:TypeId}{e:Ty}{u:Nat}{x y:Leaf}(M:∀ q∈aw [x],st' q=st q)(I:∀ q∈aw [y],st' q=st q)(J:st' d=st d):eH st' H d E e u x y κ=eH st H d E e u x y κ:=by
 unfold eH;cases x with
 |al r j v =>
  have X:st' r=st r:=M r (by simp[aw]);simp only;rw[co (st:=ac H st) (st':=ac H st') (l:=.al r j v) (λq Y=>bt (M q Y) H)];split
  ·rw[ly (λz O=>by simp at O;subst O;exact X) I J]
  ·rfl
 |nil=>exact ly (by simp) I J
 |_=>rfl
theorem wP {d:Nat}{E:TypeId}{e:Ty}{H:Nat}{x y:Leaf}(M:st' TMP=st TMP)(J:∀ q∈aw [x],st' q=st q)(O:∀ q∈aw [y],st' q=st q)(Y:st' d=st d):iC st' d E e H x y κ=iC st d E e H x y κ:=by
 unfold iC;rw[wO J O Y,ic,ic];cases hn:jz x with
 |false=>rfl
 |true =>
  simp only[cond_true];have hE:st' EPO=st EPO:=by
   cases x with
   |nal p ks ep Z E e xs=>exact J EPO (by rw[iy];exact B3 ..)
   |_=>simp[jz]at hn
  rw[qm M hE J];cases hu:cr st x with
  |none=>rfl
  |some u =>
   obtain⟨n,e1,_⟩:=oI (U:=u.1) (l':=u.2) hu;simp only[CZ];rw[e1];unfold eH;simp only;have e2:∀ q,q=TMP->ac u.1 st' q=ac u.1 st q:=λq I=>by rw[I];exact bt M u.1
   rw[co (st:=ac u.1 st) (st':=ac u.1 st') (l:=.al TMP 0 n) (λq I=>e2 q (by simpa[aw]using I))];split
   ·rw[ly (λz X=>by simp at X;subst X;exact M) O Y]
   ·rfl
structure e8 (st st':St) (ls:List Leaf):Prop where
 d1:∀ q∈ay ls,st' q=st q
 d2:∀ r∈ay ls,∀ q∈ay (st r).ls,st' q=st q
 d3:∀ r∈ay ls,∀ r2∈ay (st r).ls,∀ q∈ay (st r2).ls,st' q=st q
theorem kJ (p:Bool):∀ (a:Ty) (x:a.den),ay (cO p a x)=[]
 |.int _,_=>rfl
 |.bool,_=>rfl
 |.str,_=>rfl
 |.unit,_=>rfl
 |.hdr,_=>rfl
 |.pair a b,x=>by simp[cO,lw,kJ p a,kJ p b]
 |.list _ _ _,_=>rfl
theorem rS {l:Leaf}(h:∀ q∈ay [l],st' q=st q):target st' l=target st l:=by
 unfold target;cases l with
 |bp b off =>
  have u:=h b (by simp[ay]);cases off with
  |zero=>simp only[u]
  |succ n=>rfl
 |rp p a x off=>cases off <;> rfl
 |_=>rfl
theorem lz {l:Leaf}{ls:List Leaf}(h:target st l=some ls):∀ q∈ay ls,q∈ay [l]\/∃ r∈ay [l],q∈ay (st r).ls:=by
 unfold target at h;split at h
 ·rename_i b;cases y:decide ((st b).sh=.agg) with
  |false=>simp[y]at h
  |true =>
   simp only[y,cond_true,BU]at h;subst h;intro q u;rcases nG _ _ _ _ _ u with rfl|u
   ·exact .inl (by simp[ay])
   ·exact .inr ⟨b,by simp[ay],u⟩
 ·simp only[BU]at h;subst h;intro q u;rw[kJ]at u;simp at u
 ·simp only[BU]at h;subst h;intro q u;simp[ay]at u
 ·cases h
theorem ji {x:aI×List Leaf}{q:Nat}(h:q∈ay [ct x]):q∈ay x.2:=by
 unfold ct at h;split at h
 ·exact h
 ·simp[ay]at h
theorem e8.target {l:Leaf}{ls:List Leaf}(h:e8 st st' [l])(H:Go.Proofs.YtaegajachoklkaaGreatEv.target st l=some ls):(∀ q∈ay ls,st' q=st q)/\∀ r∈ay ls,∀ q∈ay (st r).ls,st' q=st q:=by
 constructor
 ·intro q y;rcases lz H q y with u|⟨r,u,z⟩
  ·exact h.d1 q u
  ·exact h.d2 r u q z
 ·intro r J q y;rcases lz H r J with u|⟨I,u,z⟩
  ·exact h.d2 r u q y
  ·exact h.d3 I u r z q y
theorem e8.one {x:aI×List Leaf}(h:e8 st st' x.2):e8 st st' [ct x] :=
 ⟨λq y=>h.d1 q (ji y),λr u=>h.d2 r (ji u),λr u=>h.d3 r (ji u)⟩
def nI {α:Type}(st st':St)(g:Got α):Prop:=(∀ z∈g.frz,st' z.1=st z.1)/\(∀ z∈g.kill,st' z.1=st z.1)
theorem nJ {c:Bool×Ty}{l:Leaf}(X:e8 st st' [l]):fE st' c l=fE st c l/\∀ g,fE st c l=some g->nI st st' g:=by
 unfold fE;rw[rS X.d1];cases O:target st l with
 |none=>cases c.1 <;> exact⟨rfl,by simp⟩
 |some Y =>
  have y:=X.target O;cases hc:c.1 with
  |false =>
   have u:∀ q∈aw Y,st' q=st q:=λq H=>y.1 q (fR H)
   simp only[cond_false,eU u,jt u,true_and];intro g z;simp only[B5]at z;obtain⟨_,_,rfl⟩:=z;exact⟨lx u,by simp[Got.ofRd]⟩
  |true =>
   simp only[cond_true]
   match Y,y,O with
   |[],_,_=>exact⟨rfl,by simp⟩
   |_::_::_,_,_=>exact⟨rfl,by simp⟩
   |[Z],y,O =>
    simp only[rS y.1];cases M:target st Z with
    |none=>exact⟨rfl,by simp⟩
    |some I =>
     have u:∀ q∈aw I,st' q=st q:=by
      intro q H;rcases lz M q (fR H) with J|⟨r,J,h5⟩
      ·exact y.1 q J
      ·exact y.2 r J q h5
     simp only[eU u,jt u,true_and];intro g z;simp only[B5]at z;obtain⟨_,_,rfl⟩:=z;exact⟨lx u,by simp[Got.ofRd]⟩
theorem mC:∀ (cs:List (Bool×Ty)) (ls:List Leaf),(∀ l∈ls,e8 st st' [l])->cE st' cs ls=cE st cs ls/\∀ g,cE st cs ls=some g->nI st st' g
 |[],[],_=>⟨rfl,λg u=>by simp only[cE,BU]at u;subst u;exact⟨by simp,by simp⟩⟩
 |[],_::_,_=>⟨rfl,λg u=>by simp[cE]at u⟩
 |_::_,[],_=>⟨rfl,λg u=>by simp[cE]at u⟩
 |c::cs,l::ls,h=>by
  obtain⟨J,X⟩:=nJ (c:=c) (h l (B3 ..));obtain⟨O,h4⟩:=mC cs ls (λy M=>h y (BZ _ M));simp only[cE,J,O,true_and];intro g u;split at u
  ·rename_i g1 I;split at u
   ·rename_i Z H;simp only[BU]at u;subst u;exact⟨λz Y=>(BV.1 Y).elim ((X g1 I).1 z) ((h4 Z H).1 z),by simp⟩
   ·cases u
  ·cases u
theorem oJ {c:Nat}{q:Nat}:∀ {ls:List Leaf} {c:Nat},q∈aw (aV ls c .nil)->q∈aw ls
 |[],_,h=>h
 |l::ls,0,h=>by
  rw[show aV (l::ls) 0 .nil=.nil::ls from rfl,aM,BV]at h;rw[aM,BV];rcases h with h|h
  ·simp[aw]at h
  ·exact .inr h
 |l::ls,c+1,h=>by
  rw[show aV (l::ls) (c+1) .nil=l::aV ls c .nil from rfl,aM,BV]at h;rw[aM,BV];exact h.imp id (oJ (c:=c))
theorem po {caps:List Nat}{f:FuncId}(H:e8 st st' [.clo f caps]):∀ l∈caps.map (λb=>Leaf.bp b 0),e8 st st' [l]:=by
 intro l M;obtain⟨b,I,rfl⟩:=B8.1 M;have u:b∈ay [Leaf.clo f caps]:=by simp[ay,I]
 have y:∀ r∈ay [Leaf.bp b 0],r=b:=λr z=>by simpa[ay]using z
 exact⟨λq J=>H.d1 q (by rw[y q J];exact u),λr z=>H.d2 r (by rw[y r z];exact u),λr z=>H.d3 r (by rw[y r z];exact u)⟩
theorem nK {caps:List (Bool×Bool×(a:Ty)×a.den)}:∀ l∈caps.map e9,e8 st st' [l]:=by
 intro l z;obtain⟨c,H,rfl⟩:=B8.1 z;have:∀ q,q∉ay [e9 c]:=by
  intro q u;unfold e9 at u;cases y:c.2.1 <;> rw[y]at u <;> simp[ay]at u
 exact⟨λq u=>absurd u (this q),λq u=>absurd u (this q),λq u=>absurd u (this q)⟩
theorem eG {pk:PK}{x:aI×List Leaf}(h:e8 st st' x.2):bm st' pk x=bm st pk x/\∀ g,bm st pk x=some g->nI st st' g:=by
 have Y:∀ q∈aw x.2,st' q=st q:=λq M=>h.d1 q (fR M)
 have h1:=h.one;have H:∀ {b:Bool} {a:Ty} {g:Got a.den},(bif b then (cn st a x.2).map (λt=>(⟨t.p,t.val,t.frz,t.kill,[],[]⟩:Got a.den)) else none)=some g->nI st st' g:=by
  intro b a g u;cases b with
  |false=>simp at u
  |true =>
   simp only[cond_true,B5]at u;obtain⟨t,ht,rfl⟩:=u;obtain⟨p1,p2⟩:=jh ht;exact⟨λz I=>Y _ (p1 z I),λz I=>Y _ (p2 z I)⟩
 cases pk with
 |rd a =>
  simp only[bm,eU Y,jt Y,true_and];intro g u;cases O:decide (x.1=bq a.isAgg) with
  |false=>simp[O]at u
  |true =>
   simp only[O,cond_true,B5]at u;obtain⟨y,_,rfl⟩:=u;exact⟨lx Y,by simp[Got.ofRd]⟩
 |own a =>
  simp only[bm,hI Y,true_and];exact λg u=>H u
 |io a =>
  simp only[bm,hI Y,true_and];exact λg u=>H u
 |rref a=>exact nJ (c:=(false,a)) h1
 |rref2 a=>exact nJ (c:=(true,a)) h1
 |iop a =>
  simp only[bm];split
  ·rename_i b Z;rw[Z]at h1;have O:=h1.d1 b (by simp[ay]);have h3:∀ q∈aw (bJ b (st b).ver 0 (st b).ls),st' q=st q:=by
    intro q M;rcases nF _ _ _ _ _ M with rfl|M
    ·exact O
    ·exact h1.d2 b (by simp[ay]) q (fR M)
   simp only[O,hI h3,true_and];intro g u;cases a0:decide ((st b).sh=.agg) with
   |false=>simp[a0]at u
   |true =>
    simp only[a0,cond_true,B5]at u;obtain⟨t,ht,rfl⟩:=u;obtain⟨p1,p2⟩:=jh ht;exact⟨λz I=>h3 _ (p1 z I),λz I=>h3 _ (p2 z I)⟩
  ·exact⟨rfl,by simp⟩
 |fn As B =>
  simp only[bm,true_and];intro g u;split at u
  ·split at u
   ·simp only[BU]at u;subst u;exact⟨by simp,by simp⟩
   ·cases u
  ·cases u
 |clo f cs =>
  simp only[bm];split
  ·rename_i f' caps Z;rw[Z]at h1;have:=mC cs _ (po h1);rw[this.1];refine⟨rfl,λg u=>?_⟩;cases O:B6 f' f with
   |false=>simp[O]at u
   |true=>rw[O]at u;exact this.2 g u
  ·rename_i f' caps Z;have:=mC (st:=st) (st':=st') cs _ (nK (caps:=caps));rw[this.1];refine⟨rfl,λg u=>?_⟩;cases O:B6 f' f with
   |false=>simp[O]at u
   |true=>rw[O]at u;exact this.2 g u
  ·exact⟨rfl,by simp⟩
 |hol a c off =>
  simp only[bm];have X:∀ q∈aw (aV x.2 c .nil),st' q=st q:=λq M=>Y q (oJ (c:=c) M)
  rw[hI X];cases O:decide (x.1=bq a.isAgg) with
  |false=>exact⟨rfl,by simp⟩
  |true =>
   simp only[cond_true];split
   ·rename_i r j v J;have a2:x.2[c]?=some (.al r j v):=by
     rw[CC]at J;cases M:x.2[c]? with
     |none=>rw[M]at J;simp at J
     |some l0=>rw[M]at J;simp at J;rw[J]
    have hr:=λq M=>Y q (qU a2 q M)
    rw[co hr];refine⟨rfl,λg u=>?_⟩;split at u
    ·rename_i p i o' E e xs _;cases a1:B6 o' off with
     |false=>simp[a1]at u
     |true =>
      rw[a1]at u;simp only[cond_true]at u;split at u
      ·rename_i t ht;split at u
       ·simp only[BU]at u;subst u;obtain⟨p1,p2⟩:=jh ht;refine⟨λz I=>X _ (p1 z I),λz I=>?_⟩;rcases CB.1 I with rfl|I
        ·exact hr r (by simp[aw])
        ·exact X _ (p2 z I)
       ·cases u
      ·cases u
    ·cases u
   ·exact⟨rfl,by simp⟩
theorem kK {ga ga':(pk:PK)->aI×List Leaf->Option (Got pk.den)}:∀ (ps:List PK) (xs:List (aI×List Leaf)),
  (∀ x∈xs,∀ pk,ga' pk x=ga pk x/\∀ g,ga pk x=some g->nI st st' g) ->
  bg ga' ps xs=bg ga ps xs/\∀ g,bg ga ps xs=some g->nI st st' g
 |[],[],_=>⟨rfl,λg u=>by simp only[bg,BU]at u;subst u;exact⟨by simp,by simp⟩⟩
 |[],_::_,_=>⟨rfl,λg u=>by simp[bg]at u⟩
 |_::_,[],_=>⟨rfl,λg u=>by simp[bg]at u⟩
 |p::ps,x::xs,h=>by
  obtain⟨Z,M⟩:=h x (B3 ..) p;obtain⟨h3,X⟩:=kK ps xs (λy hy=>h y (BZ _ hy));simp only[bg,Z,h3,true_and];intro g u;split at u
  ·rename_i Y I;split at u
   ·rename_i O H;simp only[BU]at u;subst u;exact⟨λz J=>(BV.1 J).elim ((M Y I).1 z) ((X O H).1 z),λz J=>(BV.1 J).elim ((M Y I).2 z) ((X O H).2 z)⟩
   ·cases u
  ·cases u
theorem tU {H:List Ty}{B:Ty}{f:FuncId}{ls:List Leaf}(h:∀ l∈ls,e8 st st' [l]):kM Γ st' H B f ls=kM Γ st H B f ls/\∀ g,kM Γ st H B f ls=some g->nI st st' g:=by
 have u:=λ (q:List PK)=>kK (st:=st) (st':=st') (ga:=bm st) (ga':=bm st') q (ls.map λl=>(aI.one,[l])) (λy M Y=>by
  obtain⟨l,O,rfl⟩:=B8.1 M;exact eG (h l O))
 unfold kM;split
 ·rename_i c X;unfold sj;simp only[uN,(u _).1,true_and];intro g z;split at z
  ·cases J:(c.ps.drop H.length).all PK.reads&&B.flat&&c.fresh with
   |false=>simp[J]at z
   |true =>
    simp only[J,cond_true]at z;split at z
    ·rename_i g0 I;simp only[BU]at z;subst z;exact⟨((u _).2 g0 I).1,by simp⟩
    ·cases z
  ·cases z
 ·exact⟨rfl,by simp⟩
theorem wQ {pk:PK}{x:aI×List Leaf}(h:e8 st st' x.2):cg Γ st' pk x=cg Γ st pk x/\∀ g,cg Γ st pk x=some g->nI st st' g:=by
 cases pk with
 |fn O B =>
  simp only[cg];split
  ·rename_i H y;have z:(∃ u,ct x=.clo H.1 u/\H.2=u.map λb=>Leaf.bp b 0)\/∃ u,ct x=.clr H.1 u/\H.2=u.map e9:=by
    generalize ct x=l at y;cases l <;> simp only[vF,BU,reduceCtorEq]at y
    ·subst y;exact .inl ⟨_,rfl,rfl⟩
    ·subst y;exact .inr ⟨_,rfl,rfl⟩
   have J:=h.one;rcases z with ⟨u,z,I⟩|⟨u,z,I⟩
   ·rw[z]at J;rw[I];exact tU (po J)
   ·rw[I];exact tU nK
  ·exact eG h
 |rd a=>exact eG (pk:=.rd a) h
 |own a=>exact eG (pk:=.own a) h
 |io a=>exact eG (pk:=.io a) h
 |rref a=>exact eG (pk:=.rref a) h
 |rref2 a=>exact eG (pk:=.rref2 a) h
 |iop a=>exact eG (pk:=.iop a) h
 |clo f M=>exact eG (pk:=.clo f M) h
 |hol a c off=>exact eG (pk:=.hol a c off) h
theorem tV:∀ (u ls:List Leaf),st' EPO=st EPO->(∀ q∈ay u,st' q=st q)->ce st' u ls=ce st u ls
 |[],_,_,_=>by simp[ce]
 |x::u,[],_,_=>by cases x <;> simp[ce]
 |x::u,l::ls,y,h=>by
  have z:=tV u ls y (λq I=>h q (by rw[dz];exact BY _ I));cases x with
  |al r j v =>
   have H:st' r=st r:=h r (by simp[ay]);simp only[ce,z,bt H,bt y]
  |_=>simp only[ce,z]
theorem qn {p:Bool}:∀ (ps:List PK) (xs:List (aI×List Leaf)) (y:ah ps),st' EPO=st EPO->(∀ x∈xs,∀ q∈ay x.2,st' q=st q)->aH st' p ps xs y=aH st p ps xs y
 |[],_,_,_,_=>by simp[aH]
 |H::ps,[],y,_,h=>by cases H <;> simp[aH]
 |H::ps,x::xs,y,O,h=>by
  have J:=λ (y:ah ps)=>qn (p:=p) ps xs y O (λz Y=>h z (BZ _ Y))
  have M:=h x (B3 ..);cases H with
  |io a =>
   simp only[aH,J];rw[tV x.2 _ (bt O _) (λq u=>bt (M q u) _)]
  |iop a =>
   simp only[aH,J];have X:∀ q∈ay [ct x],st' q=st q:=λq u=>M q (ji u)
   congr 1;split
   ·rename_i b v I;rw[I]at X;rw[bt (X b (by simp[ay]))]
   ·rfl
  |_=>exact J _
theorem qo {n q:Nat}:∀ {ls:List Leaf} {k:Nat},q∈ay (aV ls k (.al TMP 0 n))->q∈ay ls\/q=TMP
 |[],_,h=>.inl h
 |l::ls,0,h=>by
  rw[show aV (l::ls) 0 (.al TMP 0 n)=.al TMP 0 n::ls from rfl,dz,BV]at h;rw[dz,BV];rcases h with h|h
  ·simp[ay]at h;exact .inr h
  ·exact .inl (.inr h)
 |l::ls,k+1,h=>by
  rw[show aV (l::ls) (k+1) (.al TMP 0 n)=l::aV ls k (.al TMP 0 n) from rfl,dz,BV]at h;rw[dz,BV];rcases h with h|h
  ·exact .inl (.inl h)
  ·exact (qo h).imp .inr id
theorem pq {U:Upd}{X ls:List Leaf}(hT:st' TMP=st TMP)(u:∀ q,q≠TMP->∀ z∈ay (ac U st q).ls,z∈ay (st q).ls)(O:ay (ac U st TMP).ls=[])(Z:e8 st st' X)(I:∀ q∈ay ls,q∈ay X\/q=TMP) :
  e8 (ac U st) (ac U st') ls:=by
 have y:∀ r z,z∈ay (ac U st r).ls->r≠TMP:=λr z hz e=>by subst e;rw[O]at hz;simp at hz
 refine⟨λq H=>?_,λr hr q H=>?_,λr hr M Y q H=>?_⟩
 ·rcases I q H with h|h
  ·exact bt (Z.d1 q h) U
  ·subst h;exact bt hT U
 ·have J:=y r q H;exact bt (Z.d2 r ((I r hr).resolve_right J) q (u r J q H)) U
 ·have J:=y r M Y;have h2:=y M q H;exact bt (Z.d3 r ((I r hr).resolve_right J) M (u r J M Y) q (u M h2 q H)) U
theorem oK (hT:st' TMP=st TMP)(hE:st' EPO=st EPO):∀ (ps:List PK) (xs:List (aI×List Leaf)),(∀ x∈xs,e8 st st' x.2)->c9 st' ps xs=c9 st ps xs /\
  ∀ (U:Upd) (X:List (aI×List Leaf)) (b:Option (Bool×Nat×Nat)),c9 st ps xs=some (U,X,b)->(∀ y∈X,e8 (ac U st) (ac U st') y.2)/\(∀ f r j,b=some (f,r,j)->st' r=st r)/\∀ ls,e8 st st' ls->e8 (ac U st) (ac U st') ls
 |[],xs,h=>⟨rfl,λU X b z=>by
   simp only[c9,BU,CF]at z;obtain⟨rfl,rfl,rfl⟩:=z;exact⟨h,(λ_ _ _ h=>by cases h),λ_ h=>h⟩⟩
 |_::_,[],h=>⟨rfl,λU X b z=>by
   simp only[c9,BU,CF]at z;obtain⟨rfl,rfl,rfl⟩:=z;exact⟨h,(λ_ _ _ h=>by cases h),λ_ h=>h⟩⟩
 |p::ps,x::xs,h=>by
  have hx:=h x (B3 ..);obtain⟨i1,i2⟩:=oK hT hE ps xs (λy M=>h y (BZ _ M));simp only[c9];cases hk:p.nest x.2 with
  |none =>
   simp only[i1,true_and];intro U X b z;simp only[B5]at z;obtain⟨u,O,z⟩:=z;simp only[CF]at z;obtain⟨rfl,rfl,rfl⟩:=z;obtain⟨j1,j2,j3⟩:=i2 u.1 u.2.1 u.2.2 O;refine⟨λy M=>?_,j2,j3⟩;rcases CB.1 M with rfl|M
   ·exact j3 _ hx
   ·exact j1 y M
  |some k =>
   obtain⟨l,Y,a0⟩:=rK hk;have hg:x.2.getD k .dead=l:=by rw[CC,Y];rfl
   have Z:∀ q∈aw [l],st' q=st q:=λq J=>hx.d1 q (fR (qU Y q J))
   simp only[hg,qm hT hE Z,true_and];intro U X b z;simp only[B5]at z;obtain⟨u,O,z⟩:=z;simp only[CF]at z;obtain⟨rfl,rfl,rfl⟩:=z;obtain⟨n,e1,I⟩:=oI (U:=u.1) (l':=u.2) O;have H:=uK (U:=u.1) (l':=u.2) O;refine⟨λy M=>?_,λf r j hb=>?_,λls a1=>pq hT I H a1 (λq J=>.inl J)⟩
   ·rcases CB.1 M with rfl|M
    ·refine pq hT I H hx λq J=>?_
     have J:q∈ay (aV x.2 k u.2):=J;rw[e1]at J;exact qo J
    ·exact pq hT I H (h y (BZ _ M)) (λq J=>.inl J)
   ·simp only[BU,CF]at hb;have hr:r=(km l).1:=by rw[hb.2]
    rw[hr];refine Z _ ?_;cases l with
    |nal p ks ep a2 E e xs =>
     cases ks with
     |nil =>
      exfalso;simp only[cr]at O;cases hv:bw st [] ep <;> simp[hv]at O
     |cons k ks=>rw[iy];simp[km]
    |_=>simp[jz]at a0
theorem zL {b:Option (Bool×Nat×Nat)}{U:Upd}(z:st' TMP=st TMP)(u:st' EPO=st EPO)(y:∀ f r j,b=some (f,r,j)->st' r=st r):ka st' b U κ=ka st b U κ:=by
 unfold ka;split
 ·rename_i r j;rw[bt (y true r j rfl),bt z,bt u]
 ·rfl
theorem tW {d:Nat}{f:FuncId}{xs:List (aI×List Leaf)}(hT:st' TMP=st TMP)(X:st' EPO=st EPO)(hx:∀ x∈xs,e8 st st' x.2)(hd:st' d=st d)(hB:st' (B0+d)=st (B0+d)):jA Γ st' d f xs κ=jA Γ st d f xs κ:=by
 unfold jA;split
 ·rename_i c hc;obtain⟨n1,n2⟩:=oK hT X c.ps xs hx;rw[gI,gI,n1];cases hn:c9 st c.ps xs with
  |none=>rfl
  |some u =>
   obtain⟨H,O,b⟩:=u;obtain⟨m1,m2,_⟩:=n2 H O b hn;simp only[CZ];have hg:=kK (st:=ac H st) (st':=ac H st') (ga:=cg Γ (ac H st)) (ga':=cg Γ (ac H st')) c.ps O (λx I pk=>wQ (m1 x I));simp only[oP,hg.1];split
   ·rename_i g a2;obtain⟨h1,h2⟩:=hg.2 g a2;have M:gN st' d c.rs=gN st d c.rs:=by
     unfold gN;split
     ·rw[hB]
     ·rfl
    have hL:∀ q,ac H st' q=ac H st q->∀ U,ac (U++H) st' q=ac (U++H) st q:=λq h U=>by rw[bF,bF];exact bt h U
    have a3:(bif c.fresh then [] else aF (ac H st') g.frz)=(bif c.fresh then [] else aF (ac H st) g.frz):=by rw[kq h1]
    have hk:∀ (U:Upd),aO (ac U (ac H st')) g.kill=aO (ac U (ac H st)) g.kill:=λU=>iz (λz Z=>bt (h2 z Z) U)
    have ho:∀ (U:Upd) (p:Bool) (y:ah c.ps),aH (ac (U++H) st') p c.ps O y=aH (ac (U++H) st) p c.ps O y:=λU p y =>
     qn c.ps O y (hL _ (bt X H) U) (λx I q hq=>hL _ ((m1 x I).d1 q hq) U)
    have J:∀ (U:Upd),(g.frz.map λk=>(k.1,k.2,(ac (U++H) st' k.1).ver))=g.frz.map λk=>(k.1,k.2,(ac (U++H) st k.1).ver):=λU=>C9 λz Z=>by rw[hL _ (h1 z Z) U]
    have Y:∀ U,ac U st' d=ac U st d:=λU=>bt hd U
    have a0:∀ U,ac U st' (B0+d)=ac U st (B0+d):=λU=>bt hB U
    have a1:∀ U,ac U st' EPO=ac U st EPO:=λU=>bt X U
    simp only[M,a3,hk,ho,Y,a0,a1,<- CR,J,zL hT X m2]
   ·rfl
 ·rfl
theorem rT:∀ (u:List Ty) (xs:List (aI×List Leaf)),(∀ x∈xs,∀ q∈aw x.2,st' q=st q)->iU st' u xs=iU st u xs
 |[],[],_=>rfl
 |[],_::_,_=>rfl
 |_::_,[],_=>rfl
 |a::u,x::xs,h=>by
  simp only[iU,eU (h x (B3 ..)),rT u xs (λy z=>h y (BZ _ z))]
theorem wR {r j i off n:Nat}{p:Bool}{E:TypeId}{e:Ty}{xs:List e.den}{h:Option (Nat×Nat)}{ls:List Leaf}(Y:st' r=st r)(J:st' EPO=st EPO)(H:∀ q∈aw ls,st' q=st q):gO st' r j i off n p E e xs h ls κ=gO st r j i off n p E e xs h ls κ:=by
 unfold gO;congr 1;funext u;rw[pm e 0 u ls H];split
 ·rename_i t Z;obtain⟨O,I⟩:=pn e 0 u ls t Z;have M:aF st' t.frz=aF st t.frz:=kq (λz y=>H _ (O z y));have X:∀ U:Upd,aO (ac U st') t.kill=aO (ac U st) t.kill:=λU=>iz (λz y=>bt (H _ (I z y)) U)
  simp only[M,X,Y,bt J]
 ·rfl
end
section
variable {P:Program} {V:Env} {Γ:List Ctr} {T:TypeId->TI} {st st':St} {o:Oper} {R:Type} {κ:Upd->Option R} {r:R}
theorem dA {z:List Nat}(h:∀ q∈z++z.flatMap (λt=>aw (st t).ls),st' q=st q){x:Operand}(H:∀ t,x=.tmp t->t∈z):(∀ t,x=.tmp t->st' t=st t)/\∀ q∈aw (au st x).2,st' q=st q:=by
 refine⟨λt y=>h t (BX _ (H t y)),λq u=>?_⟩;obtain⟨t,y,u⟩:=rP u;rcases u with rfl|u
 ·exact h q (BX _ (H q y))
 ·exact h q (BY _ (CG.2 ⟨t,H t y,u⟩))
theorem nL {z:List Nat}(h:∀ q∈z++z.flatMap (λt=>ay (st t).ls),st' q=st q){x:Operand}(H:∀ t,x=.tmp t->t∈z):(∀ t,x=.tmp t->st' t=st t)/\∀ q∈ay (au st x).2,st' q=st q:=by
 refine⟨λt y=>h t (BX _ (H t y)),λq u=>?_⟩;obtain⟨t,y,u⟩:=rQ u;rcases u with rfl|u
 ·exact h q (BX _ (H q y))
 ·exact h q (BY _ (CG.2 ⟨t,H t y,u⟩))
theorem qp {y:List Nat}(h:∀ q∈kO st y,st' q=st q){x:Operand}(Y:∀ t,x=.tmp t->t∈y):e8 st st' (au st x).2:=by
 have J:∀ q,q∈y->st' q=st q:=λq u=>h q (by simp[kO];exact .inl u)
 have O:∀ q,q∈y.flatMap (λt=>ay (st t).ls)->st' q=st q:=λq u=>h q (by
  unfold kO;exact BX _ (BX _ (BY _ u)))
 have hb:∀ q,q∈(y.flatMap (λt=>ay (st t).ls)).flatMap (λt=>ay (st t).ls)->st' q=st q:=λq u=>h q (by
  unfold kO;exact BX _ (BY _ u))
 have hc:∀ q,q∈((y.flatMap (λt=>ay (st t).ls)).flatMap (λt=>ay (st t).ls)).flatMap (λt=>ay (st t).ls)->st' q=st q:=λq u=>h q (by
  unfold kO;exact BY _ u)
 have Z:∀ r∈ay (au st x).2,r∈y\/r∈y.flatMap (λt=>ay (st t).ls):=by
  intro r H;obtain⟨t,ht,u⟩:=rQ H;rcases u with rfl|u
  ·exact .inl (Y r ht)
  ·exact .inr (CG.2 ⟨t,Y t ht,u⟩)
 have X:∀ r∈ay (au st x).2,∀ q∈ay (st r).ls,q∈y.flatMap (λt=>ay (st t).ls)\/q∈(y.flatMap (λt=>ay (st t).ls)).flatMap (λt=>ay (st t).ls):=by
  intro r H q u;rcases Z r H with z|z
  ·exact .inl (CG.2 ⟨r,z,u⟩)
  ·exact .inr (CG.2 ⟨r,z,u⟩)
 refine⟨λq u=>(Z q u).elim (J q) (O q),λr H q u=>(X r H q u).elim (O q) (hb q),λr H I M q u=>?_⟩;rcases X r H I M with z|z
 ·exact hb q (CG.2 ⟨I,z,u⟩)
 ·exact hc q (CG.2 ⟨I,z,u⟩)
theorem bj {xs:Array Operand}{x:Operand}(h:x∈xs):∀ t,x=.tmp t->t∈iD xs.toList:=λt e=>rO (by rw[<- e];simpa using h)
theorem op_fr (h:∀ q∈fG st o,st' q=st q)(z:∀ x,o.op≠.move x)(H:∀ t x i,o.op≠.indexAddr t x i):∀ q∈cz st o.op,st' q=st q:=λq y=>h q (by
 unfold fG;refine BX _ ?_;cases u:o.op with
 |move x=>exact absurd u (z x)
 |indexAddr t x i=>exact absurd u (H t x i)
 |_=>rw[u]at y;exact y)
theorem AX {α β:Type}{xs:List α}{n:Int}{K:Option β}:((idx xs n).bind λ_=>K)=if 0<=n/\n<xs.length then K else none:=by
 unfold idx;by_cases u:n<0
 ·rw[if_pos u,if_neg (by omega)];rfl
 ·rw[if_neg u];by_cases y:n.toNat<xs.length
  ·rw[CE y,if_pos (by omega)];rfl
  ·rw[C3 (by omega),if_neg (by omega)];rfl
theorem BK (h:∀ q∈fG st o,st' q=st q)(hh:∀ q∈fh st o.op,bN (st' q)=bN (st q)):act Γ T o st' κ=act Γ T o st κ:=by
 have M:=op_fr h;have a0:∀ (U:Upd) (d:Nat) (sh:aI) (ls:List Leaf),o.dst=some d->ck st' U d sh ls=ck st U d sh ls:=λU d sh ls hd=>vt (tT hd h).1
 have hB:∀ d,o.dst=some d->st' (B0+d)=st (B0+d):=λd hd=>(tT hd h).2
 have hw:∀ (sh:aI) (ls:List Leaf),wrU o st' κ sh ls=wrU o st κ sh ls:=by
  intro sh ls;unfold wrU;split
  ·rename_i d hd;rw[a0 _ _ _ _ hd]
  ·rfl
 cases I:o.op with
 |move x =>
  simp only[I,fh]at hh;have e:au st' x=au st x:=yw λt Y=>hh t (bj (by simp[Op.operands]) t Y)
  simp only[act,I,e,hw]
 |assign x =>
  have H:=M (by simp[I]) (by simp[I]);simp only[I,cz]at H;have J:=dA H (x:=x) (bj (by simp[Op.operands]));have e:au st' x=au st x:=d4 J.1;simp only[act,I,e,qX J.2,pj J.2,tQ J.2];split
  ·rename_i d hd;rw[a0 _ _ _ _ hd]
  ·rfl
 |pick c x y =>
  have H:=M (by simp[I]) (by simp[I]);simp only[I,cz]at H;have e1:one st' c=one st c:=dL λt Y=>H t (bj (by simp[Op.operands]) t Y)
  have e2:au st' x=au st x:=d4 λt Y=>H t (bj (by simp[Op.operands]) t Y)
  have e3:au st' y=au st y:=d4 λt Y=>H t (bj (by simp[Op.operands]) t Y)
  simp only[act,I,e1,e2,e3,hw]
 |alloc t =>
  simp only[act,I];split
  ·rename_i d hd;rw[a0 _ _ _ _ hd,hB d hd]
  ·rfl
 |box t x =>
  have H:=M (by simp[I]) (by simp[I]);simp only[I,cz]at H;have J:=dA H (x:=x) (bj (by simp[Op.operands]));have e:au st' x=au st x:=d4 J.1;have ad:sA st' x=sA st x:=by cases x <;> first|rfl|(simp only[sA];rw[J.1 _ rfl])
  simp only[act,I,e,qX J.2,pj J.2,tQ J.2,ad];split
  ·rename_i d hd;simp only[a0 _ _ _ _ hd,hB d hd,bt (hB d hd)]
  ·rfl
 |build t a2 =>
  have H:=M (by simp[I]) (by simp[I]);simp only[I,cz]at H;have hb:∀ a6 ls,fF st' a6 a2.toList ls=fF st a6 a2.toList ls:=λa6 ls=>ql _ _ (λx J t Y=>H t (bj (by simp only[Op.operands,DL,B8];exact⟨x,J,rfl⟩) t Y))
  simp only[act,I,hw,hb]
 |buildSlice t n a2 =>
  have H:=M (by simp[I]) (by simp[I]);simp only[I,cz]at H;have J:∀ x∈a2.toList,(∀ t,x.2=.tmp t->st' t=st t)/\∀ q∈aw (au st x.2).2,st' q=st q:=λx J =>
   dA H (bj (by simp only[Op.operands,DL,B8];exact⟨x,J,rfl⟩))
  simp only[act,I];split
  ·rw[oG _ _ J];split
   ·rename_i u bx;have bn:=oH _ _ _ bx;have b2:∀ z,z∈u.frz\/z∈u.kill->st' z.1=st z.1:=λz hz=>by
     obtain⟨x,b4,b9⟩:=bn z hz;exact (J x b4).2 _ b9
    have e1:aF st' u.frz=aF st u.frz:=kq λz hz=>b2 z (.inl hz)
    have e2:∀ U:Upd,aO (ac U st') u.kill=aO (ac U st) u.kill:=λU=>iz (λz hz=>bt (b2 z (.inr hz)) U)
    simp only[e1,e2];congr 1;split
    ·rename_i d hd;rw[a0 _ _ _ _ hd]
    ·rfl
   ·rfl
  ·rfl
 |load t x =>
  have H:=M (by simp[I]) (by simp[I]);simp only[I,cz]at H;have J:=nL H (x:=x) (bj (by simp[Op.operands]));have e:one st' x=one st x:=dL J.1;have X:∀ q∈ay [one st x],st' q=st q:=λq O=>J.2 q (tR O)
  simp only[act,I,e,hw];congr 1;split
  ·rfl
  ·rename_i b off Z;rw[Z]at X;rw[X b (by simp[ay])]
  ·rfl
  ·rename_i p ks ep a y off Z;rw[Z]at X;rw[jR (λq O=>X q (by simpa[ay]using O))]
  ·rename_i r j v i sz off Z;rw[Z]at X;rw[co (l:=.al r j v) (λq O=>X q (by simp[aw]at O;simp[ay,O])),X EPO (by simp[ay])]
  ·rfl
 |store t x y =>
  have H:=M (by simp[I]) (by simp[I]);simp only[I,cz]at H;have J:=nL H (x:=x) (bj (by simp[Op.operands]));have hy:=nL H (x:=y) (bj (by simp[Op.operands]));have e:one st' x=one st x:=dL J.1;have e2:au st' y=au st y:=d4 hy.1;have X:∀ q∈ay [one st x],st' q=st q:=λq O=>J.2 q (tR O)
  have a7:∀ q∈aw (au st y).2,st' q=st q:=λq O=>hy.2 q (fR O)
  simp only[act,I,e,e2,qX a7,pj a7,tQ a7];split
  ·rfl
  ·congr 1;split
   ·rename_i b off Z;rw[Z]at X;have hb:=X b (by simp[ay]);simp only[hb,bt hb]
   ·rename_i r j v i sz off Z;rw[Z]at X;have c1:=X r (by simp[ay]);rw[co (l:=.al r j v) (λq O=>X q (by simp[aw]at O;simp[ay,O]))];split
    ·rw[wR c1 (X EPO (by simp[ay])) a7]
    ·rfl
   ·rfl
 |nilCheck x =>
  have H:=M (by simp[I]) (by simp[I]);simp only[I,cz]at H;have J:=dA H (x:=x) (bj (by simp[Op.operands]));have e:one st' x=one st x:=dL J.1;have X:∀ q∈aw [one st x],st' q=st q:=λq O=>J.2 q (jx O)
  simp only[act,I,e,hw];split
  ·rfl
  ·rfl
  ·rename_i r j v i sz off Z;rw[Z]at X;rw[X r (by simp[aw])]
  ·rfl
  ·rename_i p ks ep a y off Z;rw[Z,vr]at X;rw[jR X]
  ·rfl
 |binOp op t x y t' =>
  have H:=M (by simp[I]) (by simp[I]);simp only[I,cz]at H;have J:=dA H (x:=x) (bj (by simp[Op.operands]));have hy:=dA H (x:=y) (bj (by simp[Op.operands]));have e1:one st' x=one st x:=dL J.1;have e2:one st' y=one st y:=dL hy.1;have e3:au st' x=au st x:=d4 J.1;have e4:au st' y=au st y:=d4 hy.1;simp only[act,I,e1,e2,e3,e4,hw,eU J.2,eU hy.2]
 |unOp op t x =>
  have H:=M (by simp[I]) (by simp[I]);simp only[I,cz]at H;have e1:one st' x=one st x:=dL λt Y=>H t (bj (by simp[Op.operands]) t Y)
  simp only[act,I,e1,hw]
 |convert s t x =>
  have H:=M (by simp[I]) (by simp[I]);simp only[I,cz]at H;have J:=dA H (x:=x) (bj (by simp[Op.operands]));have e1:one st' x=one st x:=dL J.1;have X:∀ q∈aw [one st x],st' q=st q:=λq O=>J.2 q (jx O)
  simp only[act,I,e1,hw];split
  ·rfl
  ·rw[co X]
  ·rfl
  ·rfl
 |makeSlice t n c =>
  have H:=M (by simp[I]) (by simp[I]);simp only[I,cz]at H;have e1:one st' n=one st n:=dL λt Y=>H t (bj (by simp[Op.operands]) t Y)
  have e2:one st' c=one st c:=dL λt Y=>H t (bj (by simp[Op.operands]) t Y)
  simp only[act,I,e1,e2,hw]
 |slice t x lo hi mx =>
  have H:=M (by simp[I]) (by simp[I]);simp only[I,cz]at H;have hE:=H EPO (B3 ..);have H:=λq O=>H q (BZ _ O)
  have J:=dA H (x:=x) (bj (by simp[Op.operands]));have ba:∀ n,dq st' lo n=dq st lo n:=λn=>nH λy hy t Y=>H t (BX _ (bj (by simp[Op.operands,hy]) t Y))
  have bb:∀ n,dq st' hi n=dq st hi n:=λn=>nH λy hy t Y=>H t (BX _ (bj (by simp[Op.operands,hy]) t Y))
  have e:one st' x=one st x:=dL J.1;have X:∀ q∈aw [one st x],st' q=st q:=λq O=>J.2 q (jx O)
  have bl:∀ m,mx=some m->dq st' (some m) 0=dq st (some m) 0:=λm hm=>nH λy hy t Y=>H t (BX _ (bj (by simp[Op.operands,hm,DQ hy]) t Y))
  simp only[act,I,e,ba,bb,co X,hE];cases hd:o.dst with
  |none=>cases mx <;> rfl
  |some d =>
   cases mx with
   |none=>simp only[a0 _ _ _ _ hd]
   |some m =>
    simp only[bl m rfl];split
    ·rename_i r j v _ Z _;rw[Z]at X;rw[co X,iz (st:=st) (st':=st') (λz hz=>by simp at hz;subst hz;exact X _ (by simp[aw]))];simp only[a0 _ _ _ _ hd]
    ·rfl
 |fieldAddr t x f =>
  have H:=M (by simp[I]) (by simp[I]);simp only[I,cz]at H;have J:=dA H (x:=x) (bj (by simp[Op.operands]));have e:one st' x=one st x:=dL J.1;have X:∀ q∈aw [one st x],st' q=st q:=λq O=>J.2 q (jx O)
  simp only[act,I,e,hw];split
  ·split
   ·split
    ·rfl
    ·rfl
    ·rename_i r j v i sz off Z;rw[Z]at X;rw[X r (by simp[aw])]
    ·rename_i p ks ep a y o' Z;rw[Z,vr]at X;rw[jR X]
    ·rfl
   ·rfl
  ·rfl
 |field t x f =>
  have H:=M (by simp[I]) (by simp[I]);simp only[I,cz]at H;have e1:au st' x=au st x:=d4 λt Y=>H t (bj (by simp[Op.operands]) t Y)
  simp only[act,I,e1,hw]
 |indexAddr t x i =>
  simp only[I,fh]at hh;have b3:∀ y∈(Op.indexAddr t x i).operands,∀ t,y=.tmp t->bN (st' t)=bN (st t):=λy hy t Y=>hh t (BX _ (bj hy t Y))
  have e:one st' x=one st x:=Ac (b3 x (by simp[Op.operands]));have e2:one st' i=one st i:=Ac (b3 i (by simp[Op.operands]));have X:∀ q∈aw [one st x],bN (st' q)=bN (st q):=λq O=>by
   obtain⟨t',c0,O⟩:=rP (jx O);have a5:=bj (xs:=(Op.indexAddr t x i).operands) (x:=x) (by simp[Op.operands]) t' c0;rcases O with rfl|O
   ·exact hh q (BX _ a5)
   ·exact hh q (BY _ (CG.2 ⟨t',a5,O⟩))
  simp only[act,I,e,e2,hw];split
  ·split
   ·rfl
   ·split
    ·rename_i r j v Z;rw[Z]at X;have O:=X r (by simp[aw]);have hv:(st' r).ver=(st r).ver:=by simp only[bN,CF]at O;exact O.1
     simp only[aE,hv];cases B6 (st r).ver v with
     |false=>rfl
     |true =>
      simp only[cond_true];rcases tS (yx O j) with e3|⟨p,p',h1,h2,E1,E2,e',c2,xs,c4,e3,e4,e5,e6⟩
      ·rw[e3]
      ·rw[e3,e4];simp only[pB,e5,AX,e6]
    ·rfl
    ·rename_i p ks ep c3 E' e' xs Z;rw[Z,iy]at X;rw[zK X]
    ·rfl
   ·rfl
  ·rfl
 |index t x i =>
  have H:=M (by simp[I]) (by simp[I]);simp only[I,cz]at H;have J:=dA H (x:=x) (bj (by simp[Op.operands]));have e1:one st' x=one st x:=dL J.1;have e2:one st' i=one st i:=dL (dA H (x:=i) (bj (by simp[Op.operands]))).1;have e3:au st' x=au st x:=d4 J.1;simp only[act,I,e1,e2,e3,hw,λe n=>nE (e:=e) n _ J.2]
 |extract x i =>
  have H:=M (by simp[I]) (by simp[I]);simp only[I,cz]at H;have e1:au st' x=au st x:=d4 λt Y=>H t (bj (by simp[Op.operands]) t Y)
  simp only[act,I,e1,hw]
 |makeFunc fn first a3 =>
  have H:=M (by simp[I]) (by simp[I]);simp only[I,cz]at H;cases fn with
  |func f =>
   have:sD st' a3.toList=sD st a3.toList:=vu (st:=st) (st':=st') a3.toList (some []) (λx J t Y=>H t (bj (by simp[Op.operands];exact .inr (by simpa using J)) t Y));simp only[act,I,hw,this]
  |_=>simp only[act,I]
 |call c =>
  have H:=M (by simp[I]) (by simp[I]);simp only[I,cz]at H;simp only[act,I];split
  ·rfl
  ·rename_i d hd;obtain⟨a9,b1⟩:=tT hd h;cases hc:c.callee with
   |value f =>
    simp only[hc]at H;have hT:=H TMP (B3 ..);have hE:=H EPO (BZ _ (B3 ..));have H:=λq O=>H q (BZ _ (BZ _ O))
    have b0:f∈(Op.call c).operands:=by simp[Op.operands,Call.operands,hc]
    have a8:∀ x∈c.args.toList,x∈(Op.call c).operands:=λx J=>by
     simp only[Op.operands,Call.operands,hc,DM];exact .inr (by simpa using J)
    have a5:∀ x∈(Op.call c).operands,∀ t,x=.tmp t->st' t=st t:=λx J t Y=>H t (by
     unfold kO;exact BX _ (BX _ (BX _ (bj J t Y))))
    have e1:one st' f=one st f:=dL (a5 f b0);have e2:c.args.toList.map (au st')=c.args.toList.map (au st):=C9 λx J=>d4 (a5 x (a8 x J))
    have a4:∀ x∈c.args.toList.map (au st),e8 st st' x.2:=by
     intro x J;obtain⟨y,hy,rfl⟩:=B8.1 J;exact qp H (bj (a8 y hy))
    simp only[e1,e2];split
    ·rename_i g a3 Z;refine tW hT hE ?_ a9 b1;intro x J;rcases BV.1 J with J|J
     ·exact a4 x J
     ·obtain⟨b,hb,rfl⟩:=B8.1 J;have hf:=qp H (bj b0);rw[qY Z (by simp)]at hf;exact po hf _ (B8.2 ⟨b,hb,rfl⟩)
    ·rename_i g a3 Z;refine tW hT hE ?_ a9 b1;intro x J;rcases BV.1 J with J|J
     ·exact a4 x J
     ·obtain⟨cp,b5,rfl⟩:=B8.1 J;exact nK _ (B8.2 ⟨cp,b5,rfl⟩)
    ·rename_i As B φ Z;rw[rT As _ (λx J q O=>(a4 x J).d1 q (fR O))];simp only[hw]
    ·rfl
   |builtin b =>
    simp only[hc]at H;have hT:=H TMP (B3 ..);have H:=λq O=>H q (BZ _ O)
    have a8:∀ x∈c.args.toList,x∈(Op.call c).operands:=λx J=>by
     simp only[Op.operands,Call.operands,hc,DM];exact .inr (by simpa using J)
    have J:∀ x∈c.args.toList,one st' x=one st x/\∀ q∈aw [one st x],st' q=st q:=λx J=>by
     have:=dA H (bj (a8 x J));exact⟨dL this.1,λq O=>this.2 q (jx O)⟩
    cases b with
    |len =>
     dsimp only;split
     ·rename_i x a1;have h1:=J x (by rw[a1];simp);simp only[h1.1,co h1.2,hw]
     ·rfl
    |append =>
     dsimp only;split
     ·rename_i x y t u a1 _;have h1:=J x (by rw[a1];simp);have h2:=J y (by rw[a1];simp);split
      ·rw[h1.1,h2.1,wP hT h1.2 h2.2 a9]
      ·rfl
     ·rfl
    |min =>
     dsimp only;split
     ·rename_i x y a1;rw[(J x (by rw[a1];simp)).1,(J y (by rw[a1];simp)).1];simp only[hw]
     ·rfl
    |max =>
     dsimp only;split
     ·rename_i x y a1;rw[(J x (by rw[a1];simp)).1,(J y (by rw[a1];simp)).1];simp only[hw]
     ·rfl
    |_=>rfl
   |invoke x n=>rfl
 |_=>simp only[act,I]
end
section
variable {P:Program} {V:Env} {Γ:List Ctr} {T:TypeId->TI} {st st':St} {o:Oper} {R:Type} {all:Array Oper}
def mD (Γ:List Ctr)(T:TypeId->TI)(all:Array Oper)(o:Oper)(st:St)(U:Upd):Prop :=
 match o.guard with
 |none=>act Γ T o st some=some U
 |some (j,r)=>∃ t,(all[j]?).bind (·.dst)=some t /\
  ((∃ b,(st t).sh=.one/\(st t).ls=[.bool b]/\((b=r/\act Γ T o st some=some U)\/(b≠r/\U=eX st o)))\/((st t).sh=.und/\U=eX st o))
def jS (Γ:List Ctr)(T:TypeId->TI)(all:Array Oper)(o:Oper)(st:St)(U:Upd)(t:cR):Prop :=
 ((∀ q∈U.map (·.1),q∈t.wr\/q∈t.cw)/\(∀ q∈t.wr,q∈U.map (·.1))/\∀ q,q∈U.map (·.1)->q∉t.wr->bN (ac U st q)=bN (st q))/\match o.guard with
 |none=>act Γ T o st some=some U/\(∀ q∈fG st o,q∈t.rd)/\∀ q∈fh st o.op,q∈t.hd
 |some (j,r)=>∃ s,(all[j]?).bind (·.dst)=some s/\s∈t.rd /\
  ((∃ b,(st s).sh=.one/\(st s).ls=[.bool b]/\((b=r/\act Γ T o st some=some U/\(∀ q∈fG st o,q∈t.rd)/\∀ q∈fh st o.op,q∈t.hd)\/(b≠r/\U=eX st o/\∀ d,o.dst=some d->d∈t.wr))) \/
   ((st s).sh=.und/\U=eX st o/\∀ d,o.dst=some d->d∈t.wr))
theorem tX {α:Type}:∀ {l:List α} {j:Nat} {x:α},l[j]?=some x->l.set j x=l
 |[],_,_,h=>by simp at h
 |y::l,0,x,h=>by simp at h;subst h;rfl
 |y::l,j+1,x,h=>by rw[DF,tX (by simpa using h)]
theorem AY {U:Upd}(h:act Γ T o st some=some U):∀ q∈ee st o,bN (ac U st q)=bN (st q):=by
 intro q z;unfold ee at z;split at z
 ·rename_i t x y J;split at z
  ·rename_i r j a1 i sz off hx;simp only[CU]at z;subst z;simp only[act,wrU,J]at h;split at h
   ·cases h
   ·cases Z:B6 (au st y).2.length (T t).cells&&decide ((au st y).1=bq (T t).agg)&&!decide ((T t).cells=0) with
    |false=>simp[Z]at h
    |true =>
     simp only[Z,cond_true,hx]at h;split at h
     ·rename_i p hh E e xs hd;cases O:B6 sz e.cells&&decide (off+(au st y).2.length<=e.cells)&&sk q with
      |false=>simp[O]at h
      |true =>
       simp only[O,cond_true]at h;obtain⟨_,hl⟩:=fw hd (by simp);have u:∀ (p':Bool) (H:Option (Nat×Nat)) (v:e.den) (X:Upd),bN (ac ((q,⟨(st q).ver,(st q).sh,aV (st q).ls j (.own p' H E e (xs.set i v))⟩)::X) st q)=bN (st q):=by
        intro p' H v X;rw[aR,br];simp only[bN,aV];rw[List.map_set,tX];rw[DI,hl];simp[jF]
       unfold gO at h;obtain⟨a0,_,h⟩:=CS.1 h;split at h
       ·rename_i t _;cases I:t.rest.isEmpty&&be t.kill&&dJ t.frz t.kill&&!((t.kill++t.frz).any λk=>B6 k.1 q) with
        |false=>rw[I]at h;cases h
        |true =>
         simp only[I,cond_true]at h;cases hh with
         |none =>
          simp only[BU]at h;rw[<- h];exact u _ _ _ _
         |some hp =>
          obtain⟨hi,Y⟩:=hp;simp only at h;cases M:C8 off Y&&Cz Y (off+(au st y).2.length) with
          |false =>
           rw[M]at h;simp only[cond_false,BU]at h;rw[<- h];exact u _ _ _ _
          |true =>
           rw[M]at h;simp only[cond_true]at h;cases h2:B6 i hi <;> rw[h2]at h <;> simp only[cond_true,cond_false,BU]at h <;> rw[<- h] <;> exact u _ _ _ _
       ·cases h
     ·cases h
  ·simp at z
 ·simp at z
theorem pt {t:Nat}{b:Bool}(r:(st t).sh=.one)(u:(st t).ls=[.bool b]):lit st t b=st:=by
 funext q;unfold lit;rcases aj t q ⟨(st t).ver,.one,[.bool b]⟩ st with ⟨rfl,e⟩|⟨_,e⟩
 ·rw[e,<- r,<- u]
 ·exact e
theorem wS {U:Upd}(h:act Γ T o st some=some U):(∀ q∈U.map (·.1),q∈(U.map (·.1)).filter (λq=>!((ee st o).any (B6 q)))\/q∈ee st o)/\(∀ q∈(U.map (·.1)).filter (λq=>!((ee st o).any (B6 q))),q∈U.map (·.1)) /\
  ∀ q,q∈U.map (·.1)->q∉(U.map (·.1)).filter (λq=>!((ee st o).any (B6 q)))->bN (ac U st q)=bN (st q):=by
 have r:∀ q,(ee st o).any (B6 q)=true->q∈ee st o:=λq u=>by
  obtain⟨x,z,I⟩:=Cj.1 u;rw[B4 I];exact z
 refine⟨λq u=>?_,λq u=>(Cf.1 u).1,λq u H=>?_⟩
 ·cases y:(ee st o).any (B6 q) with
  |true=>exact .inr (r q y)
  |false=>exact .inl (Cf.2 ⟨u,by rw[y];rfl⟩)
 ·refine AY h q (r q ?_);cases y:(ee st o).any (B6 q) with
  |true=>rfl
  |false=>exact absurd (Cf.2 ⟨u,by rw[y];rfl⟩) H
theorem AZ {κ:St->cR->Option R}{r:R}(h:opK Γ T all o st κ=some r):∃ U t,jS Γ T all o st U t/\κ (ac U st) t=some r:=by
 have Y:∀ (H:List Nat),act Γ T o st (λU=>κ (ac U st) ⟨H++fG st o,fh st o.op,(U.map (·.1)).filter (λq=>!((ee st o).any (B6 q))),ee st o⟩)=some r ->
   ∃ U,act Γ T o st some=some U/\κ (ac U st) ⟨H++fG st o,fh st o.op,(U.map (·.1)).filter (λq=>!((ee st o).any (B6 q))),ee st o⟩=some r:=by
  intro H h;rw[tP]at h;obtain⟨U,M,X⟩:=CS.1 h;exact⟨U,M,X⟩
 have u:((∀ q∈(eX st o).map (·.1),q∈o.dst.toList\/q∈([]:List Nat))/\(∀ q∈o.dst.toList,q∈(eX st o).map (·.1))/\∀ q,q∈(eX st o).map (·.1)->q∉o.dst.toList->bN (ac (eX st o) st q)=bN (st q)):=by
  unfold eX;cases o.dst with
  |none=>simp
  |some d=>simp
 unfold opK at h;unfold jS;cases hg:o.guard with
 |none =>
  simp only[hg]at h;obtain⟨U,M,X⟩:=Y [] h;exact⟨U,_,⟨wS M,M,λq z=>by simpa using z,λq z=>z⟩,X⟩
 |some jw =>
  obtain⟨j,O⟩:=jw;simp only[hg]at h;split at h
  ·rename_i t Z;have J:∀ d,o.dst=some d->d∈o.dst.toList:=λd hd=>by simp[hd]
   split at h
   ·rename_i b y I;have hl:∀ b',b'=b->lit st t b'=st:=λb' e=>pt y (by rw[I,e])
    cases b with
    |true =>
     simp only[cond_true,hl true rfl]at h;cases O with
     |true =>
      simp only[cond_true]at h;obtain⟨U,M,X⟩:=Y [t] h;exact⟨U,_,⟨wS M,t,Z,by simp,.inl ⟨true,y,I,.inl ⟨rfl,M,λq z=>BY _ z,λq z=>z⟩⟩⟩,X⟩
     |false =>
      simp only[cond_false]at h;exact⟨eX st o,_,⟨u,t,Z,by simp,.inl ⟨true,y,I,.inr ⟨by simp,rfl,J⟩⟩⟩,h⟩
    |false =>
     simp only[cond_false,hl false rfl]at h;cases O with
     |true =>
      simp only[cond_true]at h;exact⟨eX st o,_,⟨u,t,Z,by simp,.inl ⟨false,y,I,.inr ⟨by simp,rfl,J⟩⟩⟩,h⟩
     |false =>
      simp only[cond_false]at h;obtain⟨U,M,X⟩:=Y [t] h;exact⟨U,_,⟨wS M,t,Z,by simp,.inl ⟨false,y,I,.inl ⟨rfl,M,λq z=>BY _ z,λq z=>z⟩⟩⟩,X⟩
   ·rename_i y;exact⟨eX st o,_,⟨u,t,Z,by simp,.inr ⟨y,rfl,J⟩⟩,h⟩
   ·cases h
  ·cases h
theorem vv {U:Upd}(e:U=eX st o)(u:∀ d,o.dst=some d->st' d=st d):U=eX st' o:=by
 rw[e];unfold eX;cases r:o.dst with
 |none=>rfl
 |some d=>simp only[u d r]
theorem jS.frame {U:Upd}{t:cR}(h:jS Γ T all o st U t)(u:∀ q,q∈t.rd\/q∈t.wr->st' q=st q)(hh:∀ q∈t.hd,bN (st' q)=bN (st q)):mD Γ T all o st' U:=by
 obtain⟨_,h⟩:=h;have r:act Γ T o st some=some U->(∀ q∈fG st o,q∈t.rd)->(∀ q∈fh st o.op,q∈t.hd)->act Γ T o st' some=some U:=by
  intro y M z;rw[BK (λq I=>u q (.inl (M q I))) (λq I=>hh q (z q I))];exact y
 unfold mD;cases hg:o.guard with
 |none =>
  rw[hg]at h;exact r h.1 h.2.1 h.2.2
 |some jw =>
  obtain⟨j,a0⟩:=jw;rw[hg]at h;obtain⟨s,y,M,z⟩:=h;have J:=u s (.inl M);refine⟨s,y,?_⟩;rw[J];rcases z with ⟨b,h4,Z,Y⟩|⟨h4,Z,Y⟩
  ·refine .inl ⟨b,h4,Z,?_⟩;rcases Y with ⟨X,H,h9,O⟩|⟨X,H,h9⟩
   ·exact .inl ⟨X,r H h9 O⟩
   ·exact .inr ⟨X,vv H (λd hd=>u d (.inr (h9 d hd)))⟩
  ·exact .inr ⟨h4,vv Z (λd hd=>u d (.inr (Y d hd)))⟩
theorem wT (hV:ax V)(hT:TOk P T)(hΓ:∀ c∈Γ,bT P c){ops:Array Oper}{i:Nat}(hi:ops[i]?=some o)(O:bR V o)(z:∀ j u,o.guard=some (j,u)->∀ s,(ops[j]?).bind (·.dst)=some s->s<V.nt)
  {U:Upd} (h:mD Γ T ops o st U) {a:Act} {w:World} (H:Rel P V st a w) {K:Act->World->Prop} {Q:Exit->Act->World->Prop} (hK:∀ a' w',Rel P V (ac U st) a' w'->K a' w'):wpOp P ops Q i K a w:=by
 obtain⟨W,H⟩:=H;unfold wpOp;simp only[hi];have Z:act Γ T o st some=some U->o.wp P a w K Q:=by
  intro X;obtain⟨U',h2,Y⟩:=BJ hV hT hΓ O X;cases h2;exact Y W a w H K Q hK
 have y:U=eX st o->K (a.put o.dst undef) w:=by
  intro e;refine hK _ _ ?_;subst e;unfold eX;cases hd:o.dst with
  |none=>exact⟨W,H⟩
  |some d=>exact H.putLs hV d (O d hd).1 (O d hd).2 _ .und [] undef [] (Cd _) ⟨rfl,rfl⟩ trivial
 unfold mD at h;cases M:o.guard with
 |none =>
  rw[M]at h;have J:Region.wanted o (yielded ops a.tmps)=true:=by simp[Region.wanted,M]
  rw[if_pos J];exact .inl (Z h)
 |some jw =>
  obtain⟨j,u⟩:=jw;rw[M]at h;obtain⟨s,X,h2⟩:=h;have a1:=z j u M s X;have a2:s<GH:=DG a1 hV.nt;have r:=H.slots s a2;have a3:s<a.tmps.size:=by rw[H.nt];exact a1
  have I:a.tmps[s]?=some (a.tmps.getD s undef):=by
   rw[CA,B9 a3];rfl
  rcases h2 with ⟨b,Y,h4,h5⟩|⟨Y,h5⟩
  ·have a0:=H.len s;rw[h4]at a0;rw[Y]at r;have r:W.cs s=[a.tmps.getD s undef]:=r;have hv:=H.leaf s 0 (.bool b) (a.tmps.getD s undef) (by rw[h4];rfl) (by rw[r];rfl);have hv:a.tmps.getD s undef=.bool b:=hv;have hy:yielded ops a.tmps j=some b:=by simp[yielded,X,I,hv]
   rcases h5 with ⟨rfl,h6⟩|⟨h6,h7⟩
   ·have J:Region.wanted o (yielded ops a.tmps)=true:=by simp[Region.wanted,M,hy]
    rw[if_pos J];exact .inl (Z h6)
   ·have J:Region.wanted o (yielded ops a.tmps)=false:=by
     simp only[Region.wanted,M,hy];cases b <;> cases u <;> simp at h6 <;> rfl
    rw[J];exact y h7
  ·rw[Y]at r;obtain⟨hv,_⟩:=r;have hy:yielded ops a.tmps j=none:=by
    unfold yielded;rw[X,CZ,I,hv];rfl
   have J:Region.wanted o (yielded ops a.tmps)=false:=by simp[Region.wanted,M,hy]
   rw[J];exact y h5
def Run (Γ:List Ctr)(T:TypeId->TI)(all:Array Oper):St->List Oper->List Upd->List cR->St->Prop
 |st,[],[],[],st'=>st'=st
 |st,o::y,U::r,t::u,st'=>jS Γ T all o st U t/\Run Γ T all (ac U st) y r u st'
 |_,_,_,_,_=>False
theorem pu:∀ (H:List Oper) (st:St) (y:List cR) (z:St->List cR->Option R) (r:R),qu Γ T all H st y z=some r ->
  ∃ I u st',Run Γ T all st H I u st'/\z st' (y++u)=some r
 |[],st,y,z,r,h=>⟨[],[],st,rfl,by simpa[qu]using h⟩
 |o::H,st,y,z,r,h=>by
  simp only[qu]at h;obtain⟨U,t,M,O⟩:=AZ h;obtain⟨I,u,st',X,J⟩:=pu H (ac U st) (y++[t]) z r O;exact⟨U::I,t::u,st',⟨M,X⟩,by rw[CR]at J;exact J⟩
theorem jS.res {U:Upd}{t:cR}(h:jS Γ T all o st U t):mD Γ T all o st U:=h.frame (λ_ _=>rfl) (λ_ _=>rfl)
theorem vw (Z:ax V)(Y:TOk P T)(hΓ:∀ c∈Γ,bT P c){ops:Array Oper}(y:∀ (i:Nat) (o:Oper),ops[i]?=some o->bR V o)
  (r:∀ (i:Nat) (o:Oper),ops[i]?=some o->∀ j u,o.guard=some (j,u)->∀ s,(ops[j]?).bind (·.dst)=some s->s<V.nt) {Q:Exit->Act->World->Prop} :
  ∀ (z:List Oper) (k:Nat) (st:St) (us:List Upd) (I:List cR) (st':St),ops.toList.drop k=z->Run Γ T ops st z us I st'->(∀ a w,Rel P V st' a w->Q .normal a w) ->
   ∀ a w,Rel P V st a w->wpOps P ops Q (List.range' k z.length) a w
 |[],k,st,[],[],st',_,h,H,a,w,M=>by
  have h:st'=st:=h;subst h;exact H a w M
 |o::z,k,st,U::us,t::I,st',X,h,H,a,w,M=>by
  obtain⟨h1,h2⟩:=h;have J:ops[k]?=some o:=by
   have:(ops.toList.drop k)[0]?=some o:=by rw[X];rfl
   rw[List.getElem?_drop]at this;simpa using this
  rw[Ca,List.range'_succ,wpOps_cons];refine wT Z Y hΓ J (y k o J) (r k o J) h1.res M (λa' w' O=>?_);exact vw Z Y hΓ y r z (k+1) (ac U st) us I st' (by rw[<- C5,X];rfl) h2 H a' w' O
end
section
variable {P:Program} {V:Env} {Γ:List Ctr} {T:TypeId->TI} {st st':St} {o:Oper} {R:Type} {all:Array Oper}
def dn (D:Nat->Bool):List Upd->St->St
 |[],st=>st
 |U::r,st=>dn (λj=>D (j+1)) r (bif D 0 then ac U st else st)
theorem jy {q:Nat}:∀ {U:Upd} (s u:St),q∈U.map (·.1)->ac U s q=ac U u q
 |[],_,_,h=>by simp at h
 |(r,c)::U,s,u,h=>by
  simp only[ac];cases y:B6 q r with
  |true=>rfl
  |false =>
   simp only[cond_false];refine jy s u ?_;simp only[CL,CB]at h;rcases h with rfl|h
   ·simp at y
   ·exact h
theorem eV {q:Nat}:∀ {U:Upd} (s:St),q∉U.map (·.1)->ac U s q=s q
 |[],_,_=>rfl
 |(r,c)::U,s,h=>by
  simp only[CL,CB,not_or]at h;have u:B6 q r=false:=by
   cases u:B6 q r with
   |false=>rfl
   |true=>exact absurd (B4 u) h.1
  simp only[ac,u,cond_false];exact eV s h.2
theorem yy {U r:Upd}(h:∀ q,q∈U.map (·.1)->q∉r.map (·.1))(s:St):ac r (ac U s)=ac U (ac r s):=by
 funext q;by_cases u:q∈U.map (·.1)
 ·rw[eV _ (h q u)];exact jy _ _ u
 ·rw[eV (U:=U) _ u];by_cases y:q∈r.map (·.1)
  ·exact jy _ _ y
  ·rw[eV _ y,eV _ y,eV _ u]
theorem mE:∀ {us:List Upd} {D D':Nat->Bool} {s:St},(∀ j,j<us.length->D j=D' j)->dn D us s=dn D' us s
 |[],_,_,_,_=>rfl
 |U::us,D,D',s,h=>by
  simp only[dn];rw[h 0 (by simp)];exact mE (λj r=>h (j+1) (by simpa using r))
theorem nM:∀ {us:List Upd} {D:Nat->Bool} {s:St},(∀ j,D j=false)->dn D us s=s
 |[],_,_,_=>rfl
 |U::us,D,s,h=>by
  simp only[dn,h 0,cond_false];exact nM (λj=>h (j+1))
theorem mF {q:Nat}:∀ {us:List Upd} {D D':Nat->Bool} {s r:St},s q=r q->(∀ (j:Nat) (U:Upd),us[j]?=some U->q∈U.map (·.1)->D j=D' j)->dn D us s q=dn D' us r q
 |[],_,_,_,_,h,_=>h
 |U::us,D,D',s,r,h,H=>by
  simp only[dn];refine mF ?_ (λj y z I=>H (j+1) y (by simpa using z) I);by_cases u:q∈U.map (·.1)
  ·rw[H 0 U rfl u];cases D' 0 with
   |true=>exact jy _ _ u
   |false=>exact h
  ·have M:∀ b:Bool,(bif b then ac U s else s) q=s q:=by intro b;cases b <;> simp[eV _ u]
   have J:∀ b:Bool,(bif b then ac U r else r) q=r q:=by intro b;cases b <;> simp[eV _ u]
   rw[M,J,h]
theorem nN {U:Upd}:∀ {us:List Upd} {D:Nat->Bool} {s:St},(∀ (j:Nat) (u:Upd),us[j]?=some u->D j=true->∀ q,q∈U.map (·.1)->q∉u.map (·.1))->dn D us (ac U s)=ac U (dn D us s)
 |[],_,_,_=>rfl
 |u::us,D,s,h=>by
  simp only[dn];cases H:D 0 with
  |true =>
   simp only[cond_true];rw[yy (h 0 u rfl H)];exact nN (λj r y z=>h (j+1) r (by simpa using y) z)
  |false =>
   simp only[cond_false];exact nN (λj r y z=>h (j+1) r (by simpa using y) z)
theorem oL {U:Upd}:∀ {us:List Upd} {i:Nat} {D D':Nat->Bool} {s:St},us[i]?=some U->D i=false->(∀ j,D' j=(D j||B6 j i)) ->
  (∀ (j:Nat) (u:Upd),us[j]?=some u->i<j->D j=true->∀ q,q∈U.map (·.1)->q∉u.map (·.1))->dn D' us s=ac U (dn D us s)
 |[],i,_,_,_,h,_,_,_=>by simp at h
 |V::us,0,D,D',s,h,I,r,H=>by
  simp at h;subst h;simp only[dn];have z:D' 0=true:=by rw[r 0];simp
  rw[z,I];simp only[cond_true,cond_false];have e:dn (λj=>D' (j+1)) us (ac V s)=dn (λj=>D (j+1)) us (ac V s):=mE (λj _=>by rw[r (j+1)];simp[B6]);rw[e];exact nN (λj u y J=>H (j+1) u (by simpa using y) (by omega) J)
 |V::us,i+1,D,D',s,h,I,r,H=>by
  simp only[dn];have z:D' 0=D 0:=by rw[r 0];simp[B6]
  rw[z];exact oL (i:=i) (by simpa using h) I (λj=>by rw[r (j+1)];simp[B6]) (λj u y J M=>H (j+1) u (by simpa using y) (by omega) M)
theorem qZ:∀ {r:List Oper} {us:List Upd} {u:List cR} {s z:St},Run Γ T all s r us u z->∀ (i:Nat) (o:Oper),r[i]?=some o ->
  ∃ U t,us[i]?=some U/\u[i]?=some t/\jS Γ T all o (dn (λj=>decide (j<i)) us s) U t
 |[],_,_,_,_,_,i,o,h=>by simp at h
 |H::r,[],_,_,_,h,_,_,_=>h.elim
 |H::r,_::_,[],_,_,h,_,_,_=>h.elim
 |H::r,U::us,t::u,s,z,h,0,o,y=>by
  simp at y;subst y;exact⟨U,t,rfl,rfl,by rw[nM (λj=>by simp)];exact h.1⟩
 |H::r,U::us,t::u,s,z,h,i+1,o,y=>by
  obtain⟨M,X,I,O,J⟩:=qZ h.2 i o (by simpa using y);refine⟨M,X,by simpa using I,by simpa using O,?_⟩;simp only[dn];have e:(λj=>decide (j+1<i+1))=λj=>decide (j<i):=by funext j;simp
  rw[e];simpa using J
theorem vz:∀ {r:List Oper} {us:List Upd} {y:List cR} {s u:St},Run Γ T all s r us y u->us.length=r.length/\y.length=r.length/\u=dn (λ_=>true) us s
 |[],[],[],_,_,h=>⟨rfl,rfl,h⟩
 |[],_::_,_,_,_,h=>h.elim
 |[],[],_::_,_,_,h=>h.elim
 |_::_,[],_,_,_,h=>h.elim
 |_::_,_::_,[],_,_,h=>h.elim
 |o::r,U::us,t::y,s,u,h=>by
  obtain⟨z,H,I⟩:=vz h.2;exact⟨by simp[z],by simp[H],by simpa[dn]using I⟩
theorem q8 {q:Nat}:∀ {os:List Oper} {us:List Upd} {M:List cR} {J s':St} {D:Nat->Bool} {F:Nat->Bool} {s sF:St} {B:Prop},Run Γ T all J os us M s'->(∀ (j:Nat) (t:cR),M[j]?=some t->F j=decide (q∈t.wr)) ->
  bN (s q)=bN (sF q)->(B->bN (sF q)=bN (J q)) ->
  (∀ (j:Nat) (t:cR) (U:Upd),M[j]?=some t->us[j]?=some U->D j=true->q∉t.wr->q∈U.map (·.1)->B/\∀ (k:Nat) (t':cR),k<j->M[k]?=some t'->q∈t'.wr->D k=true) ->
  bN (dn D us s q)=bN (dn (λj=>D j&&F j) us sF q)
 |[],[],[],_,_,_,_,_,_,_,_,_,z,_,_=>z
 |[],_::_,_,_,_,_,_,_,_,_,h,_,_,_,_=>h.elim
 |[],[],_::_,_,_,_,_,_,_,_,h,_,_,_,_=>h.elim
 |_::_,[],_,_,_,_,_,_,_,_,h,_,_,_,_=>h.elim
 |_::_,_::_,[],_,_,_,_,_,_,_,h,_,_,_,_=>h.elim
 |o::os,U::us,t::M,J,s',D,F,s,sF,B,h,hF,z,Z,O=>by
  obtain⟨⟨⟨k1,k2,k3⟩,_⟩,H⟩:=h;have y:=hF 0 t rfl;simp only[dn];refine q8 (F:=λj=>F (j+1)) (B:=B/\(q∈t.wr->D 0=true)) H (λj t' ht=>hF (j+1) t' (by simpa using ht)) ?_ ?_ ?_
  ·by_cases r:q∈U.map (·.1)
   ·by_cases u:q∈t.wr
    ·rw[y,decide_eq_true u,Cv];cases D 0 with
     |true=>simp only[cond_true];rw[jy s sF r]
     |false=>exact z
    ·rw[y,decide_eq_false u,Co];simp only[cond_false];cases I:D 0 with
     |true =>
      simp only[cond_true];rw[jy s J r,k3 q r u];exact (Z (O 0 t U rfl rfl I u r).1).symm
     |false=>exact z
   ·have e:∀ (b:Bool) (x:St),(bif b then ac U x else x) q=x q:=by intro b x;cases b <;> simp[eV _ r]
    rw[e,e];exact z
  ·rintro⟨hB,I⟩;by_cases r:q∈U.map (·.1)
   ·by_cases u:q∈t.wr
    ·rw[y,decide_eq_true u,Cv,I u];simp only[cond_true];rw[jy sF J r]
    ·rw[y,decide_eq_false u,Co];simp only[cond_false];rw[k3 q r u];exact Z hB
   ·have e:∀ (b:Bool) (x:St),(bif b then ac U x else x) q=x q:=by intro b x;cases b <;> simp[eV _ r]
    rw[e,eV _ r];exact Z hB
  ·intro j t' U' ht hU I u r;obtain⟨g1,g2⟩:=O (j+1) t' U' (by simpa using ht) (by simpa using hU) I u r;exact⟨⟨g1,λX=>g2 0 t (by omega) rfl X⟩,λk t2 hk Y a0=>g2 (k+1) t2 (by omega) (by simpa using Y) a0⟩
theorem rU {f:Nat->Nat}{i:Nat}:∀ (l:List Edge) (s:Nat),(l.foldl (λs e=>bif Region.binds .any e then s ||| 2 ^ e.on ||| f e.on else s) s).testBit i=true ->
  s.testBit i=true\/∃ e∈l,Region.binds .any e=true/\(i=e.on\/(f e.on).testBit i=true)
 |[],s,h=>.inl h
 |e::l,s,h=>by
  simp only[DR]at h;rcases rU l _ h with h|⟨z,u,y⟩
  ·cases r:Region.binds .any e with
   |false=>rw[r]at h;exact .inl h
   |true =>
    rw[r]at h;simp only[cond_true,Nat.testBit_or,Ck]at h;rcases h with (h|h)|h
    ·exact .inl h
    ·refine .inr ⟨e,B3 ..,r,.inl ?_⟩;rw[Nat.testBit_two_pow]at h;exact (of_decide_eq_true h).symm
    ·exact .inr ⟨e,B3 ..,r,.inr h⟩
  ·exact .inr ⟨z,BZ _ u,y⟩
theorem tY:∀ (z:List Oper) (r:List Nat),(∀ j,j<r.length->(jT z r).getD j 0=r.getD j 0) /\
  ∀ (k:Nat) (o:Oper),z[k]?=some o->∃ u:List Nat,u.length=r.length+k/\(∀ j,j<u.length->u.getD j 0=(jT z r).getD j 0) /\
   (jT z r).getD (r.length+k) 0=o.after.toList.foldl (λs e=>bif Region.binds .any e then s ||| 2 ^ e.on ||| u.getD e.on 0 else s) 0
 |[],r=>⟨λ_ _=>rfl,λk o h=>by simp at h⟩
 |o::z,r=>by
  obtain⟨I,J⟩:=tY z (r++[o.after.toList.foldl (λs e=>bif Region.binds .any e then s ||| 2 ^ e.on ||| r.getD e.on 0 else s) 0]);have y:∀ j,j<r.length->(jT (o::z) r).getD j 0=r.getD j 0:=by
   intro j H;simp only[jT];rw[I j (by simp;omega)];simp[CC,CO H]
  refine⟨y,λk O h=>?_⟩;cases k with
  |zero =>
   simp at h;subst h;refine⟨r,rfl,λj H=>(y j H).symm,?_⟩;simp only[jT];rw[Nat.add_zero,I r.length (by simp)];simp[CC]
  |succ k =>
   obtain⟨u,X,Y,M⟩:=J k O (by simpa using h);refine⟨u,by simp at X;omega,λj H=>Y j H,?_⟩;simp only[jT];have e:r.length+(k+1)=(r++[o.after.toList.foldl (λs e=>bif Region.binds .any e then s ||| 2 ^ e.on ||| r.getD e.on 0 else s) 0]).length+k:=by simp;omega
   rw[e];exact M
theorem jG {ops:Array Oper}{D:Nat->Prop}(z:∀ (j:Nat) (o:Oper),ops[j]?=some o->D j->∀ e∈o.after.toList,Region.binds .any e=true->D e.on) :
  ∀ (n j:Nat),j<n->∀ (o:Oper),ops[j]?=some o->(∀ e∈o.after.toList,Region.binds .any e=true->D e.on)->∀ i,((jT ops.toList []).getD j 0).testBit i=true->D i
 |0,_,h,_,_,_,_,_=>by omega
 |n+1,j,hj,o,J,X,i,Y=>by
  obtain⟨r,Z,h2,I⟩:=(tY ops.toList []).2 j o (by simpa using J);simp only[List.length_nil,Ce]at Z I;rw[I]at Y;rcases rU (f:=λk=>r.getD k 0) _ _ Y with h|⟨e,O,M,y⟩
  ·simp at h
  ·rcases y with rfl|y
   ·exact X e O M
   ·have H:e.on<r.length:=by
     apply CP;intro hn;have:r.getD e.on 0=0:=by
      rw[CC,C3 (by omega)];rfl
     rw[this]at y;simp at y
    rw[h2 _ H]at y;have hD:=X e O M;have u:e.on<ops.size:=by
     have:=(Cp.1 J).1;omega
    exact jG z n e.on (by omega) ops[e.on] (B9 u) (z e.on _ (B9 u) hD) i y
theorem gh {a b:List Nat}(h:l8 a b=false){q:Nat}(r:q∈a):q∉b:=by
 intro u;unfold l8 at h;rw[Ct]at h;have:=h q r;simp only[Cj,not_exists,not_and]at this;exact this q u (by simp)
theorem lA {r:List Nat}{u:List cR}(h:pE r u=true){i j:Nat}(z:i<j){x y:cR}(O:u[i]?=some x)(I:u[j]?=some y):(r.getD j 0).testBit i=true\/x.apart y=true:=by
 unfold pE at h;rw[CK]at h;have M:=(B7.1 I).1;have H:=h j (by simpa using M);rw[CK]at H;have J:=H i (by simpa using z);simp only[O,I,Ck]at J;exact J
theorem qq {p p':Nat->Bool}{i:Nat}(I:p i=true)(r:p' i=false)(h:∀ j,j≠i->p' j=p j):∀ (l:List Nat),l.Nodup->i∈l->l.countP p'+1=l.countP p
 |[],_,H=>by simp at H
 |x::l,u,H=>by
  rw[CV]at u;by_cases z:x=i
  ·subst z;have e:l.countP p'=l.countP p:=by
    apply List.countP_congr;intro y J;rw[h y (λe=>u.1 (e ▸ J))]
   simp[I,r,e]
  ·have M:=qq I r h l u.2 ((CB.1 H).resolve_left (λe=>z e.symm));simp only[DN,h x z];omega
theorem BL (hV:ax V)(hT:TOk P T)(hΓ:∀ c∈Γ,bT P c){ops:Array Oper}(e7:∀ (i:Nat) (o:Oper),ops[i]?=some o->bR V o)
  (b4:∀ (i:Nat) (o:Oper),ops[i]?=some o->∀ j cb,o.guard=some (j,cb)->∀ s,(ops[j]?).bind (·.dst)=some s->s<V.nt) {Q:Exit->Act->World->Prop}
  {us:List Upd} {ts:List cR} {s0 s1:St} (a1:Run Γ T ops s0 ops.toList us ts s1) (a4:nS ops=true) (c1:pE (jT ops.toList []) ts=true) (hQ:∀ a w,Rel P V s1 a w->Q .normal a w) :
  ∀ (a3:Nat) (r:Array Bool) (a:Act) (w:World),r.size=ops.size->(DT ops.size).countP (λi=>!r.getD i true)=a3 ->
   (∀ (j:Nat) (o:Oper),ops[j]?=some o->r.getD j false=true->∀ e∈o.after.toList,Region.binds .any e=true->r.getD e.on false=true) ->
   Rel P V (dn (λj=>r.getD j false) us s0) a w->wpAny P .any ops Q a3 r a w:=by
 obtain⟨eg,ec,cp⟩:=vz a1;have ed:ops.toList.length=ops.size:=DA;have b9:∀ (r:Array Bool),r.size=ops.size->Region.ready .any ops r=[]->∀ i,i<ops.size->r.getD i false=true:=by
  intro r a2 hr i;induction i using DS with
  |ind i ih =>
   intro hi;cases hl:r.getD i false with
   |true=>rfl
   |false =>
    exfalso;have dd:r.getD i true=false:=by
     rw[CA,B9 (by omega)]at hl ⊢;exact hl
    have ho:ops[i]?=some ops[i]:=B9 hi;have bb:i∈Region.ready .any ops r:=by
     unfold Region.ready;rw[Cf];refine⟨by simpa using hi,?_⟩;rw[dd,ho];simp only[DU,DE,CN,DO];rw[Ch];intro e he;cases e4:Region.binds .any e with
     |false=>rfl
     |true =>
      simp only[Bool.not_true,Bool.false_or];have ba:e.on<i:=by
       unfold nS at a4;rw[CK]at a4;have:=a4 i (by simpa using hi);simp only[ho]at this;rw[CK]at this;have:=this e (by simpa using he);simpa[e4]using this
      exact ih e.on ba (by omega)
    rw[hr]at bb;simp at bb
 have bn:∀ (r:Array Bool) (a:Act) (w:World),r.size=ops.size->Rel P V (dn (λj=>r.getD j false) us s0) a w->Region.ready .any ops r=[]->Q .normal a w:=by
  intro r a w a2 hr b5;refine hQ a w ?_;rw[cp];have:dn (λ_=>true) us s0=dn (λj=>r.getD j false) us s0:=mE (λj J=>(b9 r a2 b5 j (by omega)).symm);rw[this];exact hr
 intro a3;induction a3 with
 |zero =>
  intro r a w a2 X b2 hr;have b5:Region.ready .any ops r=[]:=by
   unfold Region.ready;rw[List.filter_eq_nil_iff];intro i hi hc;rw[DB]at X;have:=X i hi;simp only[BW]at hc;exact this hc.1
  exact⟨b5,bn r a w a2 hr b5⟩
 |succ a3 ih =>
  intro r a w a2 X b2 hr;refine⟨bn r a w a2 hr,λi hi=>?_⟩;unfold Region.ready at hi;rw[Cf]at hi;obtain⟨b3,c0⟩:=hi;have b3:i<ops.size:=by simpa using b3
  have ho:ops[i]?=some ops[i]:=B9 b3;rw[ho]at c0;simp only[BW,CY,CN,DO]at c0;obtain⟨a8,a7⟩:=c0;rw[Ch]at a7;have O:r.getD i false=false:=by
   rw[CA,B9 (by omega)]at a8 ⊢;exact a8
  have d1:∀ e∈(ops[i]).after.toList,Region.binds .any e=true->r.getD e.on false=true:=by
   intro e he hb;have:=a7 e (by simpa using he);simpa[hb]using this
  obtain⟨U,t,hU,ht,a9⟩:=qZ a1 i ops[i] (by simp);have b1:∀ (j:Nat) (o:Oper),ops[j]?=some o->(λk=>r.getD k false=true) j->∀ e∈o.after.toList,Region.binds .any e=true->(λk=>r.getD k false=true) e.on:=b2;obtain⟨e6,_,_⟩:=a9.1;have Y:∀ (j:Nat) (M:Upd),us[j]?=some M->∃ H,ts[j]?=some H/\(∀ q∈M.map (·.1),q∈H.wr\/q∈H.cw)/\∀ q∈H.wr,q∈M.map (·.1):=by
   intro j M J;have a5:j<ops.size:=by
    have:=(B7.1 J).1;omega
   obtain⟨U2,t2,h1,Z,h3⟩:=qZ a1 j ops[j] (by simp[a5]);rw[J]at h1;cases h1;exact⟨t2,Z,h3.1.1,h3.1.2.1⟩
  have d3:∀ (j:Nat) (M:Upd),us[j]?=some M->j≠i->r.getD j false≠decide (j<i)->∃ H,ts[j]?=some H/\(∀ q∈M.map (·.1),q∈H.wr\/q∈H.cw)/\(H.apart t=true\/t.apart H=true):=by
   intro j M J b0 u;obtain⟨H,h1,Z,_⟩:=Y j M J;refine⟨H,h1,Z,?_⟩;rcases Nat.lt_or_gt_of_ne b0 with ba|e3
   ·have hl:r.getD j false=false:=by
     cases hl:r.getD j false with
     |false=>rfl
     |true=>rw[hl]at u;simp[ba]at u
    rcases lA c1 ba h1 ht with h3|h3
    ·have:=jG b1 (i+1) i (Cd _) ops[i] ho d1 j h3;rw[hl]at this;cases this
    ·exact .inl h3
   ·have hl:r.getD j false=true:=by
     cases hl:r.getD j false with
     |true=>rfl
     |false=>rw[hl]at u;simp at u;omega
    have a5:j<ops.size:=by
     have:=(B7.1 J).1;omega
    have ad:ops[j]?=some ops[j]:=B9 a5;rcases lA c1 e3 ht h1 with h3|h3
    ·have:=jG b1 (j+1) j (Cd _) ops[j] ad (b2 j _ ad hl) i h3;rw[O]at this;cases this
    ·exact .inr h3
  have a0:∀ (x y:cR),x.apart y=true->(∀ q,q∈x.wr\/q∈x.cw->(q∉y.wr/\q∉y.cw)/\q∉y.rd)/\(∀ q,q∈y.wr\/q∈y.cw->(q∉x.wr/\q∉x.cw)/\q∉x.rd)/\(∀ q∈x.wr,q∉y.hd)/\∀ q∈y.wr,q∉x.hd:=by
   intro x y h;unfold cR.apart at h;simp only[BW,CY]at h;obtain⟨⟨⟨⟨h1,Z⟩,h3⟩,h4⟩,h5⟩:=h;refine⟨λq I=>?_,λq I=>?_,λq I=>gh h4 I,λq I hx=>gh h5 hx I⟩
   ·have I:=BV.2 I;have:=gh h1 I;simp only[BV,not_or]at this;exact⟨this,gh Z I⟩
   ·have I:=BV.2 I;have:q∉x.wr++x.cw:=λhx=>gh h1 hx I
    simp only[BV,not_or]at this;exact⟨this,λhx=>gh h3 hx I⟩
  have bl:∀ (j:Nat) (M:Upd),us[j]?=some M->j≠i->r.getD j false≠decide (j<i)->∀ q∈M.map (·.1),(q∉t.wr/\q∉t.cw)/\q∉t.rd:=by
   intro j M J b0 u q I;obtain⟨H,_,h1,Z⟩:=d3 j M J b0 u;rcases Z with Z|Z
   ·exact (a0 _ _ Z).1 q (h1 q I)
   ·exact (a0 _ _ Z).2.1 q (h1 q I)
  have c2:∀ (j:Nat) (H:cR),ts[j]?=some H->j≠i->r.getD j false≠decide (j<i)->∀ q∈H.wr,q∉t.hd:=by
   intro j H J b0 u q I;have a5:j<us.length:=by
    have:=(B7.1 J).1;omega
   obtain⟨t2,h0,_,Z⟩:=d3 j us[j] (CE a5) b0 u;rw[J]at h0;cases h0;rcases Z with Z|Z
   ·exact (a0 _ _ Z).2.2.1 q I
   ·exact (a0 _ _ Z).2.2.2 q I
  have c3:mD Γ T ops ops[i] (dn (λj=>r.getD j false) us s0) U:=by
   refine a9.frame (λq I=>?_) (λq I=>?_)
   ·refine mF rfl λj M J d2=>?_
    by_cases z:j=i
    ·subst z;rw[O];simp
    ·apply CP;intro u;have:=bl j M J z u q d2;rcases I with I|I
     ·exact this.2 I
     ·exact this.1.1 I
   ·have cx:∀ (j:Nat) (H:cR),ts[j]?=some H->(λj=>match ts[j]? with|some H=>decide (q∈H.wr)|none=>false) j=decide (q∈H.wr):=λj H h=>by simp only[h]
    have e1:=q8 (q:=q) (D:=λj=>r.getD j false) (F:=λj=>match ts[j]? with|some H=>decide (q∈H.wr)|none=>false) (s:=s0) (sF:=s0) (B:=True) a1 cx rfl (λ_=>rfl) (λj H M J hU hD hw cc=>by
     refine⟨trivial,λk t2 hk c4 cy=>?_⟩;obtain⟨t3,h3,h4,_⟩:=Y j M hU;rw[J]at h3;cases h3;have e0:=(h4 q cc).resolve_left hw;have a5:j<ops.size:=by
      have:=(B7.1 hU).1;omega
     have ad:ops[j]?=some ops[j]:=B9 a5;rcases lA c1 hk c4 J with h5|h5
     ·exact jG b1 (j+1) j (Cd _) ops[j] ad (b2 j _ ad hD) k h5
     ·exact absurd e0 ((a0 _ _ h5).1 q (.inl cy)).1.2)
    have e2:=q8 (q:=q) (D:=λj=>decide (j<i)) (F:=λj=>match ts[j]? with|some H=>decide (q∈H.wr)|none=>false) (s:=s0) (sF:=s0) (B:=True) a1 cx rfl (λ_=>rfl) (λj H M J hU hD hw cc=>by
     refine⟨trivial,λk t2 hk c4 cy=>?_⟩;have:=of_decide_eq_true hD;exact decide_eq_true (by omega))
    rw[e1,e2];congr 1;refine mF rfl λj M J d2=>?_
    obtain⟨H,h1,Z,_⟩:=Y j M J;simp only[h1];by_cases hw:q∈H.wr
    ·rw[decide_eq_true hw,Cv,Cv];by_cases z:j=i
     ·subst z;rw[O];simp
     ·apply CP;intro u;exact c2 j H h1 z u q hw I
    ·rw[decide_eq_false hw,Co,Co]
  refine wT hV hT hΓ ho (e7 i _ ho) (b4 i _ ho) c3 hr λa' w' eb=>?_
  have a6:∀ (b:Bool) (j:Nat),(r.setIfInBounds i true).getD j b=if j=i then true else r.getD j b:=by
   intro b j;simp only[CA,Array.getElem?_setIfInBounds];by_cases z:j=i
   ·subst z;simp[a2,b3]
   ·rw[if_neg (λe=>z e.symm),if_neg z]
  refine ih _ a' w' (by simpa using a2) ?_ ?_ ?_
  ·have:=qq (p:=λj=>!r.getD j true) (p':=λj=>!(r.setIfInBounds i true).getD j true) (i:=i) (by simp[a8]) (by simp[a6]) (λj J=>by simp[a6,J]) (DT ops.size) List.nodup_range (by simpa using b3);omega
  ·intro j o' J bx e he hb;rw[a6]at bx ⊢;by_cases cu:e.on=i
   ·rw[if_pos cu]
   ·rw[if_neg cu];by_cases z:j=i
    ·subst z;rw[ho]at J;cases J;exact d1 e he hb
    ·rw[if_neg z]at bx;exact b2 j o' J bx e he hb
  ·have dc:=oL (U:=U) (us:=us) (i:=i) (D:=λj=>r.getD j false) (D':=λj=>(r.setIfInBounds i true).getD j false) (s:=s0) hU O (λj=>by
     simp only[a6];by_cases z:j=i
     ·subst z;simp
     ·have:B6 j i=false:=by
       cases hb:B6 j i with
       |false=>rfl
       |true=>exact absurd (B4 hb) z
      simp[z,this])
    (λj M J ef hD q I e5=>by
     have:=bl j M J (by omega) (by rw[hD];simp;omega) q e5;exact (e6 q I).elim this.1.1 this.1.2)
   rw[dc];exact eb
theorem BM (hV:ax V)(hT:TOk P T)(hΓ:∀ c∈Γ,bT P c)(M:P.follows .mixedOrders=true){id:Nat}{ops:Array Oper}{z:Bool}(O:∀ (i:Nat) (o:Oper),ops[i]?=some o->bR V o)
  (u:∀ (i:Nat) (o:Oper),ops[i]?=some o->∀ j J,o.guard=some (j,J)->∀ s,(ops[j]?).bind (·.dst)=some s->s<V.nt) {Q:Exit->Act->World->Prop} {κ:St->Option R} {r:R}
  (h:regK Γ T ops z st κ=some r) (hκ:∀ H,κ H=some r->∀ a w,Rel P V H a w->Q .normal a w) {a:Act} {w:World} (Y:Rel P V st a w):(Code.region id ops z).wp P Q a w:=by
 unfold regK at h;cases z with
 |true =>
  simp only[cond_true]at h;obtain⟨us,Z,H,y,I⟩:=pu _ _ _ _ _ h;simp only[CT]at I;cases X:nS ops&&pE (jT ops.toList []) Z with
  |false=>simp[X]at I
  |true =>
   simp only[X,cond_true]at I;simp only[BW]at X;refine wp_region_any M ?_;have hD:∀ j,(CW ops.size false).getD j false=false:=by
    intro j;simp only[CA,Cw];split <;> rfl
   refine BL hV hT hΓ O u y X.1 X.2 (hκ H I) ops.size (CW ops.size false) a _ (by simp) ?_ ?_ ?_
   ·rw[List.countP_eq_length.2]
    ·simp
    ·intro i hi;have hi:i<ops.size:=by simpa using hi
     simp[CA,Cw,hi]
   ·intro j o' _ hl;rw[hD]at hl;cases hl
   ·rw[nM (λj=>hD j)];obtain⟨W,Y⟩:=Y;exact⟨W,Y.world hV (w':={ w with drawn:=w.drawn+1 }) (C6 _) rfl rfl rfl (λ_ _=>rfl)⟩
 |false =>
  simp only[cond_false]at h;obtain⟨us,Z,H,y,I⟩:=pu _ _ _ _ _ h;refine wp_region ?_;have:=vw hV hT hΓ O u ops.toList 0 st us Z H (by simp) y (hκ H I) a w Y;rw[DA,<- List.range_eq_range']at this;exact this
end
section
variable {P:Program} {V:Env} {Γ:List Ctr} {T:TypeId->TI} {st st':St} {o:Oper} {R:Type} {all:Array Oper}
theorem kZ (live:List Nat):∀ (cs:List Coe) (ls:List Leaf),(db st live cs ls).length=ls.length
 |[],[]=>rfl
 |_::_,[]=>rfl
 |[],_::ls=>by simp[db,kZ live [] ls]
 |_::cs,_::ls=>by simp[db,kZ live cs ls]
theorem pv (live:List Nat):∀ (cs:List Coe) (ls:List Leaf) (j:Nat) (l:Leaf),(db st live cs ls)[j]?=some l->∃ r,ls[j]?=some r/\(l=.dead\/∃ c,l=bB st live c r)
 |[],[],j,l,h=>by simp[db]at h
 |_::_,[],j,l,h=>by simp[db]at h
 |[],r::ls,0,l,h=>by simp[db]at h;exact⟨r,rfl,.inl h.symm⟩
 |c::cs,r::ls,0,l,h=>by simp[db]at h;exact⟨r,rfl,.inr ⟨c,h.symm⟩⟩
 |[],r::ls,j+1,l,h=>by
  simp only[db,Cy]at h;obtain⟨z,u,y⟩:=pv live [] ls j l h;exact⟨z,by simpa using u,y⟩
 |c::cs,r::ls,j+1,l,h=>by
  simp only[db,Cy]at h;obtain⟨z,u,y⟩:=pv live cs ls j l h;exact⟨z,by simpa using u,y⟩
theorem Ba (live:List (Nat×List Coe))(q:Nat):l9 live st q=bV.none/\q∉live.map (·.1)\/∃ y,l9 live st q=⟨0,(st q).sh,db st (live.map (·.1)) y (st q).ls⟩/\q∈live.map (·.1):=by
 have M:∀ (u:List Nat) (l:List (Nat×List Coe)),(av (l.map λr=>(r.1,⟨0,(st r.1).sh,db st u r.2 (st r.1).ls⟩)) q=bV.none/\q∉l.map (·.1)) \/
   ∃ y,av (l.map λr=>(r.1,⟨0,(st r.1).sh,db st u r.2 (st r.1).ls⟩)) q=⟨0,(st q).sh,db st u y (st q).ls⟩/\q∈l.map (·.1):=by
  intro u l;induction l with
  |nil=>exact .inl ⟨rfl,by simp⟩
  |cons x l O =>
   obtain⟨r,y⟩:=x;by_cases h:q=r
   ·subst h;exact .inr ⟨y,by simp[av,ac],by simp⟩
   ·have z:B6 q r=false:=by
     cases z:B6 q r with
     |false=>rfl
     |true=>exact absurd (B4 z) h
    rcases O with ⟨H,I⟩|⟨J,H,I⟩
    ·refine .inl ⟨?_,by simpa[h]using I⟩;rw[<- H];simp[av,ac,z]
    ·refine .inr ⟨J,?_,by simp only[CL,CB];exact .inr I⟩;rw[<- H];simp[av,ac,z]
 exact M (live.map (·.1)) live
theorem yz {keys:List Nat}{c:Coe}{r:Leaf}(h:am (bB st keys c r)):am r\/r=.nil:=by
 cases r with
 |own p y E e u=>exact .inl trivial
 |nil=>exact .inr rfl
 |_ =>
  exfalso;revert h;cases c <;> simp only[bB] <;> first
   |exact id
   |(cases (!_||_:Bool) <;> first | exact id | (split <;> exact id))
   |(cases (_&&_:Bool) <;> exact id)
   |(cases (List.any _ _:Bool) <;> exact id)
   |(cases (List.all _ _:Bool) <;> exact id)
theorem iV.nw {W W':Wit}{w:World}{c:Bool×Bool×(a:Ty)×a.den}{u:Value}(r:∀ k,W.nw k->W'.nw k)(h:iV V W w c u):iV V W' w c u:=by
 have z:∀ (p:Bool) k,gd V W p k->gd V W' p k:=λp k hk=>hk.imp (r k) id
 unfold iV at h ⊢;split at h
 ·rename_i M;rw[if_pos M];obtain⟨b,ob,g,Z,O,X,I,y,J,Y,H⟩:=h;exact⟨b,ob,g,Z,O,X,I.imp (r b) id,y,J.imp (r g) id,Rd.mono (z _) Y,H⟩
 ·rename_i M;rw[if_neg M];obtain⟨g,Z,O,X,J,Y,H⟩:=h;exact⟨g,Z,O,X,J.imp (r g) id,Rd.mono (z _) Y,H⟩
theorem wU {W W':Wit}{w:World}{keys:List Nat}{bs bs':List Nat}{c:Coe}{M:Leaf}{v:Value}(h:aK P V W st w bs M v)
  (J:∀ k,W.nw k->W'.nw k) (hβ:W'.β=W.β) (a6:∀ q,keys.any (B6 q)=true->W'.cs q=W.cs q) (z:∀ b,keys.any (B6 b)=true->(st b).sh=.agg->(st' b).sh=.agg)
  (a1:am M->bs'=bs) (a2:M=.nil->bs'=[]) (a3:am M->¬ am (bB st keys c M)->(∃ p E e,c=.ro p E e)->∀ k∈bs,W'.nw k) :
  aK P V W' st' w bs' (bB st keys c M) v:=by
 have H:∀ (p q:Bool),(!q||p)=true->∀ k,gd V W q k->gd V W' p k:=by
  intro p q a5 k I;rcases I with I|⟨X,I⟩
  ·exact .inl (J k I)
  ·refine .inr ⟨?_,I⟩;subst X;simpa using a5
 cases c with
 |kill=>simp only[bB];trivial
 |keep =>
  cases M with
  |int k n=>exact h
  |bool b=>exact h
  |str s=>exact h
  |nil=>exact h
  |hdr n=>exact h
  |fn As B φ=>exact h
  |clr f O =>
   obtain⟨us,X,h2,h3⟩:=h;exact⟨us,X,h2,λi c u g1 g2=>(h3 i c u g1 g2).nw J⟩
  |al r j n =>
   simp only[bB];cases y:keys.any (B6 r)&&B6 (st r).ver n with
   |false=>trivial
   |true =>
    simp only[BW]at y;exact⟨DP _,λ_=>by rw[a6 r y.1];exact h.2 (B4 y.2)⟩
  |bp b off =>
   simp only[bB];cases y:keys.any (B6 b) with
   |false=>trivial
   |true =>
    obtain⟨X,h2,h3⟩:=h;exact⟨X,z b y h2,by rw[hβ];exact h3⟩
  |clo f O =>
   simp only[bB];cases y:O.all (λb=>keys.any (B6 b)) with
   |false=>trivial
   |true =>
    obtain⟨X,h2⟩:=h;rw[CK]at y;exact⟨by rw[hβ];exact X,λb Y=>⟨(h2 b Y).1,z b (y b Y) (h2 b Y).2⟩⟩
  |_=>simp only[bB];trivial
 |own p E e =>
  cases M with
  |nil =>
   have hv:v=.slice none 0 0:=h;subst hv;rw[a2 rfl];exact OwH.nil w _ E e
  |own q hh E' e' xs =>
   cases hh with
   |some x=>simp only[bB];trivial
   |none =>
    simp only[bB];cases y:(!q||p) with
    |false=>trivial
    |true =>
     rw[a1 trivial];exact OwH.carry h (H p q y) (λ_ _=>rfl) (λ_ _=>rfl)
  |_=>simp only[bB];trivial
 |ro p E e =>
  cases M with
  |nil =>
   have hv:v=.slice none 0 0:=h;subst hv;exact Rd.nil w _ false E e
  |ro q E' e' xs =>
   simp only[bB];cases y:(!q||p) with
   |false=>trivial
   |true =>
    simp only[cond_true];split
    ·rename_i ys Z;exact Rd.castSh (m:=false) (m':=false) (E:=E) Z (Rd.mono (H p q y) h)
    ·trivial
  |own q hh E' e' xs =>
   cases hh with
   |some x=>simp only[bB];trivial
   |none =>
    have a7:=a3 trivial (by
     simp only[bB];cases (!q||p) with
     |false=>exact id
     |true=>simp only[cond_true];split <;> exact id) ⟨p,E,e,rfl⟩
    simp only[bB];cases y:(!q||p) with
    |false=>trivial
    |true =>
     simp only[cond_true];split
     ·rename_i ys Z;refine Rd.castSh (m:=false) (m':=false) (E:=E) (E':=E') Z (Rd.mono (λk I=>?_) (OwH.rd (m:=false) (E':=E') h));rcases I with I|I
      ·exact H p q y k I
      ·exact .inl (a7 k I)
     ·trivial
  |_=>simp only[bB];trivial
 |rp p =>
  cases M with
  |rpp q a x =>
   simp only[bB];cases y:(!q||p) with
   |false=>trivial
   |true =>
    obtain⟨b,ob,g,o',c,hv,a4,a0,hg,hr,Z⟩:=h;exact⟨b,ob,g,o',c,hv,a4.imp (J b) id,a0,hg.imp (J g) id,Rd.mono (H p q y) hr,Z⟩
  |rp q a x off =>
   simp only[bB];cases y:(!q||p) with
   |false=>trivial
   |true =>
    obtain⟨g,o',c,hv,hg,hr,Z⟩:=h;exact⟨g,o',c,hv,hg.imp (J g) id,Rd.mono (H p q y) hr,Z⟩
  |_=>simp only[bB];trivial
open Classical in
theorem vA (_hV:ax V){a:Act}{w:World}(h:Rel P V st a w)(live:List (Nat×List Coe))(b2:∀ x∈V.fixb,x.1∈live.map (·.1)):Rel P V (l9 live st) a w:=by
 obtain⟨W,h⟩:=h;have J:=Ba (st:=st) live;have X:∀ b,Go.Proofs.YtaegajachoklkaaGreatEv.live (l9 live st) b->Go.Proofs.YtaegajachoklkaaGreatEv.live st b:=by
  rintro b ⟨y,H⟩;rcases J b with ⟨e,_⟩|⟨cs,e,_⟩
  ·rw[e]at H;cases H
  ·rw[e]at H;exact⟨y,H⟩
 have a1:∀ (q j:Nat) (l:Leaf),(l9 live st q).ls[j]?=some l->q∈live.map (·.1)/\∃ r,(st q).ls[j]?=some r/\(l=.dead\/∃ c,l=bB st (live.map (·.1)) c r):=by
  intro q j l Z;rcases J q with ⟨e,_⟩|⟨cs,e,z⟩
  ·rw[e]at Z;simp[bV.none]at Z
  ·rw[e]at Z;exact⟨z,pv _ _ _ _ _ Z⟩
 have b3:∀ (q j:Nat) (l:Leaf),(l9 live st q).ls[j]?=some l->am l->∃ r,(st q).ls[j]?=some r/\(am r\/r=.nil):=by
  intro q j l Z ho;obtain⟨_,r,y,H⟩:=a1 q j l Z;rcases H with rfl|⟨c,rfl⟩
  ·exact ho.elim
  ·exact⟨r,y,yz ho⟩
 have a0:∀ b,(live.map (·.1)).any (B6 b)=true->b∈live.map (·.1):=λb O=>by
  rw[Cj]at O;obtain⟨x,hx,he⟩:=O;rw[B4 he];exact hx
 let I:Nat->Nat->List Nat:=λq j=>if (∃ r,(st q).ls[j]?=some r/\am r) then W.bs q j else []
 let a2:Nat->Prop:=λk=>W.nw k\/∃ q j r l,(st q).ls[j]?=some r/\am r/\(l9 live st q).ls[j]?=some l/\¬ am l/\k∈W.bs q j
 have Y:∀ (q j k:Nat),k∈I q j->(∃ r,(st q).ls[j]?=some r/\am r)/\k∈W.bs q j:=by
  intro q j k M;by_cases hc:∃ r,(st q).ls[j]?=some r/\am r
  ·simp only[I,if_pos hc]at M;exact⟨hc,M⟩
  ·simp only[I,if_neg hc]at M;simp at M
 refine⟨{ β:=W.β,cs:=λq=>if q∈live.map (·.1) then W.cs q else [],bs:=I,nw:=a2 },?_⟩
 exact {
  nt:=h.nt,df:=h.df
  slots:=λt ht=>by
   rcases J t with ⟨e,z⟩|⟨cs,e,z⟩
   ·rw[e];simp[z,bV.none,er]
   ·rw[e];simp only[z,if_true];exact h.slots t ht
  boxes:=λb O=>by
   rcases J b with ⟨e,z⟩|⟨cs,e,z⟩
   ·rw[e];exact .inl ⟨rfl,rfl⟩
   ·rw[e];rcases h.boxes b O with ⟨y,H⟩|⟨y,E,H⟩
    ·exact .inl ⟨y,by rw[H];exact List.eq_nil_of_length_eq_zero (by rw[kZ];rfl)⟩
    ·exact .inr ⟨y,E,by simp only[z,if_true];exact H⟩
  len:=λq=>by
   rcases J q with ⟨e,z⟩|⟨cs,e,z⟩
   ·rw[e];simp[z,bV.none]
   ·rw[e];simp only[z,if_true,kZ];exact h.len q
  one:=λq u hu=>by
   by_cases z:q∈live.map (·.1)
   ·simp only[z,if_true]at hu;exact h.one q u hu
   ·simp only[z,if_false]at hu;simp at hu
  leaf:=λq j l v Z hv=>by
   obtain⟨z,r,y,H⟩:=a1 q j l Z;simp only[z,if_true]at hv;have a9:=h.leaf q j r v y hv;rcases H with rfl|⟨c,rfl⟩
   ·trivial
   ·refine wU (st:=st) (W:=W) (W':={ β:=W.β,cs:=λq=>if q∈live.map (·.1) then W.cs q else [],bs:=I,nw:=a2 }) (keys:=live.map (·.1)) a9 (λk M=>Or.inl M) rfl (λq hq=>if_pos (a0 q hq)) ?_ ?_ ?_ ?_
    ·intro b O a8;have ad:=a0 b O;rcases J b with ⟨_,a3⟩|⟨cs,e,_⟩
     ·exact absurd ad a3
     ·rw[e];exact a8
    ·intro ho;show I q j=_;simp only[I,if_pos (⟨r,y,ho⟩:∃ r,(st q).ls[j]?=some r/\am r)]
    ·intro e;show I q j=_;have hc:¬ ∃ r,(st q).ls[j]?=some r/\am r:=by
      rintro⟨l1,h3,h4⟩;rw[y,e]at h3;cases h3;exact h4.elim
     simp only[I,if_neg hc]
    ·intro ho hn _ k M;exact .inr ⟨q,j,r,_,y,ho,Z,hn,M⟩
  ownb:=λq j l Z ho k M=>by
   obtain⟨⟨r,y,H⟩,h3⟩:=Y q j k M;obtain⟨q1,q2,q3⟩:=h.ownb q j r y H k h3;refine⟨?_,q2,λb O=>q3 b (X b O)⟩;rintro (hn|⟨q',j',l1,l2,h4,h5,h6,h7,h8⟩)
   ·exact q1 hn
   ·obtain⟨rfl,rfl⟩:=h.sep q j r q' j' l1 y H h4 h5 k h3 h8;rw[Z]at h6;cases h6;exact h7 ho
  sep:=λq j l q' j' l' _ _ _ _ k M a4=>by
   obtain⟨⟨r,y,H⟩,h3⟩:=Y q j k M;obtain⟨⟨a6,b1,a5⟩,a7⟩:=Y q' j' k a4;exact h.sep q j r q' j' a6 y H b1 a5 k h3 a7
  box:=λb O=>by
   obtain⟨q1,q2⟩:=h.box b (X b O);refine⟨?_,q2⟩;rintro (hn|⟨q',j',l1,l2,h4,h5,h6,h7,h8⟩)
   ·exact q1 hn
   ·exact (h.ownb q' j' l1 h4 h5 _ h8).2.2 b (X b O) rfl
  inj:=λb b' O b0=>h.inj b b' (X b O) (X b' b0)
  nwlt:=λk M=>by
   rcases M with hn|⟨q',j',l1,l2,h4,h5,h6,h7,h8⟩
   ·exact h.nwlt k hn
   ·exact⟨h.own_lt h4 h5 k h8,(h.ownb q' j' l1 h4 h5 k h8).2.1⟩
  os:=h.os,tape:=h.tape,output:=h.output,size:=h.size,keep:=h.keep
  fixb:=λx hx=>by
   obtain⟨⟨y,H⟩,h3⟩:=h.fixb x hx;refine⟨⟨y,?_⟩,h3⟩;rcases J x.1 with ⟨_,z⟩|⟨cs,e,_⟩
   ·exact absurd (b2 x hx) z
   ·rw[e];exact H
  fixt:=h.fixt }
def exOf:Ex->Exit
 |.normal=>.normal
 |.exit id=>.exit id
 |.ret=>.ret
theorem mG {nt:Nat}{fix:List Nat}(u:V.nt=nt)(r:∀ x∈V.fixt,x.1∈fix)(h:lG nt fix all o=true):bR V o:=by
 intro d I;simp only[lG,I,BW,CY,Ct]at h;obtain⟨⟨y,z⟩,_⟩:=h;refine⟨by rw[u];simpa[Cg]using y,λx H e=>?_⟩;exact z _ (r x H) (by simp[e])
end
section
variable {P:Program} {V:Env} {Γ:List Ctr} {T:TypeId->TI} {R:Type}
open Classical in
theorem tZ {Q:Exit->Act->World->Prop}{a:Act}{w:World}{c:Code}(J:Nat->Act->World->Prop)(h0:∃ n,J n a w)(hz:∀ a w,¬ J 0 a w)
  (y:∀ n a w,J (n+1) a w->c.wp P (Exit.then (J n) Q) a w):(Code.loop c).wp P Q a w:=by
 have u:∀ (a:Act) (w:World) (n:Nat),J n a w->∃ m,J m a w/\m<=n/\∀ k,J k a w->m<=k:=by
  intro a w n;induction n using DS with
  |ind n ih =>
   intro z;by_cases h:∃ k,k<n/\J k a w
   ·obtain⟨k,O,hJ⟩:=h;obtain⟨m,r,M,I⟩:=ih k O hJ;exact⟨m,r,by omega,I⟩
   ·refine⟨n,z,C6 _,λk O=>?_⟩;apply CP;intro a0;exact h ⟨k,by omega,O⟩
 let H:Act->World->Nat:=λa w=>if h:∃ m,J m a w/\∀ k,J k a w->m<=k then h.choose else 0
 have hμ:∀ a w n,J n a w->J (H a w) a w/\H a w<=n:=by
  intro a w n z;obtain⟨m,r,_,I⟩:=u a w n z;have h:∃ m,J m a w/\∀ k,J k a w->m<=k:=⟨m,r,I⟩;have e:H a w=h.choose:=by simp only[H];rw[dif_pos h]
  rw[e];exact⟨h.choose_spec.1,h.choose_spec.2 n z⟩
 refine wp_loop (λa w=>∃ n,J n a w) H h0 λa w ⟨n,z⟩=>?_
 obtain⟨r,_⟩:=hμ a w n z;cases X:H a w with
 |zero=>rw[X]at r;exact absurd r (hz a w)
 |succ m =>
  rw[X]at r;refine wp_mono (y m a w r) λe Y Z he=>?_
  cases e with
  |normal =>
   have M:J m Y Z:=he;exact⟨⟨m,M⟩,Nat.lt_succ_of_le (hμ Y Z m M).2⟩
  |_=>exact he
theorem zM {st:St}{a:Act}{w:World}(u:Rel P V st a w){t:Nat}(y:t<GH){b:Bool}(z:(st t).sh=.one)(I:(st t).ls=[.bool b]):a.eval (.tmp t)=.bool b:=by
 obtain⟨W,u⟩:=u;have r:=u.slots t y;rw[z]at r;have r:W.cs t=[a.tmps.getD t undef]:=r;have H:=u.leaf t 0 (.bool b) (a.tmps.getD t undef) (by rw[I];rfl) (by rw[r];rfl);exact H
theorem sy (hV:ax V)(hT:TOk P T)(hΓ:∀ c∈Γ,bT P c)(a2:P.follows .mixedOrders=true){fx:List Nat}(a5:∀ x∈V.fixb,x.1∈fx){nt:Nat}{fix:List Nat}(a1:V.nt=nt)(a3:∀ x∈V.fixt,x.1∈fix)
  {L:List (Nat×List (Nat×List Coe))} {X:Nat}:∀ (c:Code),dX nt fix c=true->du L fx c=true->∀ (st:St) (I:Ex->St->Option R) (r:R) (Q:Exit->Act->World->Prop),evK Γ T L X c st I=some r ->
   (∀ ex J,I ex J=some r->∀ a w,Rel P V J a w->Q (exOf ex) a w)->∀ a w,Rel P V st a w->c.wp P Q a w:=by
 intro c;induction c with
 |skip=>exact λ_ _ st I r Q h z a w u=>wp_skip (z .normal st h a w u)
 |region id a4 a7 =>
  intro hc hlp st I r Q h z a w u;simp only[dX,CK]at hc;have a0:∀ (i:Nat) (o:Oper),a4[i]?=some o->lG nt fix a4 o=true:=λi o hi=>hc o (by simpa using C4 hi)
  refine BM hV hT hΓ a2 (λi o hi=>mG a1 a3 (a0 i o hi)) (λi o hi j a6 hg s hs=>?_) h (λJ H a w u=>z .normal J H a w u) u;have:=a0 i o hi;simp only[lG,hg,hs,BW]at this;rw[a1];simpa[Cg]using this.2
 |seq x y Y Z =>
  intro hc hlp st I r Q h z a w u;simp only[dX,BW]at hc;simp only[du,BW]at hlp;simp only[evK]at h;refine wp_seq (Y hc.1 hlp.1 st _ r _ h (λex J H a w u=>?_) a w u);cases ex with
  |normal=>exact Z hc.2 hlp.2 J I r Q H z a w u
  |exit id=>exact z (.exit id) J H a w u
  |ret=>exact z .ret J H a w u
 |cond t x y Y Z =>
  intro hc hlp st I r Q h z a w u;simp only[dX,BW]at hc;simp only[du,BW]at hlp;simp only[evK]at h;unfold zT at h;split at h
  ·rename_i t;split at h
   ·rename_i b H h2;have hv:=zM u (DG (by have:=hc.1.1;simp only[wZ,Cg]at this;rw[a1];exact this) hV.nt) H h2;cases b with
    |true =>
     simp only[cond_true]at h;rw[pt H h2]at h;exact wp_cond_true hv (Y hc.1.2 hlp.1 st I r Q h z a w u)
    |false =>
     simp only[cond_false]at h;rw[pt H h2]at h;exact wp_cond_false hv (Z hc.2 hlp.2 st I r Q h z a w u)
   ·cases h
  ·rename_i b;cases b with
   |true=>exact wp_cond_true rfl (Y hc.1.2 hlp.1 st I r Q h z a w u)
   |false=>exact wp_cond_false rfl (Z hc.2 hlp.2 st I r Q h z a w u)
  ·cases h
 |block id c ih =>
  intro hc hlp st I r Q h z a w u;simp only[dX]at hc;simp only[du]at hlp;simp only[evK]at h;refine wp_block (ih hc hlp st _ r _ h (λex J H a w u=>?_) a w u);cases ex with
  |normal=>exact z .normal J H a w u
  |exit M =>
   simp only[sE]at H;show if M=id then Q .normal a w else Q (.exit M) a w
   by_cases e:M=id
   ·rw[if_pos e];subst e;simp only[Nat.beq_refl,cond_true]at H;exact z .normal J H a w u
   ·rw[if_neg e];have hb:B6 M id=false:=by
     cases hb:B6 M id with
     |false=>rfl
     |true=>exact absurd (B4 hb) e
    rw[hb]at H;exact z (.exit M) J H a w u
  |ret=>exact z .ret J H a w u
 |loop c ih =>
  intro hc hlp st I r Q h z a w u;simp only[dX]at hc;simp only[du,BW,CK]at hlp;simp only[evK]at h;have O:∀ x∈V.fixb,x.1∈(lF L (fb c)).map (·.1):=λx hx=>by
   obtain⟨r,u,he⟩:=Cj.1 (hlp.1 x.1 (a5 x hx));exact B8.2 ⟨r,u,B4 he⟩
  refine tZ (λn a w=>∃ st,bh (lF L (fb c)) (evK Γ T L X c) n st I=some r/\Rel P V st a w) ⟨X,_,h,vA hV u _ O⟩ ?_ ?_
  ·rintro a w ⟨st,H,_⟩;cases H
  ·rintro n a w ⟨st,H,u⟩;simp only[bh]at H;refine ih hc hlp.2 st _ r _ H (λex J h2 a w u=>?_) a w u;cases ex with
   |normal=>exact⟨_,h2,vA hV u _ O⟩
   |exit id=>exact z (.exit id) J h2 a w u
   |ret=>exact z .ret J h2 a w u
 |exit id=>exact λ_ _ st I r Q h z a w u=>wp_exit (z (.exit id) st h a w u)
 |ret=>exact λ_ _ st I r Q h z a w u=>wp_ret (z .ret st h a w u)
 |_=>intro _ _ st I r Q h;simp[evK]at h
end
section
variable {P:Program} {Γ:List Ctr} {T:TypeId->TI} {R:Type} {w:World} {ro pr:Nat->Prop}
theorem jj {G:Nat->Prop}{p:Bool}:∀ {b:Ty} {h:Option Nat} {pos:Nat} {x:b.den} {cs:List Value} {bs:List Nat},Mx w G b h pos x cs bs->bs.Nodup ->
  ∃ a4:Nat->List Nat,
   (∀ (V:Env) (W:Wit) (st:St),(∀ k,G k->gd V W p k)->∀ (j:Nat) (l:Leaf) (u:Value),h≠some (pos+j)->(ap p b x)[j]?=some l->cs[j]?=some u->aK P V W st w (a4 j) l u) /\
   (∀ (j:Nat) (l:Leaf),h≠some (pos+j)->(ap p b x)[j]?=some l->am l->∀ k∈a4 j,k∈bs) /\
   (∀ (j J:Nat) (l l':Leaf),h≠some (pos+j)->h≠some (pos+J)->(ap p b x)[j]?=some l->am l->(ap p b x)[J]?=some l'->am l'->∀ k,k∈a4 j->k∈a4 J->j=J)
 |.int k,_,_,x,cs,bs,H,_=>by
  obtain⟨rfl,rfl⟩:=H;exact⟨λ_=>[],λV W st _ j l u _ y X=>by cases j with|zero=>simp[ap]at y X;subst y;subst X;rfl|succ j=>simp[ap]at y,λj l _ y _ k r=>by simp at r,λj J l l' _ _ _ _ _ _ k r=>by simp at r⟩
 |.bool,_,_,x,cs,bs,H,_=>by
  obtain⟨rfl,rfl⟩:=H;exact⟨λ_=>[],λV W st _ j l u _ y X=>by cases j with|zero=>simp[ap]at y X;subst y;subst X;rfl|succ j=>simp[ap]at y,λj l _ y _ k r=>by simp at r,λj J l l' _ _ _ _ _ _ k r=>by simp at r⟩
 |.str,_,_,x,cs,bs,H,_=>by
  obtain⟨rfl,rfl⟩:=H;exact⟨λ_=>[],λV W st _ j l u _ y X=>by cases j with|zero=>simp[ap]at y X;subst y;subst X;rfl|succ j=>simp[ap]at y,λj l _ y _ k r=>by simp at r,λj J l l' _ _ _ _ _ _ k r=>by simp at r⟩
 |.unit,_,_,x,cs,bs,H,_=>by
  obtain⟨rfl,rfl⟩:=H;exact⟨λ_=>[],λV W st _ j l u _ y X=>by simp[ap]at y,λj l _ y _ k r=>by simp at r,λj J l l' _ _ _ _ _ _ k r=>by simp at r⟩
 |.hdr,_,_,x,cs,bs,H,_=>by
  obtain⟨⟨A,a7,rfl⟩,rfl⟩:=H;exact⟨λ_=>[],λV W st _ j l u _ y X=>by cases j with|zero=>simp[ap]at y X;subst y;subst X;exact⟨A,a7,rfl⟩|succ j=>simp[ap]at y,λj l _ y _ k r=>by simp at r,λj J l l' _ _ _ _ _ _ k r=>by simp at r⟩
 |.pair b c,h,pos,x,cs,bs,⟨c1,c2,b1,b2,e1,e2,y,X⟩,Z=>by
  subst e1;subst e2;rw[Cb]at Z;obtain⟨d1,f2,f3,f4⟩:=jj y Z.1;obtain⟨d2,g2,g3,g4⟩:=jj X Z.2.1;have a9:=cN p b x.1;have a8:=y.len;have I:∀ (j:Nat) (l:Leaf),(ap p b x.1++ap p c x.2)[j]?=some l->(j<b.cells/\(ap p b x.1)[j]?=some l)\/(b.cells<=j/\(ap p c x.2)[j-b.cells]?=some l):=by
   intro j l z;by_cases O:j<b.cells
   ·rw[CO (by omega)]at z;exact .inl ⟨O,z⟩
   ·rw[CM (by omega),a9]at z;exact .inr ⟨by omega,z⟩
  have a0:∀ j,b.cells<=j->h≠some (pos+j)->h≠some (pos+b.cells+(j-b.cells)):=λj z hh=>by rwa [show pos+b.cells+(j-b.cells)=pos+j by omega]
  refine⟨λj=>if j<b.cells then d1 j else d2 (j-b.cells),λV W st hG j l u hh z hu=>?_,λj l hh z ho k r=>?_,λj J l l' hh a2 z ho Y a3 k r M=>?_⟩
  ·rcases I j l z with ⟨O,z⟩|⟨a1,z⟩
   ·rw[CO (by omega)]at hu;simp only[if_pos O];exact f2 V W st hG j l u hh z hu
   ·rw[CM (by omega),a8]at hu;simp only[if_neg (show ¬ j<b.cells by omega)];exact g2 V W st hG _ l u (a0 j a1 hh) z hu
  ·rcases I j l z with ⟨O,z⟩|⟨a1,z⟩
   ·simp only[if_pos O]at r;exact BX _ (f3 j l hh z ho k r)
   ·simp only[if_neg (show ¬ j<b.cells by omega)]at r;exact BY _ (g3 _ l (a0 j a1 hh) z ho k r)
  ·rcases I j l z with ⟨O,z⟩|⟨a1,z⟩ <;> rcases I J l' Y with ⟨a5,Y⟩|⟨a6,Y⟩
   ·simp only[if_pos O]at r;simp only[if_pos a5]at M;exact f4 j J l l' hh a2 z ho Y a3 k r M
   ·simp only[if_pos O]at r;simp only[if_neg (show ¬ J<b.cells by omega)]at M;exact absurd rfl (Z.2.2 k (f3 j l hh z ho k r) k (g3 _ l' (a0 J a6 a2) Y a3 k M))
   ·simp only[if_neg (show ¬ j<b.cells by omega)]at r;simp only[if_pos a5]at M;exact absurd rfl (Z.2.2 k (f3 J l' a2 Y a3 k M) k (g3 _ l (a0 j a1 hh) z ho k r))
   ·simp only[if_neg (show ¬ j<b.cells by omega)]at r;simp only[if_neg (show ¬ J<b.cells by omega)]at M;have:=g4 _ _ l l' (a0 j a1 hh) (a0 J a6 a2) z ho Y a3 k r M;omega
 |.list m E e,h,pos,xs,cs,bs,H,Z=>by
  cases m with
  |false =>
   rw[cA]at H;obtain⟨rfl,A,a7,rfl,X,h3⟩:=H;refine⟨λ_=>[],λV W st hG j l u _ y h4=>?_,λj l _ y _ k r=>by simp at r,λj J l l' _ _ _ _ _ _ k r=>by simp at r⟩;cases j with
   |zero =>
    simp[ap]at y h4;subst y;subst h4;exact Rd.mono hG (⟨A,a7,rfl,X,h3⟩:Rd w G (.list false E e) xs _)
   |succ j=>simp[ap]at y
  |true =>
   refine⟨λ_=>bs,λV W st hG j l u hh y h4=>?_,λj l _ y _ k r=>r,λj J l l' _ _ y _ h3 _ k _ _=>?_⟩
   ·cases j with
    |zero =>
     rw[Nat.add_zero]at hh;rw[bM hh]at H;obtain⟨v,rfl,hO⟩:=H;simp[ap]at y h4;subst y;subst h4;exact⟨Z,OwB.shy (hO.carry hG (λ_ _=>rfl) (λ_ _=>rfl))⟩
    |succ j=>simp[ap]at y
   ·have h7:j<1:=by simpa[ap]using (B7.1 y).1
    have h8:J<1:=by simpa[ap]using (B7.1 h3).1
    omega
theorem mH {p:Bool}{off:Nat}:∀ {a:Ty} {pos:Nat} {x:a.den} {E:TypeId} {e:Ty} {xs:List e.den},bi off a pos x=some ⟨E,e,xs⟩->(ap p a x)[off-pos]?=some (.own (p&&e.shy) none E e xs)
 |.pair a b,pos,x,E,e,xs,h=>by
  have H:=cN p a x.1;simp only[bi]at h;simp only[ap];split at h
  ·rename_i u z;simp only[BU]at h;subst h;have y:=gF z;rw[CO (by omega)];exact mH z
  ·have y:=gF h;rw[CM (by omega),H,show off-pos-a.cells=off-(pos+a.cells) by omega];exact mH h
 |.list m I M,pos,J,E,e,xs,h=>by
  simp only[bi]at h;cases r:m&&B6 pos off with
  |false=>simp[r]at h
  |true =>
   rw[r]at h;simp only[cond_true,BU,Sigma.mk.injEq]at h;obtain⟨rfl,h⟩:=h;simp only[BW]at r;obtain⟨rfl,r⟩:=r;have r:=B4 r;subst r;rw[heq_eq_eq,Sigma.mk.injEq]at h;obtain⟨rfl,h⟩:=h;rw[heq_eq_eq]at h;subst h;simp[ap]
 |.int _,_,_,_,_,_,h=>by simp[bi]at h
 |.bool,_,_,_,_,_,h=>by simp[bi]at h
 |.str,_,_,_,_,_,h=>by simp[bi]at h
 |.unit,_,_,_,_,_,h=>by simp[bi]at h
 |.hdr,_,_,_,_,_,h=>by simp[bi]at h
theorem ua (V:Env)(W:Wit)(H:V.ro0=ro)(r:V.prot=pr):∀ {cs:List (Bool×Ty)} {x:lY cs} {us:List Value},jQ w ro pr cs x us->us.length=(kb true cs x).length /\
  ∀ (i:Nat) (c:Bool×Bool×(a:Ty)×a.den) (u:Value),(kb true cs x)[i]?=some c->us[i]?=some u->iV V W w c u
 |[],_,us,h=>by
  have h:us=[]:=h;subst h;exact⟨rfl,λi c u z _=>by simp[kb]at z⟩
 |c::cs,x,us,⟨u,a0,e,z,h2⟩=>by
  subst e;obtain⟨i1,i2⟩:=ua V W H r h2;refine⟨by simp[kb,i1],λi c' u' J Z=>?_⟩;cases i with
  |succ i=>exact i2 i c' u' (by simpa[kb]using J) (by simpa using Z)
  |zero =>
   simp[kb]at J Z;subst J;subst Z;have hG:∀ k,ro k->gd V W true k:=λk hk=>.inr ⟨rfl,by rw[H];exact hk⟩
   unfold iV;unfold gZ at z;split at z
   ·rename_i I;simp only[I,if_true];obtain⟨b,ob,g,o,X,hv,O,y,Y,hr,M⟩:=z;exact⟨b,ob,g,o,X,hv,.inr (by rw[r];exact O),y,.inr (by rw[r];exact Y),hr.mono hG,M⟩
   ·rename_i I;have I:c.1=false:=by simpa using I
    simp only[I,Cn,if_false];obtain⟨g,o,X,hv,Y,hr,M⟩:=z;exact⟨g,o,X,by rw[hv];rfl,.inr (by rw[r];exact Y),hr.mono hG,M⟩
structure Ent where
 r:Nat
 c:bV
 cs:List Value
 bs:Nat->List Nat
 bl:List Nat
 g:Nat
structure qr (P:Program) (w:World) (ro pr:Nat->Prop) (bx:List (Nat×Nat)) (e:Ent):Prop where
 len:e.c.ls.length=e.cs.length
 one:∀ u∈e.cs,u.oneCell'=true
 leaf:∀ (V:Env) (W:Wit) (st:St),V.w0=w->V.ro0=ro->V.prot=pr->(∀ z∈bx,B0<=z.1/\(st z.1).sh=.agg/\W.β z.1=z.2)->∀ (j:Nat) (l:Leaf) (u:Value),e.c.ls[j]?=some l->e.cs[j]?=some u->aK P V W st w (e.bs j) l u
 own:∀ (j:Nat) (l:Leaf),e.c.ls[j]?=some l->am l->∀ k∈e.bs j,k∈e.bl
 sep:∀ (j j':Nat) (l l':Leaf),e.c.ls[j]?=some l->am l->e.c.ls[j']?=some l'->am l'->∀ k,k∈e.bs j->k∈e.bs j'->j=j'
 box:B0<=e.r->e.c.sh=.agg/\e.g∈e.bl/\(∀ (j:Nat) (l:Leaf),e.c.ls[j]?=some l->am l->e.g∉e.bs j)/\(∃ E,w.heap[e.g]?=some (.cells e.cs.toArray E (0,0)))/\(e.r,e.g)∈bx
theorem qr.mono {y r:List (Nat×Nat)}{e:Ent}(h:qr P w ro pr y e)(u:∀ z∈y,z∈r):qr P w ro pr r e :=
  { len:=h.len,one:=h.one,own:=h.own,sep:=h.sep
    leaf:=λV W J H X I h4=>h.leaf V W J H X I (λz Y=>h4 z (u z Y))
    box:=λhr=>by obtain⟨M,q2,Z,q4,O⟩:=h.box hr;exact⟨M,q2,Z,q4,u _ O⟩ }
structure wV (P:Program) (w:World) (ro pr:Nat->Prop) (t:Nat) (pk:PK) (v:Value) (b:List Nat) (bx:List (Nat×Nat)) (es:List Ent):Prop where
 bl:es.flatMap (·.bl)=b
 ok:∀ e∈es,qr P w ro pr bx e
 at_:∀ e∈es,e.r=t\/e.r=B0+t
 nod:(es.map (·.r)).Nodup
 slot:∃ e∈es,e.r=t/\er e.c.sh v e.cs
 bxs:∀ z∈bx,z.1=B0+t/\(∃ e∈es,e.r=B0+t/\e.g=z.2)
theorem ub (t n:Nat){a:Ty}{x:a.den}{v:Value}{cs:List Value}{b:List Nat}(O:b.Nodup)(h1:dj a.isAgg v cs)(I:Mx w ro a none 0 x cs b)(a0:t<B0) :
    ∃ X,wV P w ro pr t (.own a) v b [] X/\[((t,⟨n,bq a.isAgg,ap true a x⟩):Nat×bV)]=X.map (λe=>(e.r,e.c)):=by
  obtain⟨M,m1,m2,m3⟩:=jj (P:=P) (p:=true) I O;have H:∀ j,(none:Option Nat)≠some (0+j):=λj=>by simp
  refine⟨[⟨t,⟨n,bq a.isAgg,ap true a x⟩,cs,M,b,0⟩],⟨by simp,?_,by simp,by simp,⟨_,CI _,rfl,kn h1⟩,by simp⟩,rfl⟩;intro e Z;simp only[CU]at Z;subst Z
  exact { len := by show (ap true a x).length = _; rw [cN, I.len]
          one:=I.one
          leaf:=λV W st _ J _ _ j l u y z=>m1 V W st (λk hk=>.inr ⟨rfl,by rw[J];exact hk⟩) j l u (H j) y z
          own:=λj l y z=>m2 j l (H j) y z
          sep:=λj Y l l' y z h5 h6=>m3 j Y l l' (H j) (H Y) y z h5 h6
          box:=λhr=>absurd hr (by show ¬ B0<=t;omega) }
theorem oe (t:Nat){l:Leaf}{v:Value}{pk:PK}(a0:t<B0)(I:¬ am l)(h1:v.oneCell'=true)(y:∀ (V:Env) (W:Wit) (st:St),V.w0=w->V.ro0=ro->V.prot=pr->aK P V W st w [] l v) :
    ∃ Z,wV P w ro pr t pk v [] [] Z/\[((t,⟨0,.one,[l]⟩):Nat×bV)]=Z.map (λe=>(e.r,e.c)):=by
  refine⟨[⟨t,⟨0,.one,[l]⟩,[v],λ_=>[],[],0⟩],⟨by simp,?_,by simp,by simp,⟨_,CI _,rfl,rfl⟩,by simp⟩,rfl⟩;intro e he;simp only[CU]at he;subst he;have M:∀ (j:Nat) (z:Leaf),[l][j]?=some z->j=0/\z=l:=λj z O=>by
    cases j with
    |zero=>simp at O;exact⟨rfl,O.symm⟩
    |succ j=>simp at O
  exact { len := rfl
          one:=λu hu=>by simp at hu;subst hu;exact h1
          leaf:=λV W st hw X Y _ j z u J H=>by
            obtain⟨rfl,rfl⟩:=M j z J;simp at H;subst H;exact y V W st hw X Y
          own:=λj z J H=>by obtain⟨_,rfl⟩:=M j z J;exact absurd H I
          sep:=λj j' l1 l2 J H=>by obtain⟨_,rfl⟩:=M j l1 J;exact absurd H I
          box:=λhr=>absurd hr (by show ¬ B0<=t;omega) }
def uc:Value->Nat
 |.pointer (some a)=>a.block
 |_=>0
def el (t:Nat):List PK->List Value->List (Nat×Nat)
 |.iop _::u,v::r=>(B0+t,uc v)::el (t+1) u r
 |_::u,_::r=>el (t+1) u r
 |_,_=>[]
def eo (t:Nat):List PK->List Value->List (Nat×Value)
 |.io _::u,v::r=>(t,v)::eo (t+1) u r
 |.iop _::u,v::r=>(t,v)::eo (t+1) u r
 |_::u,_::r=>eo (t+1) u r
 |_,_=>[]
def PK.bx (t:Nat)(v:Value):PK->List (Nat×Nat)
 |.iop _=>[(B0+t,uc v)]
 |_=>[]
theorem BN (t:Nat)(a1:t<B0){pk:PK}{ps:List PK}{x:ab (pk::ps)}{v:Value}{b:List Nat}(a0:b.Nodup)(h:oa P w ro pr pk x.1 v b) :
    ∃ es,wV P w ro pr t pk v b (pk.bx t v) es/\de t (pk::ps) x=es.map (λe=>(e.r,e.c))++de (t+1) ps x.2:=by
  cases pk with
  |rd a =>
    obtain⟨rfl,cs,h1,h2⟩:=h;refine⟨[⟨t,⟨0,bq a.isAgg,cO true a x.1⟩,cs,λ_=>[],[],0⟩],⟨by simp,?_,by simp,by simp,⟨_,CI _,rfl,kn h1⟩,by simp[PK.bx]⟩,rfl⟩;intro e he;simp only[CU]at he;subst he;have b4:∀ (V:Env) (W:Wit) (st:St),V.ro0=ro->aD P V W st w (cO true a x.1) cs:=λV W st I=>fk (G:=ro) (λk J=>.inr ⟨rfl,by rw[I];exact J⟩) h2
    have a8:∀ (j:Nat) (l:Leaf),(cO true a x.1)[j]?=some l->¬ am l:=λj l M=>by
      have hl:=gS true a x.1;have hc:=h2.len;have bn:=(B7.1 M).1;exact ((b4 ⟨w,ro,[],0,[],[]⟩ ⟨λ_=>0,λ_=>[],λ_ _=>[],λ_=>False⟩ (λ_=>bV.none) rfl).at_ j l _ M (CE (by omega))).2.1
    exact { len := by show (cO true a x.1).length = _; rw [gS, h2.len]
            one:=h2.one
            leaf:=λV W st _ I _ _ j l u y H=>((b4 V W st I).at_ j l u y H).1
            own:=λj l y H=>absurd H (a8 j l y)
            sep:=λj j' l l' y H=>absurd H (a8 j l y)
            box:=λhr=>absurd hr (by show ¬ B0<=t;omega) }
  |own a =>
    obtain⟨cs,h1,h2⟩:=h;obtain⟨es,y,H⟩:=ub (P:=P) (pr:=pr) t 0 a0 h1 h2 a1;exact⟨es,⟨y.bl,y.ok,y.at_,y.nod,y.slot,y.bxs⟩,by rw[<- H];rfl⟩
  |io a =>
    obtain⟨cs,h1,h2⟩:=h;obtain⟨es,y,H⟩:=ub (P:=P) (pr:=pr) t 7 a0 h1 h2 a1;exact⟨es,⟨y.bl,y.ok,y.at_,y.nod,y.slot,y.bxs⟩,by rw[<- H];rfl⟩
  |rref a =>
    obtain⟨rfl,h⟩:=h;unfold gZ at h;rw[if_neg (by simp)]at h;obtain⟨g,o,c,hv,hg,hr,hc⟩:=h;subst hv;obtain⟨es,y,H⟩:=oe (P:=P) (w:=w) (ro:=ro) (pr:=pr) t (pk:=.rref a) (l:=.rp true a x.1 0) (v:=.pointer (some ⟨g,o,none⟩)) a1 id rfl (λV W st hw I O=>⟨g,o,c,rfl,.inr (by rw[O];exact hg),hr.mono (λk J=>.inr ⟨rfl,by rw[I];exact J⟩),hc⟩);exact⟨es,y,by rw[<- H];rfl⟩
  |rref2 a =>
    obtain⟨rfl,h⟩:=h;unfold gZ at h;rw[if_pos rfl]at h;obtain⟨b,ob,g,o,c,hv,hb,a6,hg,hr,hc⟩:=h;subst hv;obtain⟨es,y,H⟩:=oe (P:=P) (w:=w) (ro:=ro) (pr:=pr) t (pk:=.rref2 a) (l:=.rpp true a x.1) (v:=.pointer (some ⟨b,ob,none⟩)) a1 id rfl (λV W st hw I O=>⟨b,ob,g,o,c,rfl,.inr (by rw[O];exact hb),a6,.inr (by rw[O];exact hg),hr.mono (λk J=>.inr ⟨rfl,by rw[I];exact J⟩),hc⟩);exact⟨es,y,by rw[<- H];rfl⟩
  |fn As B =>
    obtain⟨rfl,h⟩:=h;have ba:v.oneCell'=true:=by
      obtain⟨f,bb,e,_⟩:=h;rw[e];rfl
    obtain⟨es,y,H⟩:=oe (P:=P) (w:=w) (ro:=ro) (pr:=pr) t (pk:=.fn As B) (l:=.fn As B x.1) (v:=v) a1 id ba (λV W st hw I O=>by
      show ip P V.w0 V.prot As B x.1 v;rw[hw,O];exact h)
    exact⟨es,y,by rw[<- H];rfl⟩
  |clo f cs =>
    obtain⟨rfl,us,e,h⟩:=h;subst e;obtain⟨es,y,H⟩:=oe (P:=P) (w:=w) (ro:=ro) (pr:=pr) t (pk:=.clo f cs) (l:=.clr f (kb true cs x.1)) (v:=.func (.func f) #[] us.toArray) a1 id rfl (λV W st hw I O=>by
      obtain⟨i1,i2⟩:=ua V W I O h;exact⟨us,rfl,i1,i2⟩)
    exact⟨es,y,by rw[<- H];rfl⟩
  |iop a =>
    obtain⟨g,c,E,b0,hv,hg,hm,rfl⟩:=h;subst hv;rw[CV]at a0;obtain⟨a5,m1,m2,m3⟩:=jj (P:=P) (p:=true) hm a0.2;have hn:∀ j,(none:Option Nat)≠some (0+j):=λj=>by simp
    have Z:t≠B0+t:=by simp[B0]
    refine⟨[⟨t,⟨0,.one,[.bp (B0+t) 0]⟩,[.pointer (some ⟨g,0,none⟩)],λ_=>[],[],0⟩,⟨B0+t,⟨0,.agg,ap true a x.1⟩,c,a5,g::b0,g⟩],
      ⟨by simp,?_,λe he=>by simp at he;rcases he with rfl|rfl <;> simp,by rw[CL,CL,DV,CV];exact⟨by simpa using Z,by simp⟩,⟨_,B3 ..,rfl,rfl⟩,λz hz=>?_⟩,rfl⟩
    · intro e he
      simp only[CB,List.not_mem_nil,or_false]at he;rcases he with rfl|rfl
      · have h0:∀ (j:Nat) (l':Leaf),[Leaf.bp (B0+t) 0][j]?=some l'->j=0/\l'=.bp (B0+t) 0:=λj l' M=>by
          cases j with
          |zero=>simp at M;exact⟨rfl,M.symm⟩
          |succ j=>simp at M
        exact { len := rfl
                one:=λu hu=>by simp at hu;subst hu;rfl
                leaf:=λV W st hw I O hb j l' u y H=>by
                  obtain⟨rfl,rfl⟩:=h0 j l' y;simp at H;subst H;obtain⟨q1,q2,q3⟩:=hb (B0+t,g) (CI _);exact⟨q1,q2,by rw[q3]⟩
                own:=λj l' y H=>by obtain⟨_,rfl⟩:=h0 j l' y;exact H.elim
                sep:=λj j' l1 l2 y H=>by obtain⟨_,rfl⟩:=h0 j l1 y;exact H.elim
                box:=λhr=>absurd hr (by show ¬ B0<=t;omega) }
      · exact { len := by show (ap true a x.1).length = _; rw [cN, hm.len]
                one:=hm.one
                leaf:=λV W st _ I _ _ j l u y H=>m1 V W st (λk J=>.inr ⟨rfl,by rw[I];exact J⟩) j l u (hn j) y H
                own:=λj l y H k J=>BZ _ (m2 j l (hn j) y H k J)
                sep:=λj j' l l' y H h5 h6=>m3 j j' l l' (hn j) (hn j') y H h5 h6
                box:=λ_=>⟨rfl,B3 ..,λj l y H J=>a0.1 (m2 j l (hn j) y H g J),⟨E,hg⟩,CI _⟩ }
    · simp only[PK.bx,CU]at hz
      subst hz;exact⟨rfl,_,BZ _ (CI _),rfl,rfl⟩
  |hol a c off =>
    obtain⟨cs,u,b0,b1,E,e,xs,h1,h2,y,H,h5,h6⟩:=h;have a2:=bA.1 a0;have ad:b0.Nodup:=bA.2 λk=>by have:=a2 k;have:=h6 k;omega
    have a7:b1.Nodup:=bA.2 λk=>by have:=a2 k;have:=h6 k;omega
    have a4:∀ k,k∈b0->k∉b1:=λk J Y=>by
      have:=a2 k;have:=h6 k;have:=CJ.2 J;have:=CJ.2 Y;omega
    have b2:∀ k∈b0,k∈b:=λk J=>CJ.1 (by have:=h6 k;have:=CJ.2 J;omega)
    have a9:∀ k∈b1,k∈b:=λk J=>CJ.1 (by have:=h6 k;have:=CJ.2 J;omega)
    obtain⟨a5,m1,m2,m3⟩:=jj (P:=P) (p:=true) h2 ad;have Z:∀ j,j≠c->(some c:Option Nat)≠some (0+j):=λj M=>by simp;omega
    have b5:=mH (p:=true) H;rw[Nat.sub_zero]at b5;have b9:(ap true a x.1.1).getD c .dead=.own (true&&e.shy) none E e xs:=by rw[CC,b5];rfl
    refine⟨[⟨t,⟨0,bq a.isAgg,aV (ap true a x.1.1) c (.own (true&&e.shy) (some (x.1.2,off)) E e xs)⟩,cs,λj=>if j=c then b1 else a5 j,b,0⟩],
      ⟨by simp,?_,by simp,by simp,⟨_,CI _,rfl,kn h1⟩,by simp[PK.bx]⟩,?_⟩
    · intro en he
      simp only[CU]at he;subst he;have X:∀ (j:Nat) (l:Leaf),(aV (ap true a x.1.1) c (.own (true&&e.shy) (some (x.1.2,off)) E e xs))[j]?=some l->(j=c/\l=.own (true&&e.shy) (some (x.1.2,off)) E e xs)\/(j≠c/\(ap true a x.1.1)[j]?=some l):=by
        intro j l M;rcases aU _ _ _ _ _ M with ⟨q1,q2,_⟩|⟨q1,q2⟩
        · exact .inl ⟨q1,q2⟩
        · exact .inr ⟨q1,q2⟩
      exact { len := by show (aV (ap true a x.1.1) c _).length = _; simp only [aV, List.length_set]; rw [cN, h2.len]
              one:=h2.one
              leaf:=λV W st _ I _ _ j l u' h7 h8=>by
                have h8:cs[j]?=some u':=h8;rcases X j l h7 with ⟨rfl,rfl⟩|⟨M,h7⟩
                · rw[y]at h8
                  simp only[BU]at h8;subst h8;simp only[if_true];exact⟨a7,OwB.shy (p:=true) (h5.carry (λk J=>.inr ⟨rfl,by rw[I];exact J⟩) (λ_ _=>rfl) (λ_ _=>rfl))⟩
                · simp only[if_neg M]
                  exact m1 V W st (λk J=>.inr ⟨rfl,by rw[I];exact J⟩) j l u' (Z j M) h7 h8
              own:=λj l h7 h8 k J=>by
                rcases X j l h7 with ⟨rfl,rfl⟩|⟨M,h7⟩
                · simp only[if_true]at J;exact a9 k J
                · simp only[if_neg M]at J;exact b2 k (m2 j l (Z j M) h7 h8 k J)
              sep:=λj j' l l' h7 h8 h9 b3 k J Y=>by
                rcases X j l h7 with ⟨rfl,rfl⟩|⟨M,h7⟩ <;> rcases X j' l' h9 with ⟨rfl,rfl⟩|⟨a3,h9⟩
                · rfl
                · simp only[if_true]at J;simp only[if_neg a3]at Y
                  exact absurd J (a4 k (m2 j' l' (Z j' a3) h9 b3 k Y))
                · simp only[if_neg M]at J;simp only[if_true]at Y
                  exact absurd Y (a4 k (m2 j l (Z j M) h7 h8 k J))
                · simp only[if_neg M]at J;simp only[if_neg a3]at Y
                  exact m3 j j' l l' (Z j M) (Z j' a3) h7 h8 h9 b3 k J Y
              box:=λhr=>absurd hr (by show ¬ B0<=t;omega) }
    · show (t,(⟨0,bq a.isAgg,aV (ap true a x.1.1) c (uO x.1.2 off ((ap true a x.1.1).getD c .dead))⟩:bV))::de (t+1) ps x.2=_
      rw[b9];rfl
theorem ud:∀ {ps:List PK} {x:ab ps} {u:List Value} {r:List (List Nat)},dh P w ro pr ps x u r->u.length=ps.length
 |[],_,_,_,h=>by rw[h.1];rfl
 |_::_,_,_,_,⟨_,_,_,_,e,_,_,h⟩=>by rw[e,Ca,Ca,ud h]
theorem vB:∀ (ps:List PK) (x:ab ps) (Z:List Value) (H:List (List Nat)) (t:Nat),dh P w ro pr ps x Z H->H.flatten.Nodup->t+ps.length<=B0 ->
  ∃ J:List Ent,de t ps x=J.map (λe=>(e.r,e.c))/\J.flatMap (·.bl)=H.flatten/\(∀ e∈J,qr P w ro pr (el t ps Z) e) /\
   (∀ e∈J,(t<=e.r/\e.r<t+ps.length)\/(B0+t<=e.r/\e.r<B0+t+ps.length))/\(J.map (·.r)).Nodup /\
   (∀ (i:Nat) (v:Value),Z[i]?=some v->∃ e∈J,e.r=t+i/\er e.c.sh v e.cs)/\(∀ z∈el t ps Z,∃ e∈J,e.r=z.1/\e.g=z.2/\B0<=z.1)
 |[],x,Z,H,t,⟨e1,e2⟩,_,_=>by
  subst e1;subst e2;exact⟨[],rfl,rfl,by simp,by simp,by simp,λi v h=>by simp at h,by simp[el]⟩
 |pk::ps,x,Z,H,t,⟨v,M,b,a0,e1,e2,h1,h2⟩,Y,hB=>by
  subst e1;subst e2;rw[CD,Cb]at Y;simp only[Ca]at hB;obtain⟨a2,X,p2⟩:=BN t (by omega) (ps:=ps) (x:=x) Y.1 h1;obtain⟨a5,q1,q2,q3,q4,q5,q6,q7⟩:=vB ps x.2 M a0 (t+1) h2 Y.2.1 (by omega);have a1:el t (pk::ps) (v::M)=pk.bx t v++el (t+1) ps M:=by cases pk <;> rfl
  refine⟨a2++a5,by rw[p2,q1,Cl],by rw[List.flatMap_append,X.bl,q2,CD],λe y=>?_,λe y=>?_,?_,λi u hi=>?_,λz I=>?_⟩
  ·rw[a1];rcases BV.1 y with y|y
   ·exact (X.ok e y).mono (λz I=>BX _ I)
   ·exact (q3 e y).mono (λz I=>BY _ I)
  ·simp only[Ca];rcases BV.1 y with y|y
   ·rcases X.at_ e y with h|h <;> omega
   ·rcases q4 e y with h|h <;> omega
  ·rw[Cl,Cb];refine⟨X.nod,q5,λa ha b' a3 e0=>?_⟩;subst e0;obtain⟨e,y,rfl⟩:=B8.1 ha;obtain⟨e',a4,e1⟩:=B8.1 a3;rcases X.at_ e y with h|h <;> rcases q4 e' a4 with h'|h' <;> omega
  ·cases i with
   |zero =>
    simp at hi;subst hi;obtain⟨e,y,h3,O⟩:=X.slot;exact⟨e,BX _ y,by omega,O⟩
   |succ i =>
    obtain⟨e,y,h3,O⟩:=q6 i u (by simpa using hi);exact⟨e,BY _ y,by omega,O⟩
  ·rw[a1]at I;rcases BV.1 I with I|I
   ·obtain⟨h3,e,y,O,h5⟩:=X.bxs z I;exact⟨e,BX _ y,by rw[O,h3],h5,by rw[h3];exact Nat.le_add_right _ _⟩
   ·obtain⟨e,y,O,h5,h6⟩:=q7 z I;exact⟨e,BY _ y,O,h5,h6⟩
def gq (w:World)(ro:Nat->Prop)(ps:List PK)(u:List Value)(r:List (List Nat))(nt:Nat):Env:=⟨w,ro,r.flatten,nt,el 0 ps u,eo 0 ps u⟩
theorem oh:∀ {J:List Ent},(J.flatMap (·.bl)).Nodup->∀ e∈J,∀ H∈J,∀ k,k∈e.bl->k∈H.bl->e=H
 |[],_,e,M,_,_,_,_,_=>by simp at M
 |x::J,r,e,M,H,O,k,I,u=>by
  rw[List.flatMap_cons,Cb]at r;rcases CB.1 M with y|y <;> rcases CB.1 O with z|z
  ·rw[y,z]
  ·rw[y]at I;exact absurd rfl (r.2.2 k I k (CG.2 ⟨H,z,u⟩))
  ·rw[z]at u;exact absurd rfl (r.2.2 k u k (CG.2 ⟨e,y,I⟩))
  ·exact oh r.2.1 e y H z k I u
theorem yA:∀ {I:List Ent},(I.map (·.r)).Nodup->∀ e∈I,∀ H∈I,e.r=H.r->e=H
 |[],_,e,M,_,_,_=>by simp at M
 |x::I,u,e,M,H,O,J=>by
  rw[CL,CV]at u;rcases CB.1 M with y|y <;> rcases CB.1 O with z|z
  ·rw[y,z]
  ·exact absurd (B8.2 ⟨H,z,by rw[<- J,y]⟩) u.1
  ·exact absurd (B8.2 ⟨e,y,by rw[J,z]⟩) u.1
  ·exact yA u.2 e y H z J
theorem rV:∀ (u:List Ent) (q:Nat),(av (u.map λe=>(e.r,e.c)) q=bV.none/\u.find? (λe=>e.r==q)=none)\/∃ e∈u,e.r=q/\u.find? (λe=>e.r==q)=some e/\av (u.map λe=>(e.r,e.c)) q=e.c
 |[],q=>.inl ⟨rfl,rfl⟩
 |e::u,q=>by
  by_cases h:e.r=q
  ·refine .inr ⟨e,B3 ..,h,by simp[h],?_⟩;simp[av,ac,h]
  ·have z:B6 q e.r=false:=by
    cases z:B6 q e.r with
    |false=>rfl
    |true=>exact absurd (B4 z).symm h
   have O:av ((e::u).map λe=>(e.r,e.c)) q=av (u.map λe=>(e.r,e.c)) q:=by simp[av,ac,z]
   have H:(e::u).find? (λe=>e.r==q)=u.find? (λe=>e.r==q):=by simp[h]
   rw[O,H];rcases rV u q with y|⟨X,y,I,J,M⟩
   ·exact .inl y
   ·exact .inr ⟨X,BZ _ y,I,J,M⟩
theorem vC:∀ {ps:List PK} {r:List Value} {t:Nat} {z:Nat×Value},z∈eo t ps r->∃ i,z.1=t+i/\r[i]?=some z.2
 |[],_,_,_,h=>by simp[eo]at h
 |u::ps,[],_,_,h=>by cases u <;> simp[eo]at h
 |u::ps,v::r,t,z,h=>by
  have:z=(t,v)\/z∈eo (t+1) ps r:=by cases u <;> simp[eo]at h <;> first|exact h|exact .inr h
  rcases this with rfl|h
  ·exact⟨0,rfl,rfl⟩
  ·obtain⟨i,H,y⟩:=vC h;exact⟨i+1,by omega,by simpa using y⟩
theorem vD {ps:List PK}{x:ab ps}{O:List Value}{J:List (List Nat)}{nt:Nat}(h:dh P w ro (λk=>k<w.heap.size/\k∉J.flatten) ps x O J)(a3:J.flatten.Nodup)
  (c2:ps.length<=nt) (hB:nt<=GH):Rel P (gq w ro ps O J nt) (av (de 0 ps x)) { tmps:=O.toArray++CW (nt-O.length) undef,defers:=[] } w:=by
 have c1:=ud h;have c3:GH<=B0:=by decide
 obtain⟨Y,q1,q2,q3,q4,q5,q6,q7⟩:=vB ps x O J 0 h a3 (by omega);rw[q1];have b9:=rV Y;have a2:∀ e∈Y,∀ H∈Y,e.r=H.r->e=H:=by
  intro e he H b4 hr;exact yA q5 e he H b4 hr
 rw[<- q2]at a3;have a0:∀ e∈Y,∀ k∈e.bl,k∈J.flatten:=λe he k hk=>by rw[<- q2];exact CG.2 ⟨e,he,hk⟩
 have hE:∀ q,(av (Y.map λe=>(e.r,e.c)) q=bV.none/\Y.find? (λe=>e.r==q)=none)\/∃ e∈Y,e.r=q/\Y.find? (λe=>e.r==q)=some e/\av (Y.map λe=>(e.r,e.c)) q=e.c:=b9;have a1:∀ q,live (av (Y.map λe=>(e.r,e.c))) q->∃ e∈Y,e.r=q/\B0<=e.r/\Y.find? (λe=>e.r==q)=some e:=by
  rintro q ⟨h1,h2⟩;rcases hE q with ⟨I,_⟩|⟨e,I,y,h5,M⟩
  ·rw[I]at h2;cases h2
  ·exact⟨e,I,y,by rw[y];exact h1,h5⟩
 let β:Nat->Nat:=λq=>match Y.find? (λe=>e.r==q) with|some e=>e.g|none=>0
 let cs:Nat->List Value:=λq=>match Y.find? (λe=>e.r==q) with|some e=>e.cs|none=>[]
 let bs:Nat->Nat->List Nat:=λq j=>match Y.find? (λe=>e.r==q) with|some e=>e.bs j|none=>[]
 have a7:∀ z∈el 0 ps O,B0<=z.1/\(av (Y.map λe=>(e.r,e.c)) z.1).sh=.agg/\β z.1=z.2:=by
  intro z hz;obtain⟨e,he,h1,h2,I⟩:=q7 z hz;refine⟨I,?_⟩;rcases hE z.1 with ⟨_,y⟩|⟨H,y,h5,M,Z⟩
  ·exfalso;rw[DH]at y;exact y e he (by simp[h1])
  ·have:H=e:=a2 H y e he (by rw[h5,h1]);subst this;rw[Z];exact⟨((q3 H he).box (by rw[h1];exact I)).1,by simp only[β,M];exact h2⟩
 refine⟨{ β:=β,cs:=cs,bs:=bs,nw:=λ_=>False },?_⟩;have bb:(gq w ro ps O J nt).prot=λk=>k<w.heap.size/\k∉J.flatten:=rfl
 exact {
  nt:=by show (O.toArray++CW (nt-O.length) undef).size=nt;simp;omega
  df:=rfl
  slots:=λt ht=>by
   show er _ ((O.toArray++CW (nt-O.length) undef).getD t undef) (cs t);by_cases hq:t<ps.length
   ·have hv:=CE (show t<O.length by omega);have:(O.toArray++CW (nt-O.length) undef).getD t undef=O[t]:=by
     rw[CA,Cq (by simp;omega)];simp[hv]
    rw[this];obtain⟨e,he,h1,h2⟩:=q6 t _ hv;rw[Ce]at h1;rcases hE t with ⟨_,y⟩|⟨H,y,h5,M,Z⟩
    ·exfalso;rw[DH]at y;exact y e he (by simp[h1])
    ·have:H=e:=a2 H y e he (by rw[h5,h1]);subst this;rw[Z];simp only[cs,M];exact h2
   ·rcases hE t with ⟨I,y⟩|⟨H,y,h5,M,Z⟩
    ·rw[I];simp only[cs,y];rfl
    ·rcases q4 H y with h8|h8 <;> omega
  boxes:=λb hb=>by
   rcases hE b with ⟨I,y⟩|⟨H,y,h5,M,Z⟩
   ·rw[I];exact .inl ⟨rfl,rfl⟩
   ·obtain⟨g1,g2,g3,⟨E,g4⟩,g5⟩:=(q3 H y).box (by rw[h5];exact hb);rw[Z];exact .inr ⟨g1,E,by simp only[β,cs,M];exact g4⟩
  len:=λq=>by
   rcases hE q with ⟨I,y⟩|⟨H,y,h5,M,Z⟩
   ·rw[I];simp only[cs,y];rfl
   ·rw[Z];simp only[cs,M];exact (q3 H y).len
  one:=λq u hu=>by
   have hu:u∈cs q:=hu;rcases hE q with ⟨I,y⟩|⟨H,y,h5,M,Z⟩
   ·simp only[cs,y]at hu;simp at hu
   ·simp only[cs,M]at hu;exact (q3 H y).one u hu
  leaf:=λq j l v X hv=>by
   have hv:(cs q)[j]?=some v:=hv;rcases hE q with ⟨I,y⟩|⟨H,y,h5,M,Z⟩
   ·rw[I]at X;simp[bV.none]at X
   ·rw[Z]at X;simp only[cs,M]at hv;show aK P _ _ _ w (bs q j) l v;simp only[bs,M];exact (q3 H y).leaf (gq w ro ps O J nt) _ _ rfl rfl rfl a7 j l v X hv
  ownb:=λq j l X ho k hk=>by
   have hk:k∈bs q j:=hk;rcases hE q with ⟨I,y⟩|⟨H,y,h5,M,Z⟩
   ·rw[I]at X;simp[bV.none]at X
   ·rw[Z]at X;simp only[bs,M]at hk;have a9:=(q3 H y).own j l X ho k hk;refine⟨id,λhp=>hp.2 (a0 H y k a9),λb hb e0=>?_⟩;obtain⟨e2,g1,g2,g3,g4⟩:=a1 b hb;have a6:=(q3 e2 g1).box g3;have e0:β b=k:=e0;simp only[β,g4]at e0;have:=oh a3 H y e2 g1 k a9 (by rw[<- e0];exact a6.2.1);subst this;exact a6.2.2.1 j l X ho (by rw[e0];exact hk)
  sep:=λq j l q' j' l' X ho a5 b0 k hk a4=>by
   have hk:k∈bs q j:=hk;have a4:k∈bs q' j':=a4;rcases hE q with ⟨I,y⟩|⟨e1,y,h5,M,Z⟩
   ·rw[I]at X;simp[bV.none]at X
   ·rcases hE q' with ⟨bx,a8⟩|⟨e2,a8,bn,ba,b1⟩
    ·rw[bx]at a5;simp[bV.none]at a5
    ·rw[Z]at X;rw[b1]at a5;simp only[bs,M]at hk;simp only[bs,ba]at a4;have:=oh a3 e1 y e2 a8 k ((q3 e1 y).own j l X ho k hk) ((q3 e2 a8).own j' l' a5 b0 k a4);subst this;exact⟨by rw[<- h5,<- bn],(q3 e1 y).sep j j' l l' X ho a5 b0 k hk a4⟩
  box:=λb hb=>by
   obtain⟨e2,g1,g2,g3,g4⟩:=a1 b hb;have a6:=(q3 e2 g1).box g3;refine⟨id,λhp=>hp.2 ?_⟩;show β b∈_;simp only[β,g4];exact a0 e2 g1 _ a6.2.1
  inj:=λb b' hb b3 e0=>by
   obtain⟨e1,g1,g2,g3,g4⟩:=a1 b hb;obtain⟨e2,ad,c0,b2,b5⟩:=a1 b' b3;have e0:β b=β b':=e0;simp only[β,g4,b5]at e0;have:=oh a3 e1 g1 e2 ad e1.g ((q3 e1 g1).box g3).2.1 (by rw[e0];exact ((q3 e2 ad).box b2).2.1);subst this;rw[<- g2,<- c0]
  nwlt:=λk hk=>hk.elim
  os:=rfl,tape:=rfl,output:=rfl,size:=C6 _,keep:=λ_ _=>rfl
  fixb:=λz hz=>by
   obtain⟨h1,h2,I⟩:=a7 z hz;exact⟨⟨h1,h2⟩,I⟩
  fixt:=λz hz=>by
   obtain⟨i,h1,h2⟩:=vC hz;rw[Ce]at h1;show (O.toArray++CW (nt-O.length) undef).getD z.1 undef=z.2;rw[h1,CA,Cq (by simpa using (B7.1 h2).1)];simp[h2] }
end
section
variable {P:Program} {V:Env} {W:Wit} {Γ:List Ctr} {T:TypeId->TI} {R:Type} {st:St} {a:Act} {w:World} {ro:Nat->Prop}
theorem BO (hT:TOk P T)(h:an P V W st a w)(x:ResultVar)(z:pF st T x≠.off) :
  ∃ v O,(match x with|.tmp t=>(pure (a.tmps.getD t undef):Sem Value)|.cell b t=>(do loadVar t (<- asAddr (a.tmps.getD b undef)):Sem Value)).run P w=.ok v w /\
   er (pF st T x) v O/\aD P V W st w (vG st T x) O:=by
 cases x with
 |tmp t =>
  obtain⟨O,h1,X⟩:=cX h (.tmp t);exact⟨_,O,rfl,h1,X⟩
 |cell t u =>
  simp only[pF]at z ⊢;split at z
  ·rename_i b off hb;cases M:decide ((st b).sh=.agg)&&C8 (off+(T u).cells) (st b).ls.length&&!B6 (T u).cells 0 with
   |false=>rw[M]at z;exact absurd rfl z
   |true =>
    simp only[hb,M,cond_true,vG];simp only[BW,decide_eq_true_eq,CY]at M;obtain⟨⟨h1,X⟩,h3⟩:=M;have X:off+(T u).cells<=(st b).ls.length:=CQ X;have Y:T u≠.none:=by
     intro e;rw[e]at h3;simp[TI.cells]at h3
    obtain⟨hp,_,_,_,_⟩:=bz h (.tmp t) (by rw[hb];simp);rw[hb]at hp;obtain⟨hB,a0,I⟩:=hp;have I:a.tmps.getD t undef=.pointer (some ⟨W.β b,off,none⟩):=I;rcases h.boxes b hB with ⟨J,_⟩|⟨_,E,J⟩
    ·rw[a0]at J;cases J
    ·have r:c7 w (W.β b) 0 (W.cs b):=λi v I=>by
      rw[Ce,cell_of_row w (W.β b) i _ E (0,0) J];simpa using I
     have a1:=h.len b;have H:=r.sub off (T u).cells;rw[Ce]at H;obtain⟨v,y,Z⟩:=oo (hT u) Y H (by simp;omega);refine⟨v,_,?_,Z,((iF h b).drop off).take _⟩;simp only[I];simpa[asAddr]using y
  ·exact absurd rfl z
def nO (a:Act):ResultVar->Sem Value
 |.tmp t=>pure (a.tmps.getD t undef)
 |.cell b t=>do loadVar t (<- asAddr (a.tmps.getD b undef))
def nP (P:Program)(a:Act)(w:World):List ResultVar->List Value->Prop
 |[],u=>u=[]
 |x::y,u=>∃ v r,u=v::r/\(nO a x).run P w=.ok v w/\nP P a w y r
theorem rW:∀ (l:List ResultVar) (u:List Value),nP P a w l u->(l.mapM (nO a)).run P w=.ok u w
 |[],_,h=>by rw[show _=_ from h];rfl
 |x::l,_,⟨v,r,e,y,z⟩=>by subst e;simp[C7,y,rW l r z]
theorem Bb (b:Bool):bq b≠.off:=by cases b <;> simp[bq]
def RK.isBox:RK->Bool
 |.box _=>true
 |_=>false
theorem ue (hV:ax V)(hT:TOk P T)(h:an P V W st a w)(a9:V.ro0=ro){fx:List Nat}:∀ (rs:List RK) (I:List ResultVar) (y:cP (ai rs)),kt st T fx rs I=some y ->
  ∀ {G:Nat->Prop},(∀ k,bu V W y.p y.frz k->G k) ->
  ∃ (us:List Value) (H:List (List Nat)) (bx:List Nat),nP P a w I us/\gG w G ro rs y.val us H/\(∀ k,H.flatten.count k=(bc W y.kill).count k+(bx.map W.β).count k) /\
   (∀ b∈bx,live st b/\fx.any (B6 b)=false)/\bx.length=rs.countP RK.isBox/\(∀ z∈y.frz,aC st z)/\∀ z∈y.kill,aC st z
 |[],[],y,J,G,hG=>by
  simp only[kt,BU]at J;subst J;exact⟨[],[],[],rfl,⟨rfl,rfl⟩,λk=>by simp[bc],by simp,rfl,by simp,by simp⟩
 |[],_::_,_,J,_,_=>by simp[kt]at J
 |_::_,[],_,J,_,_=>by simp[kt]at J
 |r::rs,x::I,y,J,G,hG=>by
  simp only[kt]at J;cases M:decide (pF st T x=r.sh) with
  |false=>simp[M]at J
  |true =>
   simp only[M,cond_true]at J;have M:=of_decide_eq_true M;split at J
   ·rename_i X y2 u b1;simp only[BU]at J;subst J;obtain⟨v,a2,a6,O,Z⟩:=BO hT h x (by rw[M];cases r <;> simp only[RK.sh] <;> first|exact Bb _|simp);rw[M]at O;have a1:∀ k,bu V W X.p X.frz k->G k:=λk Y=>hG k (dZ.1 k Y)
    have b3:∀ k,bu V W y2.p y2.frz k->G k:=λk Y=>hG k (dZ.2 k Y)
    obtain⟨us,H,bx,i1,i2,i3,i4,i5,i6,i7⟩:=ue hV hT h a9 rs I y2 b1 b3;have a3:(nO a x).run P w=.ok v w:=by cases x <;> exact a6
    have a5:∀ (b:List Nat) (a0:List Nat),qf w G ro r X.val v b->(∀ k,b.count k=(bc W X.kill).count k+(a0.map W.β).count k)->(∀ b∈a0,live st b/\fx.any (B6 b)=false)->a0.length=(if r.isBox then 1 else 0)->(∀ z∈X.frz,aC st z)->(∀ z∈X.kill,aC st z) ->
      ∃ (us:List Value) (H:List (List Nat)) (bx:List Nat),nP P a w (x::I) us/\gG w G ro (r::rs) (X.val,y2.val) us H/\(∀ k,H.flatten.count k=(bc W (X.kill++y2.kill)).count k+(bx.map W.β).count k) /\
       (∀ b∈bx,live st b/\fx.any (B6 b)=false)/\bx.length=(r::rs).countP RK.isBox/\(∀ z∈X.frz++y2.frz,aC st z)/\∀ z∈X.kill++y2.kill,aC st z:=by
     intro b a0 f1 f2 f3 f4 f5 f6;refine⟨v::us,b::H,a0++bx,⟨v,us,rfl,a3,i1⟩,⟨v,us,b,H,rfl,rfl,f1,i2⟩,λk=>?_,λz hz=>(BV.1 hz).elim (f3 z) (i4 z),?_,λz hz=>(BV.1 hz).elim (f5 z) (i6 z),λz hz=>(BV.1 hz).elim (f6 z) (i7 z)⟩
     ·rw[CD,CH,f2 k,i3 k,dQ,CH,Cl,CH];omega
     ·rw[List.length_append,f4,i5,DN];cases r.isBox <;> simp <;> omega
    cases r with
    |v b =>
     simp only[sl]at u;obtain⟨g1,g2,g3⟩:=dW (pos:=0) h Z u;exact a5 (bc W X.kill) [] ⟨a2,gH O,g1.mono a1⟩ (λk=>by simp) (by simp) rfl g2 g3
    |bv b =>
     simp only[sl,B5]at u;obtain⟨⟨p,z⟩,hz,rfl⟩:=u;have g1:=eP h Z hz;refine a5 [] [] ⟨rfl,a2,gH O,g1.mono λk Y=>?_⟩ (λk=>by simp[bc]) (by simp) rfl (λz hz=>ez Z hz) (by simp);rcases Y with (Y|⟨_,Y⟩)|Y
     ·exact .inl (a1 k (.inl (.inl Y)))
     ·exact .inr (by rw[<- a9];exact Y)
     ·exact .inl (a1 k (.inr Y))
    |box b =>
     simp only[sl]at u;split at u
     ·rename_i b0 b2;cases a4:!(fx.any (B6 b0)) with
      |false=>rw[a4]at u;cases u
      |true =>
       rw[a4]at u;simp only[cond_true]at u;have O:a2=[v]:=O;subst O;rw[b2]at Z;obtain⟨hB,a7,a8⟩:=Z.1.1;obtain⟨g1,g2,g3⟩:=dW (pos:=0) h (iF h b0) u;rcases h.boxes b0 hB with ⟨h8,_⟩|⟨_,E,h8⟩
       ·rw[a7]at h8;cases h8
       ·exact a5 (W.β b0::bc W X.kill) [b0] ⟨W.β b0,W.cs b0,E,_,a8,h8,g1.mono a1,rfl⟩ (λk=>by
         rw[Cm,CL,DV,Cm,List.count_nil];omega) (λb' ad=>by
         simp at ad;subst ad;exact⟨⟨hB,a7⟩,by simpa using a4⟩) rfl g2 g3
     ·cases u
   ·cases J
theorem mI (hV:ax V)(h:an P V W st a w){w0:World}{pr:Nat->Prop}(a4:V.nt<=GH):∀ (ps:List PK) (x:ab ps) (vs:List Value) (a3:List (List Nat)) (t:Nat) (o:cP (ah ps)),dh P w0 ro pr ps x vs a3->il st t ps=some o->t+ps.length<=V.nt ->
  (∀ z∈eo t ps vs,a.tmps.getD z.1 undef=z.2)->(∀ z∈el t ps vs,live st z.1/\W.β z.1=z.2)->∀ {G:Nat->Prop},(∀ k,bu V W o.p o.frz k->G k) ->
  ∃ r,bP w G ps o.val vs r/\(∀ k,r.flatten.count k=(bc W o.kill).count k+((bK t ps).map W.β).count k)/\(∀ z∈o.frz,aC st z)/\(∀ z∈o.kill,aC st z)/\∀ b∈bK t ps,live st b
 |[],x,vs,a3,t,o,⟨e1,e2⟩,y,_,_,_,G,hG=>by
  simp only[il,BU]at y;subst y;subst e1;exact⟨[],trivial,λk=>by simp[bc,bK],by simp,by simp,by simp[bK]⟩
 |pk::ps,x,vs,a3,t,o,⟨v,Y,b,a0,e1,e2,h1,h2⟩,y,ht,a1,a2,G,hG=>by
  subst e1;subst e2;simp only[Ca]at ht;have u:∀ (o':cP (ah ps)),il st (t+1) ps=some o'->eo t (pk::ps) (v::Y)=eo (t+1) ps Y->el t (pk::ps) (v::Y)=el (t+1) ps Y->(∀ k,bu V W o'.p o'.frz k->G k) ->
    ∃ r,bP w G ps o'.val Y r/\(∀ k,r.flatten.count k=(bc W o'.kill).count k+((bK (t+1) ps).map W.β).count k)/\(∀ z∈o'.frz,aC st z)/\(∀ z∈o'.kill,aC st z)/\∀ b∈bK (t+1) ps,live st b:=by
   intro o' a8 e1 e2 a9;exact mI hV h a4 ps x.2 Y a0 (t+1) o' h2 a8 (by omega) (λz H=>a1 z (by rw[e1];exact H)) (λz H=>a2 z (by rw[e2];exact H)) a9
  cases pk with
  |io b =>
   simp only[il]at y;split at y
   ·rename_i y1 y2 Z a5;simp only[BU]at y;subst y;obtain⟨r,O,X,M,I,J⟩:=mI hV h a4 ps x.2 Y a0 (t+1) y2 h2 a5 (by omega) (λz H=>a1 z (BZ _ H)) (λz H=>a2 z H) (λk hk=>hG k (dZ.2 k hk));cases hb:decide ((au st (.tmp t)).1=bq b.isAgg) with
    |false=>rw[hb]at Z;cases Z
    |true =>
     rw[hb]at Z;simp only[cond_true]at Z;obtain⟨cs,h3,h4⟩:=cX h (.tmp t);rw[of_decide_eq_true hb]at h3;have hv:a.eval (.tmp t)=v:=a1 (t,v) (B3 ..);rw[hv]at h3;obtain⟨g1,g2,g3⟩:=dW (pos:=0) h h4 Z;refine⟨bc W y1.kill::r,⟨?_,O⟩,λk=>?_,λz H=>(BV.1 H).elim (g2 z) (M z),λz H=>(BV.1 H).elim (g3 z) (I z),J⟩
     ·unfold jE;rw[if_neg (by simp)];exact⟨cs,gH h3,g1.mono (λk hk=>hG k (dZ.1 k hk))⟩
     ·rw[CD,CH,X k,dQ,CH];show _=_+((bK (t+1) ps).map W.β).count k;omega
   ·cases y
  |iop b =>
   simp only[il]at y;split at y
   ·rename_i y1 y2 Z a5;simp only[BU]at y;subst y;obtain⟨r,O,X,M,I,J⟩:=mI hV h a4 ps x.2 Y a0 (t+1) y2 h2 a5 (by omega) (λz H=>a1 z (BZ _ H)) (λz H=>a2 z (BZ _ H)) (λk hk=>hG k (dZ.2 k hk));obtain⟨g,c,E,b0,hv,_,_,_⟩:=h1;subst hv;obtain⟨a6,hβ⟩:=a2 (B0+t,uc (.pointer (some ⟨g,0,none⟩))) (B3 ..);have hβ:W.β (B0+t)=g:=hβ;obtain⟨g1,g2,g3⟩:=dW (pos:=0) h (iF h (B0+t)) Z;rcases h.boxes (B0+t) a6.1 with ⟨h8,_⟩|⟨_,E',h8⟩
    ·have:=a6.2;rw[h8]at this;cases this
    ·refine⟨(g::bc W y1.kill)::r,⟨?_,O⟩,λk=>?_,λz H=>(BV.1 H).elim (g2 z) (M z),λz H=>(BV.1 H).elim (g3 z) (I z),λb' a7=>?_⟩
     ·unfold jE;rw[if_pos rfl];exact⟨g,W.cs (B0+t),E',_,rfl,by rw[<- hβ];exact h8,g1.mono (λk hk=>hG k (dZ.1 k hk)),rfl⟩
     ·rw[CD,CH,X k,dQ,CH,Cm];show _=_+(W.β (B0+t)::(bK (t+1) ps).map W.β).count k;rw[Cm,hβ];omega
     ·rcases CB.1 a7 with rfl|a7
      ·exact a6
      ·exact J b' a7
   ·cases y
  |rd b =>
   obtain⟨r,O,X,M,I,J⟩:=u o y rfl rfl hG;exact⟨[]::r,⟨rfl,O⟩,λk=>by rw[CD,CT];exact X k,M,I,J⟩
  |own b =>
   obtain⟨r,O,X,M,I,J⟩:=u o y rfl rfl hG;exact⟨[]::r,⟨rfl,O⟩,λk=>by rw[CD,CT];exact X k,M,I,J⟩
  |rref b =>
   obtain⟨r,O,X,M,I,J⟩:=u o y rfl rfl hG;exact⟨[]::r,⟨rfl,O⟩,λk=>by rw[CD,CT];exact X k,M,I,J⟩
  |rref2 b =>
   obtain⟨r,O,X,M,I,J⟩:=u o y rfl rfl hG;exact⟨[]::r,⟨rfl,O⟩,λk=>by rw[CD,CT];exact X k,M,I,J⟩
  |fn As B =>
   obtain⟨r,O,X,M,I,J⟩:=u o y rfl rfl hG;exact⟨[]::r,⟨rfl,O⟩,λk=>by rw[CD,CT];exact X k,M,I,J⟩
  |clo f cs =>
   obtain⟨r,O,X,M,I,J⟩:=u o y rfl rfl hG;exact⟨[]::r,⟨rfl,O⟩,λk=>by rw[CD,CT];exact X k,M,I,J⟩
  |hol b c off =>
   obtain⟨r,O,X,M,I,J⟩:=u o y rfl rfl hG;exact⟨[]::r,⟨rfl,O⟩,λk=>by rw[CD,CT];exact X k,M,I,J⟩
end
section
variable {P:Program} {Γ:List Ctr} {T:TypeId->TI} {w:World} {ro:Nat->Prop}
theorem uL {fn:Func}{a:Act}{w:World}{r:List Value}(h:nP P a w fn.results.toList r):(results fn a.tmps).run P w=.ok (if h:r.toArray.size=1 then r.toArray[0] else .tuple r.toArray) w:=by
 have y:=rW _ _ h;have e:results fn a.tmps=(fn.results.mapM (nO a) >>= λu=>pure (if h:u.size=1 then u[0] else .tuple u)):=by
  unfold results;congr 1
 have z:(fn.results.mapM (nO a)).run P w=.ok r.toArray w:=by
  rw[Array.mapM_eq_mapM_toList];simp[y]
 rw[e];simp only[Ci,z,Cc,DJ]
theorem BP (us:List Value):sw us (if h:us.toArray.size=1 then us.toArray[0] else .tuple us.toArray):=by
 match us with
 |[]=>rfl
 |[u]=>rfl
 |u::r::us =>
  rw[dif_neg (by simp)];rfl
theorem rX:∀ (ps:List PK) (t:Nat),(bK t ps).Nodup/\∀ b∈bK t ps,B0+t<=b
 |[],t=>⟨Cr,by simp[bK]⟩
 |H::ps,t=>by
  obtain⟨u,y⟩:=rX ps (t+1);have z:∀ b∈bK (t+1) ps,B0+t<=b:=λb r=>by have:=y b r;omega
  cases H with
  |iop a =>
   refine⟨CV.2 ⟨λI=>?_,u⟩,λb r=>?_⟩
   ·have:=y _ I;omega
   ·rcases CB.1 r with rfl|r
    ·exact C6 _
    ·exact z b r
  |_=>exact⟨u,z⟩
theorem BQ {u:List RK}(h:qw u=true):u.countP RK.isBox<=1:=by
 unfold qw at h;split at h
 ·simp[RK.isBox]
 ·rw[DB.2]
  ·exact DP _
  ·intro r y;rw[CK]at h;have:=h r y;cases r <;> simp[RK.isV,RK.isBox]at this ⊢
theorem rY {β:Nat->Nat}:∀ {bs:List Nat},bs.Nodup->(∀ b∈bs,∀ u∈bs,β b=β u->b=u)->(bs.map β).Nodup
 |[],_,_=>Cr
 |b::bs,z,H=>by
  rw[CV]at z;rw[CL,CV];refine⟨λM=>?_,rY z.2 (λx J y I=>H x (BZ _ J) y (BZ _ I))⟩;obtain⟨u,r,e⟩:=B8.1 M;have:=H u (BZ _ r) b (B3 ..) e;exact z.1 (by rw[<- this];exact r)
theorem yB (hT:TOk P T){c:Ctr}(c2:qw c.rs=true){vs:List Value}{I:List (List Nat)}{fn:Func}{nt:Nat}(hV:ax (gq w ro c.ps vs I nt)){x:ab c.ps}{pr:Nat->Prop}(a7:dh P w ro pr c.ps x vs I)(c1:c.ps.length<=nt){ex:Ex}{s1:St}{y:ai c.rs×ah c.ps}
  (r:da T c.ps c.rs c.fresh fn.results.toList ex s1=some y) {a:Act} {w':World} (u:Rel P (gq w ro c.ps vs I nt) s1 a w') :
  (ex=.normal\/ex=.ret)/\∃ v,(results fn a.tmps).run P w'=.ok v w'/\tI c w ro vs I y (.returned v) w':=by
 obtain⟨W,u⟩:=u;have ba:ex=.normal\/ex=.ret:=by
  cases ex with
  |normal=>exact .inl rfl
  |ret=>exact .inr rfl
  |exit id=>cases r
 refine⟨ba,?_⟩;have r:finR T c.ps c.rs c.fresh fn.results.toList s1=some y:=by
  rcases ba with rfl|rfl <;> exact r
 unfold finR at r;split at r
 ·rename_i M O bb bl;cases Y:be (M.kill++O.kill)&&dJ (M.frz++O.frz) (M.kill++O.kill)&&(!c.fresh||!(M.p||O.p)) with
  |false=>rw[Y]at r;cases r
  |true =>
   rw[Y]at r;simp only[cond_true,BU]at r;subst r;simp only[BW]at Y;obtain⟨⟨b4,c4⟩,b9⟩:=Y;let N:Nat->Prop:=λk=>W.nw k\/∃ z∈M.frz++O.frz,k∈W.bs z.1 z.2
   have hG:∀ (p:Bool) (ad:List (Nat×Nat)),(p=true->(M.p||O.p)=true)->(∀ z∈ad,z∈M.frz++O.frz)->∀ k,bu (gq w ro c.ps vs I nt) W p ad k->N k\/(c.fresh=false/\ro k):=by
    intro p ad hp H k J;rcases J with (J|⟨hq,J⟩)|⟨z,Z,J⟩
    ·exact .inl (.inl J)
    ·refine .inr ⟨?_,J⟩;rw[hp hq]at b9;simpa using b9
    ·exact .inl (.inr ⟨z,H z Z,J⟩)
   obtain⟨us,a6,bx,r1,r2,r3,r4,r5,r6,r7⟩:=ue hV hT u rfl c.rs fn.results.toList M bb (G:=λk=>N k\/(c.fresh=false/\ro k)) (hG M.p M.frz (by intro h;simp[h]) (λz H=>BX _ H));obtain⟨b2,o1,o2,o3,o4,o5⟩:=mI hV u hV.nt c.ps x vs I 0 O a7 bl (by rw[Ce];exact c1) (λz H=>u.fixt z H) (λz H=>u.fixb z H) (G:=λk=>N k\/(c.fresh=false/\ro k)) (hG O.p O.frz (by intro h;simp[h]) (λz H=>BY _ H));have a2:∀ z∈M.kill++O.kill,aC s1 z:=λz H=>(BV.1 H).elim (r7 z) (o4 z)
   have a3:∀ z∈M.frz++O.frz,aC s1 z:=λz H=>(BV.1 H).elim (r6 z) (o3 z)
   have a4:∀ k,k<w'.heap.size->¬ (gq w ro c.ps vs I nt).prot k->qg w w' I.flatten k:=by
    intro k J hp;refine⟨J,?_⟩;by_cases c3:k<w.heap.size
    ·right;apply CP;intro hn;exact hp ⟨c3,hn⟩
    ·exact .inl (by omega)
   have c0:∀ k,N k->qg w w' I.flatten k:=by
    rintro k (J|⟨z,H,J⟩)
    ·exact a4 k (u.nwlt k J).1 (u.nwlt k J).2
    ·obtain⟨l,h7,h8⟩:=a3 z H;exact a4 k (u.own_lt h7 h8 k J) (u.ownb z.1 z.2 l h7 h8 k J).2.1
   have X:∀ b∈bx++bK 0 c.ps,live s1 b:=λb R=>(BV.1 R).elim (λR=>(r4 b R).1) (o5 b)
   have b5:(bx++bK 0 c.ps).Nodup:=by
    rw[Cb];refine⟨?_,(rX c.ps 0).1,λb R b' a8 e=>?_⟩
    ·have:=BQ c2;rw[<- r5]at this
     match bx,this with
     |[],_=>exact Cr
     |[b],_=>simp
    ·subst e;have:=Ct.1 (r4 b R).2 b a8;simp at this
   have b1:=rY (β:=W.β) b5 (λb R b' a8 e=>u.inj b b' (X b R) (X b' a8) e);have a5:∀ k,(b2.flatten++a6.flatten).count k=(bc W (M.kill++O.kill)).count k+((bx++bK 0 c.ps).map W.β).count k:=λk=>by
    rw[CH,o2 k,r3 k,dQ,CH,Cl,CH];omega
   have bn:=bA.1 (gY u b4 a2);have b0:∀ k∈b2.flatten++a6.flatten,(∃ z∈M.kill++O.kill,k∈W.bs z.1 z.2)\/∃ b,live s1 b/\W.β b=k:=λk J=>by
    have h5:=CJ.2 J;rw[a5 k]at h5;by_cases h6:k∈bc W (M.kill++O.kill)
    ·exact .inl (gx.1 h6)
    ·have:=Cs.2 h6;obtain⟨b,R,e⟩:=B8.1 (CJ.1 (show 0<((bx++bK 0 c.ps).map W.β).count k by omega));exact .inr ⟨b,X b R,e⟩
   refine⟨_,uL r1,_,us,N,b2,a6,rfl,BP us,u.size,u.os,u.tape,u.output,λk h1 h2=>u.keep k ⟨h1,h2⟩,c0,o1,r2,bA.2 λk=>?_,λk J=>?_⟩
   ·rw[a5 k];have h5:=bn k;have h6:=bA.1 b1 k;by_cases h7:k∈(bx++bK 0 c.ps).map W.β
    ·have:(bc W (M.kill++O.kill)).count k=0:=Cs.2 λhm=>by
      obtain⟨b,R,e⟩:=B8.1 h7;obtain⟨z,H,a1⟩:=gx.1 hm;obtain⟨l,hl,ho⟩:=a2 z H;exact (u.ownb z.1 z.2 l hl ho k a1).2.2 b (X b R) e
     omega
    ·have:=Cs.2 h7;omega
   ·rcases b0 k J with ⟨z,H,a1⟩|⟨b,R,e⟩
    ·obtain⟨l,hl,ho⟩:=a2 z H;have h9:=u.ownb z.1 z.2 l hl ho k a1;refine⟨a4 k (u.own_lt hl ho k a1) h9.2.1,?_⟩;rintro (hn|⟨z',Z,a0⟩)
     ·exact h9.1 hn
     ·obtain⟨l',a9,b3⟩:=a3 z' Z;obtain⟨e1,e2⟩:=u.sep z.1 z.2 l z'.1 z'.2 l' hl ho a9 b3 k a1 a0;exact nT c4 z' Z (by rw[show z'=z from Prod.ext e1.symm e2.symm];exact H)
    ·subst e;have h9:=u.box b R;refine⟨a4 _ (u.box_lt R) h9.2,?_⟩;rintro (hn|⟨z',Z,a0⟩)
     ·exact h9.1 hn
     ·obtain⟨l',a9,b3⟩:=a3 z' Z;exact (u.ownb z'.1 z'.2 l' a9 b3 _ a0).2.2 b R rfl
 ·cases r
theorem kk:∀ {ps:List PK} {u:List Value} {t:Nat} {z:Nat×Value},z∈eo t ps u->z.1∈gw t ps
 |[],_,_,_,h=>by simp[eo]at h
 |r::ps,[],_,_,h=>by cases r <;> simp[eo]at h
 |r::ps,v::u,t,z,h=>by
  cases r <;> simp only[eo,gw,CB]at h ⊢ <;> first
   |exact kk h
   |exact h.imp (λe=>by rw[e]) kk
theorem kl:∀ {ps:List PK} {u:List Value} {t:Nat} {z:Nat×Nat},z∈el t ps u->z.1∈bK t ps
 |[],_,_,_,h=>by simp[el]at h
 |r::ps,[],_,_,h=>by cases r <;> simp[el]at h
 |r::ps,v::u,t,z,h=>by
  cases r <;> simp only[el,bK,CB]at h ⊢ <;> first
   |exact kl h
   |exact h.imp (λe=>by rw[e]) kl
theorem ea {f:FuncId}{fn:Func}{c:Code}(y:P.funcs[f]?=some fn)(H:(fn.name== "runtime.NumGoroutine")=false) (z:fn.body=some c):ge P f:=by
 intro u w;have r:fn.name≠ "runtime.NumGoroutine" := by simpa using H
 simp[callFunc,y,r,z]
theorem pw (hT:TOk P T)(hΓ:∀ c∈Γ,bT P c)(X:P.follows .mixedOrders=true){c:Ctr}{fn:Func}(hf:P.funcs[c.f]?=some fn)(hn:(fn.name== "runtime.NumGoroutine")=false)
  {L:List (Nat×List (Nat×List Coe))} {Z:Nat} (Y:fn.body.isSome=true) (O:∀ x,evF Γ T L Z fn c.ps c.rs c.fresh x=c.den x):bT P c:=by
 obtain⟨H,Y⟩:=Option.isSome_iff_exists.1 Y;refine⟨ea hf hn Y,λw ro x vs a1 y u a3 a4 J=>?_⟩;rw[<- O]at J;unfold evF at J;simp only[Y]at J;cases r:dX fn.ntmps (gw 0 c.ps) H&&C8 c.ps.length fn.ntmps&&C8 fn.ntmps GH&&qw c.rs&&du L (bK 0 c.ps) H with
 |false=>simp[r]at J
 |true =>
  simp only[r,cond_true]at J;simp only[BW]at r;obtain⟨⟨⟨⟨h1,h2⟩,h3⟩,h4⟩,h5⟩:=r;have h2:=CQ h2;have h3:=CQ h3;have hV:ax (gq w ro c.ps vs a1 fn.ntmps):=⟨λk hk=>a3 k hk,h3⟩;have a0:=vD (P:=P) (ro:=ro) u a4 h2 h3;refine calls_of_wp hf Y ?_;rw[DK];refine sy hV hT hΓ X (λz hz=>kl hz) (nt:=fn.ntmps) (fix:=gw 0 c.ps) rfl (λz hz=>kk hz) H h1 h5 _ _ y _ J (λex s1 R a' w' hr=>?_) _ _ a0;obtain⟨a5,v,M,I⟩:=yB hT h4 hV u h2 R hr;have a2:a'.defers=[]:=by obtain⟨W,hr⟩:=hr;exact hr.df
  rcases a5 with rfl|rfl <;> exact⟨a2,v,M,I⟩
end
section
variable {P:Program}
def szB (P:Program)(t:TypeId)(n:Nat):Bool :=
 match P.info? t with
 |some i=>B6 i.size n
 |none=>false
theorem f9 {t:TypeId}{n:Nat}(h:szB P t n=true):bU P t n:=by
 unfold szB at h;unfold bU;split at h
 ·rename_i i r;rw[r];simp only[CN];rw[B4 h]
 ·cases h
def uf (P:Program)(t:TypeId)(agg:Bool):Bool :=
 match P.underlying t with
 |some (.struct _)|some (.array _ _)=>agg
 |some _=>!agg
 |none=>false
theorem q9 {t:TypeId}{agg:Bool}(h:uf P t agg=true):(P.underlying t).map (λd=>match d with|.struct _|.array _ _=>true|_=>false)=some agg:=by
 unfold uf at h;split at h
 ·rename_i r;rw[r];simp[h]
 ·rename_i r;rw[r];simp[h]
 ·rename_i d u y r;rw[r];simp only[CN,BU];cases agg with
  |true=>cases h
  |false =>
   cases d <;> first|rfl|(exact absurd r (u _))|(exact absurd r (y _ _))
 ·cases h
theorem Bc {t:TypeId}{agg:Bool}(h:(P.underlying t).map (λd=>match d with|.struct _|.array _ _=>true|_=>false)=some agg)(w:World):(isAgg t).run P w=.ok agg w:=by
 unfold isAgg;cases r:P.underlying t with
 |none=>simp[r]at h
 |some u =>
  rw[r]at h;simp only[CN,BU]at h;subst h;rw[Ci,run_underlying r w];cases u <;> rfl
def lT (P:Program)(f:Field)(off:Nat)(b:Ty):Bool:=(f.name != "_")&&B6 f.offset off&&szB P f.type b.cells&&uf P f.type b.isAgg
def eqF (P:Program)(g:Ty->TypeId->Bool):List Field->Nat->Ty->Bool
 |[],_,_=>false
 |[f],off,b=>lT P f off b&&g b f.type
 |f::r,off,.pair b c=>lT P f off b&&g b f.type&&eqF P g r (off+b.cells) c
 |_,_,_=>false
def eqT (P:Program):Nat->Ty->TypeId->Bool
 |0,_,_=>false
 |n+1,a,t=>match a with
  |.int k=>(match P.underlying t with|some (.int k')=>decide (k'=k)|_=>false)
  |.bool=>(match P.underlying t with|some .bool=>true|_=>false)
  |.str=>(match P.underlying t with|some .string=>true|_=>false)
  |.pair b c=>(match P.underlying t with|some (.struct fs)=>!P.stoodInHeld t&&eqF P (eqT P n) fs.toList 0 (.pair b c)|_=>false)
  |_=>false
theorem zN:∀ (b:Ty),b.isAgg=false->b.cells=1
 |.int _,_=>rfl
 |.bool,_=>rfl
 |.str,_=>rfl
 |.list _ _ _,_=>rfl
 |.hdr,_=>rfl
 |.unit,h=>by cases h
 |.pair _ _,h=>by cases h
theorem mJ {f:Field}{off:Nat}{b:Ty}(h:lT P f off b=true){xs p c s:List Value}(J:xs=p++c++s)(M:p.length=off)(z:c.length=b.cells)(w:World) :
  ∃ v,(part f.type xs.toArray f.offset).run P w=.ok v w/\dj b.isAgg v c:=by
 unfold lT at h;simp only[BW]at h;obtain⟨⟨⟨_,y⟩,R⟩,X⟩:=h;have y:=B4 y;have r:=Bc (q9 X) w;have H:=dy (f9 R) w;have u:(xs.drop off).take b.cells=c:=by
  rw[J,CR,<- M,List.drop_left,<- z,List.take_left]
 cases I:b.isAgg with
 |true =>
  rw[I]at r;refine⟨.agg c.toArray,?_,rfl⟩;have e:xs.toArray.extract off (off+b.cells)=c.toArray:=by
   rw[List.extract_toArray,List.extract_eq_take_drop,Nat.add_sub_cancel_left,u]
  simp only[part,Ci,r,Cc,if_true,H,DJ,y,e]
 |false =>
  rw[I]at r;have O:=zN b I;rw[O]at z
  match c,z with
  |[v],_ =>
   refine⟨v,?_,rfl⟩;have e:xs.toArray[off]?=some v:=by
    simp only[List.getElem?_toArray];rw[J,CR,CM (by omega)];simp[M]
   simp only[part,Ci,r,Cc,Cn,if_false,y,e,DJ]
def Ad (P:Program)(d:Nat)(b:Ty)(t:TypeId):Prop:=∀ (w:World) (G:Nat->Prop) (x y:b.den) (u r:Value) (H z:List Value),dj b.isAgg u H->Rd w G b x H->dj b.isAgg r z->Rd w G b y z ->
 (Op.equalIn d t u r).run P w=.ok (b.eqv x y) w
theorem yC {d:Nat}{g:Ty->TypeId->Bool}(hg:∀ b t,g b t=true->Ad P d b t):∀ (fs:List Field) (off:Nat) (b:Ty),eqF P g fs off b=true->∀ (w:World) (G:Nat->Prop) (x y:b.den) (z O u R:List Value),
  z.length=off->u.length=off->Rd w G b x O->Rd w G b y R->(Op.eqFields d (z++O).toArray (u++R).toArray fs).run P w=.ok (b.eqv x y) w
 |[],_,_,h=>by simp[eqF]at h
 |[f],off,b,h=>by
  intro w G x y z O u R r H hx Z;simp only[eqF,BW]at h;obtain⟨v1,h1,h2⟩:=mJ h.1 (xs:=z++O) (p:=z) (c:=O) (s:=[]) (by simp) r hx.len w;obtain⟨v2,h3,h4⟩:=mJ h.1 (xs:=u++R) (p:=u) (c:=R) (s:=[]) (by simp) H Z.len w;have h5:=hg b f.type h.2 w G x y v1 v2 O R h2 hx h4 Z;have hn:f.name≠ "_" := by
   have:=h.1;unfold lT at this;simp only[BW]at this;simpa using this.1.1.1
  simp only[Op.eqFields,if_pos hn,Ci,h1,h3,h5,Cc];cases b.eqv x y <;> simp
 |f::X::fs,off,.pair b c,h=>by
  intro w G x y z O u R r H hx Z;simp only[eqF,BW]at h;obtain⟨⟨Y,a2⟩,M⟩:=h;obtain⟨c1,c2,rfl,I,a1⟩:=hx;obtain⟨d1,d2,rfl,J,a0⟩:=Z;obtain⟨v1,h1,h2⟩:=mJ Y (xs:=z++(c1++c2)) (p:=z) (c:=c1) (s:=c2) (by simp) r I.len w;obtain⟨v2,h3,h4⟩:=mJ Y (xs:=u++(d1++d2)) (p:=u) (c:=d1) (s:=d2) (by simp) H J.len w;have h5:=hg b f.type a2 w G x.1 y.1 v1 v2 c1 d1 h2 I h4 J;have h6:=yC hg (X::fs) (off+b.cells) c M w G x.2 y.2 (z++c1) c2 (u++d1) d2 (by simp[r,I.len]) (by simp[H,J.len]) a1 a0;rw[CR,CR]at h6;have hn:f.name≠ "_" := by
   unfold lT at Y;simp only[BW]at Y;simpa using Y.1.1.1
  rw[Op.eqFields];simp only[if_pos hn,Ci,h1,h3,h5,Cc];show _=Result.ok (b.eqv x.1 y.1&&c.eqv x.2 y.2) w;cases b.eqv x.1 y.1 with
  |false=>simp
  |true=>simpa using h6
 |f::X::fs,off,.int _,h=>by simp[eqF]at h
 |f::X::fs,off,.bool,h=>by simp[eqF]at h
 |f::X::fs,off,.str,h=>by simp[eqF]at h
 |f::X::fs,off,.unit,h=>by simp[eqF]at h
 |f::X::fs,off,.list _ _ _,h=>by simp[eqF]at h
 |f::X::fs,off,.hdr,h=>by simp[eqF]at h
theorem rZ (x y:ByteArray):(x==y)=decide (x=y):=by
 rw[beq_toListBytes];by_cases h:x=y
 ·subst h;simp
 ·rw[decide_eq_false h];cases r:(x.toList==y.toList) with
  |false=>rfl
  |true =>
   exfalso;apply h;have:=eq_of_beq r;rw[DC,DC]at this;apply ByteArray.ext;exact Array.ext' this
theorem yD:∀ (n:Nat) (a:Ty) (t:TypeId),eqT P n a t=true->∀ d,n<=d->Ad P d a t
 |0,_,_,h=>by simp[eqT]at h
 |n+1,a,t,h=>by
  intro d hd;obtain⟨d,rfl⟩:∃ d',d=d'+1:=⟨d-1,by omega⟩;intro w G x y R O J M u H r z;cases a with
  |int k =>
   simp only[eqT]at h;split at h
   ·rename_i Z I;have hk:=of_decide_eq_true h;subst hk;have H:J=[.int Z x]:=H;have z:M=[.int Z y]:=z;have u:J=[R]:=u;have r:M=[O]:=r;rw[H]at u;rw[z]at r;simp at u r;subst u;subst r;simp[Op.equalIn,run_underlying I,Ty.eqv];rfl
   ·cases h
  |bool =>
   simp only[eqT]at h;split at h
   ·rename_i I;have H:J=[.bool x]:=H;have z:M=[.bool y]:=z;have u:J=[R]:=u;have r:M=[O]:=r;rw[H]at u;rw[z]at r;simp at u r;subst u;subst r;simp[Op.equalIn,run_underlying I,Ty.eqv]
   ·cases h
  |str =>
   simp only[eqT]at h;split at h
   ·rename_i I;have H:J=[.string x]:=H;have z:M=[.string y]:=z;have u:J=[R]:=u;have r:M=[O]:=r;rw[H]at u;rw[z]at r;simp at u r;subst u;subst r;have:=rZ x y;simp[Op.equalIn,run_underlying I,Ty.eqv,this]
   ·cases h
  |pair b c =>
   simp only[eqT]at h;split at h
   ·rename_i Y I;simp only[BW,CY]at h;have X:P.fieldsOf t=Y:=by simp[Program.fieldsOf,I]
    have u:R=.agg J.toArray:=u;have r:O=.agg M.toArray:=r;subst u;subst r;rw[run_equalIn_struct (P:=P) w d t _ _ (by rw[X];exact I) h.1,X];have:=yC (P:=P) (λb t hb=>yD n b t hb d (by omega)) Y.toList 0 (.pair b c) h.2 w G x y [] J [] M rfl rfl H z;simpa using this
   ·cases h
  |unit=>simp[eqT]at h
  |hdr=>simp[eqT]at h
  |list m E e=>simp[eqT]at h
theorem Bd {t:TypeId}{a:Ty}(h:eqT P 64 a t=true)(z:a.isAgg=true):EqAt P t a:=by
 intro _ w G x y u r I H;have:=yD 64 a t h Op.maxDepth (by decide) w G x y (.agg u.toArray) (.agg r.toArray) u r (by rw[z];rfl) I (by rw[z];rfl) H;exact this
def wW:Value->Value->Bool
 |.int k n,.int y u=>decide (k=y)&&decide (n=u)
 |.bool b,.bool z=>b==z
 |.string s,.string r=>decide (s.toList=r.toList)
 |.slice none 0 0,.slice none 0 0=>true
 |.pointer none,.pointer none=>true
 |.nilFunc,.nilFunc=>true
 |_,_=>false
def k6:List Value->List Value->Bool
 |[],[]=>true
 |v::y,u::r=>wW v u&&k6 y r
 |_,_=>false
theorem zO {v u:Value}(h:wW v u=true):v=u:=by
 unfold wW at h;split at h
 ·simp only[BW,decide_eq_true_eq]at h;rw[h.1,h.2]
 ·rw[eq_of_beq h]
 ·rename_i s y;have:s=y:=by
   have r:=rZ s y;rw[beq_toListBytes,of_decide_eq_true h]at r;simpa using r.symm
  rw[this]
 ·rfl
 ·rfl
 ·rfl
 ·cases h
theorem mK:∀ {r us:List Value},k6 r us=true->r=us
 |[],[],_=>rfl
 |v::r,u::us,h=>by
  simp only[k6,BW]at h;rw[zO h.1,mK h.2]
 |[],_::_,h=>by simp[k6]at h
 |_::_,[],h=>by simp[k6]at h
def zB (P:Program)(t:TypeId)(agg:Bool)(cs:List Value):Bool :=
 match P.info? t with
 |some i=>match i.zero with
  |some (.agg r)=>agg&&k6 r.toList cs
  |some v=>!agg&&k6 [v] cs
  |none=>false
 |none=>false
theorem yE {t:TypeId}{cs:List Value}(h:zB P t true cs=true):eh P t (.agg cs.toArray):=by
 unfold zB at h;unfold eh;split at h
 ·rename_i i u;rw[u];split at h
  ·rename_i y r;simp only[DE]at h;rw[CN,r,<- mK h,Array.toArray_toList]
  ·cases h
  ·cases h
 ·cases h
theorem lU {t:TypeId}{v:Value}(h:zB P t false [v]=true):eh P t v:=by
 unfold zB at h;unfold eh;split at h
 ·rename_i i y;rw[y];split at h
  ·cases h
  ·rename_i u _ r;simp only[DU,DE]at h;have:=mK h;simp only[C0,and_true]at this;rw[CN,r,this]
  ·cases h
 ·cases h
def kr (P:Program)(n:Nat):List Field->List (Nat×Nat×Bool)->Bool
 |[],[]=>true
 |f::r,(off,k,agg)::u=>B6 f.offset off&&szB P f.type k&&uf P f.type agg&&Cz 0 k&&C8 (off+k) n&&(agg||B6 k 1)&&kr P n r u
 |_,_=>false
def isU8:Ty->Bool
 |.int .u8=>true
 |_=>false
def u8B (P:Program)(E:TypeId):Bool :=
 match P.underlying E with
 |some (.int .u8)=>true
 |_=>false
def tiB (P:Program)(t:TypeId):TI->Bool
 |.int k=>(match P.underlying t with|some (.int k')=>decide (k'=k)|_=>false)&&szB P t 1&&zB P t false [.int k 0]
 |.bool=>(match P.underlying t with|some .bool=>true|_=>false)&&szB P t 1&&zB P t false [.bool false]
 |.str=>(match P.underlying t with|some .string=>true|_=>false)&&szB P t 1&&zB P t false [.string ByteArray.empty]
 |.slice E e r=>(match P.underlying t with|some (.slice E')=>B6 E' E|_=>false)&&szB P t 1&&zB P t false [.slice none 0 0]&&Cz 0 e.cells&&Cz 0 r &&
  szB P E e.cells&&(match P.info? E with | some i=>B6 i.bytes r&&(match i.zero with | some z=>k6 z.cells.toList (zeroCells e) | none=>false) | none=>false)&&(!isU8 e||u8B P E)
 |.arr e n=>(match P.underlying t with|some (.array m E)=>B6 m n&&szB P E e.cells&&uf P E e.isAgg|_=>false)&&Cz 0 e.cells&&szB P t (n*e.cells)&&zB P t true (List.replicate n (zeroCells e)).flatten
 |.struct a u=>(match P.underlying t with | some (.struct y)=>kr P a.cells y.toList u | _=>false)&&szB P t a.cells&&zB P t true (zeroCells a)&&a.isAgg&&(!a.flat||eqT P 64 a t)&&!P.eqGuardType P.depth t
 |.ptr=>(match P.underlying t with|some (.pointer _)=>true|_=>false)&&szB P t 1&&zB P t false [.pointer none]
 |.fn=>(match P.underlying t with|some (.func _ _ _)=>true|_=>false)&&szB P t 1&&zB P t false [.nilFunc]
 |.none=>true
theorem qs {n:Nat}:∀ {fs:List Field} {xs:List (Nat×Nat×Bool)},kr P n fs xs=true ->
  fs.mapM (λf=>(P.info? f.type).map λi=>(f.offset,i.size))=some (xs.map λx=>(x.1,x.2.1)) /\
  ∀ (i off k:Nat) (agg:Bool),xs[i]?=some (off,k,agg)->(agg=false->k=1)/\∃ f:Field,fs[i]?=some f/\f.offset=off/\0<k/\off+k<=n/\bU P f.type k /\
   (P.underlying f.type).map (λd=>match d with|.struct _|.array _ _=>true|_=>false)=some agg
 |[],[],_=>⟨rfl,λi off k agg h=>by simp at h⟩
 |[],_::_,h=>by simp[kr]at h
 |_::_,[],h=>by simp[kr]at h
 |f::fs,(off,k,agg)::xs,h=>by
  simp only[kr,BW,Ck]at h;obtain⟨⟨⟨⟨⟨⟨H,X⟩,M⟩,h4⟩,h5⟩,u⟩,Z⟩:=h;have H:=B4 H;have r:=f9 X;obtain⟨O,h9⟩:=qs Z;constructor
  ·unfold bU at r;cases J:P.info? f.type with
   |none=>rw[J]at r;cases r
   |some i =>
    rw[J]at r;simp only[CN,BU]at r;simp[C7,J,O,r,H]
  ·intro i z k' y I;cases i with
   |zero =>
    simp at I;obtain⟨rfl,rfl,rfl⟩:=I;refine⟨λY=>?_,f,rfl,H,by simpa[Cg]using h4,CQ h5,r,q9 M⟩;rcases u with u|u
    ·rw[Y]at u;cases u
    ·exact B4 u
   |succ i =>
    obtain⟨R,f',q2,q3⟩:=h9 i z k' y (by simpa using I);exact⟨R,f',by simpa using q2,q3⟩
theorem BR {t:TypeId}{i:TI}(h:tiB P t i=true):oS P t i:=by
 cases i with
 |none=>trivial
 |int k =>
  simp only[tiB,BW]at h;obtain⟨⟨r,I⟩,H⟩:=h;split at r
  ·rename_i k' u;rw[of_decide_eq_true r]at u;exact⟨u,f9 I,lU H⟩
  ·cases r
 |bool =>
  simp only[tiB,BW]at h;obtain⟨⟨r,I⟩,H⟩:=h;split at r
  ·rename_i u;exact⟨u,f9 I,lU H⟩
  ·cases r
 |str =>
  simp only[tiB,BW]at h;obtain⟨⟨r,I⟩,H⟩:=h;split at r
  ·rename_i u;exact⟨u,f9 I,lU H⟩
  ·cases r
 |ptr =>
  simp only[tiB,BW]at h;obtain⟨⟨r,I⟩,H⟩:=h;split at r
  ·rename_i e u;exact⟨⟨e,u⟩,f9 I,lU H⟩
  ·cases r
 |fn =>
  simp only[tiB,BW]at h;obtain⟨⟨r,I⟩,H⟩:=h;split at r
  ·rename_i x y z u;exact⟨⟨x,y,z,u⟩,f9 I,lU H⟩
  ·cases r
 |slice E e a1 =>
  simp only[tiB,BW]at h;obtain⟨⟨⟨⟨⟨⟨⟨r,I⟩,H⟩,Z⟩,M⟩,Y⟩,R⟩,J⟩:=h;have a0:e=.int .u8->P.underlying E=some (.int .u8):=by
   intro he;subst he;have J:u8B P E=true:=by simpa[isU8]using J
   unfold u8B at J;split at J
   ·rename_i hq;exact hq
   ·cases J
  split at r
  ·rename_i E' u;rw[B4 r]at u;split at R
   ·rename_i ti X;simp only[BW]at R;obtain⟨h8,h9⟩:=R;split at h9
    ·rename_i z hz;have O:=f9 Y;unfold bU at O;rw[X]at O;simp only[CN,BU]at O;exact⟨u,f9 I,lU H,by simpa[Cg]using Z,⟨by simpa[Cg]using M,a0⟩,ti,z,X,O,B4 h8,hz,mK h9⟩
    ·cases h9
   ·cases R
  ·cases r
 |arr e n =>
  simp only[tiB,BW]at h;obtain⟨⟨⟨r,I⟩,H⟩,Z⟩:=h;split at r
  ·rename_i m E u;simp only[BW]at r;obtain⟨⟨M,Y⟩,R⟩:=r;rw[B4 M]at u;exact⟨⟨E,u,f9 Y,q9 R⟩,by simpa[Cg]using I,f9 H,yE Z⟩
  ·cases r
 |struct a a2 =>
  simp only[tiB,BW,Ck,CY]at h;obtain⟨⟨⟨⟨⟨r,I⟩,H⟩,Z⟩,M⟩,Y⟩:=h;split at r
  ·rename_i fs u;obtain⟨R,h8⟩:=qs r;refine⟨⟨fs,u,R,λi off n agg hx=>?_⟩,f9 I,yE H,?_,Y⟩
   ·obtain⟨q1,f,q2,q3⟩:=h8 i off n agg hx;exact⟨q1,f,by simpa using q2,q3⟩
   ·intro hf;rcases M with M|M
    ·rw[hf]at M;cases M
    ·exact Bd M Z hf
  ·cases r
def tlB (P:Program):List (TypeId×TI)->Bool
 |[]=>true
 |x::l=>tiB P x.1 x.2&&tlB P l
theorem jk:∀ {l:List (TypeId×TI)},tlB P l=true->TOk P (gL l):=by
 intro l h;refine sL ?_;induction l with
 |nil=>simp
 |cons x l u =>
  simp only[tlB,BW]at h;intro y r;rcases CB.1 r with rfl|r
  ·exact BR h.1
  ·exact u h.2 y r
end
section
variable {P:Program} {T:TypeId->TI}
theorem k7 (hT:TOk P T)(R:P.follows .mixedOrders=true){f:FuncId}{fn:Func}(hf:P.funcs[f]?=some fn)(hn:(fn.name== "runtime.NumGoroutine")=false) {E:TypeId} {e:Ty} {rs:List RK} {r:Bool}
  {a0:ab [PK.rd (.list false E e)]->Option (ai rs×ah [PK.rd (.list false E e)])} {R0 A B C:Code} {rid:Nat} {o0 o1:Oper} {d0 q t t':Nat} {x0:Operand} {L:List (Nat×List (Nat×List Coe))} {K:Nat}
  (hb:fn.body=some (.seq R0 (.seq (.seq (.region rid #[o0,o1] false) (.cond (.tmp q) A B)) C))) (b1:o0.guard=none) (d3:o0.op=.move x0) (bl:o1.op=.binOp .eql t (.tmp d0) (.const (.slice none 0 0)) t') (cy:o1.guard=none) (a9:o1.dst=some q)
  {E':TypeId} (ht:P.underlying t=some (.slice E'))
  (a5:(dX fn.ntmps [] (.seq R0 (.seq (.seq (.region rid #[o0,o1] false) (.cond (.tmp q) A B)) C))&&C8 1 fn.ntmps&&C8 fn.ntmps GH&&qw rs&&du L [] (.seq R0 (.seq (.seq (.region rid #[o0,o1] false) (.cond (.tmp q) A B)) C)))=true)
  {S1:ab [PK.rd (.list false E e)]->St}
  (b9:∀ x,evK [] T L K R0 (av (de 0 [PK.rd (.list false E e)] x)) (oR (λs _=>act [] T o0 s (λU=>some (ac U s))) (λ_ _=>none))=some (S1 x))
  (M:∀ x,one (S1 x) (.tmp d0)=.ro true E e x.1)
  (hF:∀ x,evK [] T L K (.seq (.cond (.tmp q) A B) C) (ac (ck (S1 x) [] q .one [.bool false]) (S1 x)) (da T [PK.rd (.list false E e)] rs r fn.results.toList)=a0 x)
  (bx:∀ x y,x.1=[]->a0 x=some y->evK [] T L K (.seq (.cond (.tmp q) A B) C) (ac (ck (S1 x) [] q .one [.bool true]) (S1 x)) (da T [PK.rd (.list false E e)] rs r fn.results.toList)=some y) :
  bT P ⟨f,[PK.rd (.list false E e)],rs,r,a0⟩:=by
 refine⟨ea hf hn hb,λw ro x vs u y O cb c3 hy=>?_⟩;simp only[BW]at a5;obtain⟨⟨⟨⟨h1,h2⟩,h3⟩,h4⟩,h5⟩:=a5;have h2:=CQ h2;have h3:=CQ h3;have hV:ax (gq w ro [PK.rd (.list false E e)] vs u fn.ntmps):=⟨λk hk=>cb k hk,h3⟩;have bn:=vD (P:=P) (ro:=ro) O c3 h2 h3;have hnoΓ:∀ c∈([]:List Ctr),bT P c:=by simp
 have a6:∀ z∈(gq w ro [PK.rd (.list false E e)] vs u fn.ntmps).fixb,z.1∈([]:List Nat):=λz hz=>kl (ps:=[PK.rd (.list false E e)]) hz
 have Y:∀ z∈(gq w ro [PK.rd (.list false E e)] vs u fn.ntmps).fixt,z.1∈([]:List Nat):=λz hz=>kk (ps:=[PK.rd (.list false E e)]) hz
 simp only[dX,BW]at h1;simp only[du,BW]at h5;obtain⟨d1,⟨b3,c0⟩,cw⟩:=h1;obtain⟨c4,⟨_,cu⟩,cp⟩:=h5;refine calls_of_wp hf hb ?_;rw[DK];generalize cx:bodyPost P fn (tI ⟨f,[PK.rd (.list false E e)],rs,r,a0⟩ w ro vs u y)=Q;have hQ:∀ ex s1,da T [PK.rd (.list false E e)] rs r fn.results.toList ex s1=some y->∀ a I,Rel P (gq w ro [PK.rd (.list false E e)] vs u fn.ntmps) s1 a I->Q (exOf ex) a I:=by
  intro ex s1 b4 a' I J;obtain⟨cc,v,X,a8⟩:=yB (c:=⟨f,[PK.rd (.list false E e)],rs,r,a0⟩) hT h4 hV O h2 b4 J;have c1:a'.defers=[]:=by obtain⟨W,J⟩:=J;exact J.df
  subst cx;rcases cc with rfl|rfl <;> exact⟨c1,v,X,a8⟩
 have a7:∀ (b:Bool),evK [] T L K (.seq (.cond (.tmp q) A B) C) (ac (ck (S1 x) [] q .one [.bool b]) (S1 x)) (da T [PK.rd (.list false E e)] rs r fn.results.toList)=some y ->
   ∀ a I,Rel P (gq w ro [PK.rd (.list false E e)] vs u fn.ntmps) (ac (ck (S1 x) [] q .one [.bool b]) (S1 x)) a I->(Code.cond (.tmp q) A B).wp P (Exit.then (C.wp P Q) Q) a I:=by
  intro b b0 a I J;refine sy hV hT hnoΓ R a6 (nt:=fn.ntmps) (fix:=[]) rfl Y (.cond (.tmp q) A B) (by simp only[dX,BW];exact c0) (by simp only[du,BW];exact cu) _ _ y _ b0 (λex s1 H a I J=>?_) a I J;cases ex with
  |normal=>exact sy hV hT hnoΓ R a6 (nt:=fn.ntmps) (fix:=[]) rfl Y C cw cp s1 _ y Q H hQ a I J
  |exit ba=>exact hQ (.exit ba) s1 H a I J
  |ret=>exact hQ .ret s1 H a I J
 have a3:∀ (i:Nat) (o:Oper),(#[o0,o1]:Array Oper)[i]?=some o->lG fn.ntmps [] #[o0,o1] o=true:=λi o hi=>by
  simp only[CK]at b3;exact b3 o (by simpa using C4 hi)
 refine wp_seq (sy hV hT hnoΓ R a6 (nt:=fn.ntmps) (fix:=[]) rfl Y R0 d1 c4 _ _ (S1 x) _ (b9 x) (λex s0 H a I J=>?_) _ _ bn);cases ex with
 |exit ba=>cases H
 |ret=>cases H
 |normal =>
  have H:act [] T o0 s0 (λU=>some (ac U s0))=some (S1 x):=H;rw[tP]at H;obtain⟨U,hU,H⟩:=CS.1 H;simp only[BU]at H;refine wp_seq (wp_seq (wp_region ?_));have a2:DT (#[o0,o1]:Array Oper).size=[0,1]:=rfl;rw[a2,wpOps_cons];refine wT hV hT hnoΓ (ops:=#[o0,o1]) (i:=0) (o:=o0) rfl (mG rfl Y (a3 0 o0 rfl)) (λj d2 hg=>by rw[b1]at hg;cases hg) (U:=U) (by unfold mD;rw[b1];exact hU) J (λa1 w1 Z=>?_);rw[H]at Z;rw[wpOps_cons];obtain⟨W1,Z⟩:=Z;have a4:bR (gq w ro [PK.rd (.list false E e)] vs u fn.ntmps) o1:=mG rfl Y (a3 1 o1 rfl);obtain⟨h7,_,_,_,_⟩:=bz Z (.tmp d0) (by rw[M x];simp);rw[M x]at h7;obtain⟨A',b5,hv,_,c2⟩:=h7;have hv:a1.eval (.tmp d0)=.slice A' x.1.length b5:=by simpa using hv
  have bb:A'=none->x.1=[]:=λhA=>by
   cases hx:x.1 with
   |nil=>rfl
   |cons y ys =>
    obtain⟨g,o,b2,_⟩:=c2 (by rw[hx];simp);rw[hA]at b2;cases b2
  have b0:evK [] T L K (.seq (.cond (.tmp q) A B) C) (ac (ck (S1 x) [] q .one [.bool A'.isNone]) (S1 x)) (da T [PK.rd (.list false E e)] rs r fn.results.toList)=some y:=by
   cases hA:A' with
   |none=>exact bx x y (bb hA) hy
   |some ad=>exact (hF x).trans hy
  have X:(execOp a1.eval o1).run P w1=.ok (.value (.bool A'.isNone)) w1:=by
   have:=Lib.run_eql_slice_nil (P:=P) w1 t E' A' x.1.length b5 0 0 ht;have hc:a1.eval (.const (.slice none 0 0))=.slice none 0 0:=rfl;simp[execOp,bl,hv,hc,eqGuard,this]
  unfold wpOp;have hi:(#[o0,o1]:Array Oper)[1]?=some o1:=rfl;simp only[hi];have hw:Region.wanted o1 (yielded #[o0,o1] a1.tmps)=true:=by simp[Region.wanted,cy]
  rw[if_pos hw];refine .inl (d7 X ?_);rw[a9];show Exit.then _ _ _ _ _;exact a7 _ b0 _ _ (Z.putLs hV q (a4 q a9).1 (a4 q a9).2 _ .one [.bool A'.isNone] (.bool A'.isNone) [.bool A'.isNone] (Cd _) rfl ⟨⟨rfl,id,rfl⟩,trivial⟩)
end
open Go.ChangeShapes Go.WideShapes
section
variable {H:Type} {enc:TypeId×Value->H} {P:Program}
theorem mN (O:laidOutB P=true){W W':World}{J:Nat->Bool}:∀ {y:List TypeId} {z:List Value} {ds:List (DataW H)} {ps:List MemPlace},(∀ t∈y,P.readableRec t=true/\t<P.types.size) ->
  DataW.TrodAll enc P W 0 (λ_=>true) true y z ds ps->(∀ x∈ps,W.sameAt W' x)->(∀ x∈ps,J x.block=true)->DataW.TrodAll enc P W' 0 J true y z ds ps
 |[],[],[],_,_,h,_,_=>h
 |[],[],_::_,_,_,h,_,_=>h.elim
 |[],_::_,_,_,_,h,_,_=>h.elim
 |_::_,[],_,_,_,h,_,_=>h.elim
 |_::_,_::_,[],_,_,h,_,_=>h.elim
 |t::y,v::z,d::ds,ps,I,⟨p,q,R,Y,e⟩,M,u=>by
  subst e;refine⟨p,q,WideElems.Trod_stays O (I t (B3 ..)).1 (I t (B3 ..)).2 R (λx r=>M x (BX _ r)) (λx r=>u x (BX _ r)),
   mN O (λZ X=>I Z (BZ _ X)) Y (λx r=>M x (BY _ r)) (λx r=>u x (BY _ r)),rfl⟩
theorem si (hl:laidOutB P=true){f:Func}{s:ChangeSpec}{I Y y R:Bool}{W W':World}{J:Array Value}{ds gs:List (DataW H)}{r:List MemPlace}
  (hW:DataW.Whole enc P f.params.toList s.vars I W J.toList ds gs r) (u:s.vars=[]) (hb:Below W.heap.size W W') (Z:∀ t∈f.params.toList,P.readableRec t=true/\t<P.types.size)
  {tb:TypeId} (O:f.resultTypes=#[tb]) (z:P.underlying tb=some .bool) (a2:(s.fn H (ds++gs)).results=[.lit (.bool true)]) (a0:(s.fn H (ds++gs)).args=ds) (a3:(s.fn H (ds++gs)).vars=[]) :
  s.post enc P f I Y y R W J (.bool true) W':=by
 have a1:∀ p∈r,p.block<W.heap.size:=λp hp=>by simpa using hW.lt p hp
 have a4:=hW;obtain⟨p,q,hA,hV,e,hz,hn⟩:=hW;rw[u]at hV;obtain⟨rfl,rfl⟩:=trodVars_none hV;simp only[List.append_nil]at e;subst e;have X:∀ x∈r,W.sameAt W' x:=λx hx=>hb.same (a1 x hx)
 have a5:(Value.bool true).resultList f.resultTypes.size=[.bool true]:=by rw[O];rfl
 have hr:∀ (b:Nat) (M:Nat->Bool) (hd:Bool),DataW.TrodAll enc P W' b M hd f.resultTypes.toList ((Value.bool true).resultList f.resultTypes.size) (s.fn H (ds++[])).results []:=by
  intro b M hd;rw[a5,a2,O];exact trodAll_mk1 (shut_bool z true)
 have ha:∀ (M:Nat->Bool),(∀ x∈r,M x.block=true)->DataW.TrodAll enc P W' 0 M true f.params.toList J.toList (s.fn H (ds++[])).args r:=by
  intro M a7;rw[a0];exact mN hl Z hA X a7
 have hv:∀ (M:Nat->Bool),DataW.TrodVars enc P W' M s.vars (s.fn H (ds++[])).vars []:=by
  intro M;rw[u,a3];rfl
 refine⟨ds,[],r,[],r,[],a4,hr _ _ _,ha _ (λx hx=>by simpa using a1 x hx),hv _,hb.frame _,λ_=>⟨ok_one O rfl (okWide_bool_mk z true),_,_,([]++r)++[],⟨[]++r,[],trodAll_append (ha _ (λ_ _=>rfl)) (hr _ _ _),hv _,rfl,?_,?_⟩,?_⟩⟩
 ·intro b off hp;have hp:MemPlace.cell b off∈r:=by simpa using hp
  rw[hb.frozen (p:=⟨b,off,none⟩) (a1 _ hp)];exact hz b off hp
 ·intro a6;have:=hn a6;simpa using this
 ·intro x hx _;simpa using hx
end
section
variable {H:Type} {enc:TypeId×Value->H} {P:Program} {w:World} {base:Nat} {spare:Nat->Bool} {held:Bool}
def shF (P:Program)(g:Ty->TypeId->Bool):List Field->Nat->Ty->Bool
 |[],_,_=>false
 |[f],off,b=>B6 f.offset off&&B6 (P.cellsOf f.type) b.cells&&g b f.type
 |f::r,off,.pair b c=>B6 f.offset off&&B6 (P.cellsOf f.type) b.cells&&g b f.type&&shF P g r (off+b.cells) c
 |_,_,_=>false
def shT (P:Program):Nat->Ty->TypeId->Bool
 |0,_,_=>false
 |n+1,a,t=>match a with
  |.int k=>(match P.underlying t with|some (.int k')=>decide (k'=k)|_=>false)
  |.bool=>(match P.underlying t with|some .bool=>true|_=>false)
  |.str=>(match P.underlying t with|some .string=>true|_=>false)
  |.pair b c=>(match P.underlying t with|some (.struct fs)=>shF P (shT P n) fs.toList 0 (.pair b c)&&B6 (P.cellsOf t) (b.cells+c.cells)|_=>false)
  |.list _ E e=>(match P.underlying t with|some (.slice E')=>B6 E' E&&B6 (P.cellsOf E) e.cells&&Cz 0 e.cells&&shT P n e E|_=>false)
  |.unit=>false
  |.hdr=>false
def Sm:(a:Ty)->a.den->Prop
 |.int k,n=>(Lit.int k n).wf=true
 |.pair a b,x=>Sm a x.1/\Sm b x.2
 |.list _ _ e,r=>r.length<=maxLen/\∀ x∈(r:List e.den),Sm e x
 |.bool,_=>True
 |.str,s=>s.size<=maxLen
 |.unit,_=>True
 |.hdr,_=>True
theorem k8 {α β:Type}{f:α->Option β}:∀ (l:List α) (r:List β),l.mapM f=some r->r.length=l.length/\∀ (i:Nat) (x:α),l[i]?=some x->∃ y,f x=some y/\r[i]?=some y
 |[],r,h=>by
  simp at h;subst h;exact⟨rfl,λi x X=>by simp at X⟩
 |x::l,r,h=>by
  rw[C7]at h;cases z:f x with
  |none=>rw[z]at h;cases h
  |some y =>
   rw[z]at h;cases J:l.mapM f with
   |none=>rw[J]at h;cases h
   |some R =>
    rw[J]at h;cases h;obtain⟨M,O⟩:=k8 l R J;refine⟨by simp[M],λi u I=>?_⟩;cases i with
    |zero=>simp at I;subst I;exact⟨y,z,rfl⟩
    |succ i=>simpa using O i u (by simpa using I)
theorem r8 {a:Addr}{n:Nat}{cs:List Value}(h:w.cells? base a n=some cs):base<=a.block/\cs.length=n/\∀ i u,cs[i]?=some u->w.cell? (a.add i)=some u:=by
 unfold World.cells? at h;split at h
 ·rename_i O;obtain⟨r,J⟩:=k8 _ _ h;refine⟨O,by simpa using r,λi u I=>?_⟩;have R:i<n:=by have:=(B7.1 I).1;rw[r]at this;simpa using this
  obtain⟨y,M,z⟩:=J i i (by simp[R]);rw[I]at z;cases z;exact M
 ·cases h
theorem oM {g:Ty->TypeId->Bool}{rd:TypeId->List Value->Option (DataW H×List MemPlace)}
  (Z:∀ b t,g b t=true->∀ cs d,rd t cs=some d->∃ x:b.den,Rd w (λk=>k<w.heap.size) b x cs/\Sm b x) :
  ∀ (fs:List Field) (off:Nat) (b:Ty),shF P g fs off b=true->∀ (cs:List Value),cs.length=off+b.cells ->
   (∀ f∈fs,∃ d,rd f.type ((cs.drop f.offset).take (P.cellsOf f.type))=some d)->∃ x:b.den,Rd w (λk=>k<w.heap.size) b x (cs.drop off)/\Sm b x
 |[],_,_,h=>by simp[shF]at h
 |[f],off,b,h=>by
  intro cs z M;simp only[shF,BW]at h;obtain⟨⟨r,u⟩,R⟩:=h;have r:=B4 r;have u:=B4 u;obtain⟨d,J⟩:=M f (B3 ..);rw[r,u,List.take_of_length_le (by simp;omega)]at J;exact Z b f.type R _ d J
 |f::I::fs,off,.pair b c,h=>by
  intro cs z M;simp only[shF,BW]at h;obtain⟨⟨⟨r,u⟩,R⟩,h4⟩:=h;have r:=B4 r;have u:=B4 u;have z:cs.length=off+(b.cells+c.cells):=z;obtain⟨d,J⟩:=M f (B3 ..);rw[r,u]at J;obtain⟨x,hx,X⟩:=Z b f.type R _ d J;obtain⟨y,hy,Y⟩:=oM Z (I::fs) (off+b.cells) c h4 cs (by omega) (λf0 O=>M f0 (BZ _ O));refine⟨(x,y),⟨_,_,?_,hx,hy⟩,X,Y⟩;rw[<- C5,List.take_append_drop]
 |f::I::fs,off,.int _,h=>by simp[shF]at h
 |f::I::fs,off,.bool,h=>by simp[shF]at h
 |f::I::fs,off,.str,h=>by simp[shF]at h
 |f::I::fs,off,.unit,h=>by simp[shF]at h
 |f::I::fs,off,.list _ _ _,h=>by simp[shF]at h
 |f::I::fs,off,.hdr,h=>by simp[shF]at h
theorem oN {β:Type}(Q:Nat->β->Prop):∀ (n:Nat),(∀ i,i<n->∃ x,Q i x)->∃ u:List β,u.length=n/\∀ i x,u[i]?=some x->Q i x
 |0,_=>⟨[],rfl,λi x h=>by simp at h⟩
 |n+1,h=>by
  obtain⟨u,I,J⟩:=oN Q n (λi O=>h i (by omega));obtain⟨x,M⟩:=h n (by omega);refine⟨u++[x],by simp[I],λi y r=>?_⟩;by_cases O:i<n
  ·rw[CO (by omega)]at r;exact J i y r
  ·have z:i<(u++[x]).length:=(B7.1 r).1;have:i=n:=by simp at z;omega
   subst this;rw[CM (by omega),I,Nat.sub_self]at r;simp at r;subst r;exact M
theorem ra:∀ (n:Nat) (a:Ty) (t:TypeId),shT P n a t=true->∀ (I:Nat) (cs:List Value) (d:DataW H×List MemPlace),DataW.trod enc P w base spare held I t cs=some d ->
    ∃ x:a.den,Rd w (λk=>k<w.heap.size) a x cs/\Sm a x
  |0,_,_,h=>by simp[shT]at h
  |n+1,a,t,h=>by
    intro I cs d r;cases I with
    |zero=>simp[DataW.trod]at r
    |succ I =>
      cases a with
      |int k =>
        simp only[shT]at h;split at h
        · rename_i k' O
          have hk:=of_decide_eq_true h;subst hk;simp only[DataW.trod,O]at r;split at r <;> first|(rename_i M;cases M;done)|skip
          all_goals first
            | (rename_i k1 k2 m J
               cases J;split at r
               · rename_i hw
                 obtain⟨rfl,hw⟩:=hw;exact⟨m,rfl,hw⟩
               · cases r)
            |cases r
        · cases h
      |bool =>
        simp only[shT]at h;split at h
        · rename_i O
          simp only[DataW.trod,O]at r;split at r <;> first|(rename_i M;cases M;done)|skip
          all_goals first
            |(rename_i b J;exact⟨b,rfl,trivial⟩)
            |cases r
        · cases h
      |str =>
        simp only[shT]at h;split at h
        · rename_i O
          simp only[DataW.trod,O]at r;split at r <;> first|(rename_i M;cases M;done)|skip
          all_goals first
            | (rename_i b J
               split at r
               · rename_i hb
                 exact⟨b,rfl,hb⟩
               · cases r)
            |cases r
        · cases h
      |unit=>simp[shT]at h
      |hdr=>simp[shT]at h
      |pair b c =>
        simp only[shT]at h;split at h
        · rename_i fs O
          simp only[BW]at h;obtain⟨h1,Z⟩:=h;have Z:=B4 Z;simp only[DataW.trod,O]at r;split at r
          · rename_i a4
            simp only[B5]at r;obtain⟨ys,a9,_⟩:=r;obtain⟨h3,h4⟩:=k8 _ _ a9;have:=oM (w:=w) (rd:=DataW.trod enc P w base spare held I) (λb t hb cs d r=>ra n b t hb I cs d r) fs.toList 0 (.pair b c) h1 cs (by rw[a4,Z,Ce];rfl) (λf hf=>by
              obtain⟨i,hi,e⟩:=DD hf;obtain⟨y,h5,_⟩:=h4 i f (by rw[CE hi,e]);exact⟨y,h5⟩)
            simpa using this
          · cases r
        · cases h
      |list m E e =>
        simp only[shT]at h;split at h
        · rename_i E' O
          simp only[BW]at h;obtain⟨⟨⟨h1,Z⟩,h3⟩,h4⟩:=h;have h1:=B4 h1;subst h1;have Z:=B4 Z;have h3:0<e.cells:=by simpa[Cg]using h3
          simp only[DataW.trod,O]at r;split at r <;> first|(rename_i M;cases M;done)|skip
          all_goals first
            |cases r;done
            |skip
          · exact⟨[],Rd.nil w _ m _ e,DP _,by simp⟩
          · rename_i E2 R a5 b1 J
            cases J;split at r
            · rename_i hc
              obtain⟨b3,b9,b5⟩:=hc;obtain⟨bb,a6,_⟩:=CS.1 r;obtain⟨h5,h6⟩:=k8 _ _ a6;have a8:∀ i,i<a5->∃ x:e.den,∃ c,w.cells? base (R.add (i*e.cells)) e.cells=some c/\Rd w (λk=>k<w.heap.size) e x c/\Sm e x:=by
                intro i hi;obtain⟨y,h7,_⟩:=h6 i i (by simp[hi]);obtain⟨c,h8,h9⟩:=CS.1 h7;rw[Z]at h8;obtain⟨x,hx,b0⟩:=ra n e _ h4 I c y h9;exact⟨x,c,h8,hx,b0⟩
              obtain⟨xs,b2,Y⟩:=oN (λi (x:e.den)=>∃ c,w.cells? base (R.add (i*e.cells)) e.cells=some c/\Rd w (λk=>k<w.heap.size) e x c/\Sm e x) a5 a8;refine⟨xs,⟨some R,b1,by rw[b2],by omega,λhp=>?_⟩,by omega,λx hx=>?_⟩
              · have b4:0<xs.length:=hp
                obtain⟨c,a1,a2,_⟩:=Y 0 xs[0] (CE b4);obtain⟨_,ba,X⟩:=r8 a1;have h0:0<c.length:=by omega
                have z:=X 0 c[0] (CE h0);have e0:(R.add (0*e.cells)).add 0=R:=by simp[Addr.add]
                rw[e0]at z;have a0:R.spot=none/\R.block<w.heap.size:=by
                  unfold World.cell? at z;split at z
                  · rename_i hh
                    split at z
                    · cases z
                    · rename_i hs
                      refine⟨by simpa using hs,(Cp.1 hh).1⟩
                  · cases z
                obtain⟨g,o,sp⟩:=R;obtain⟨a7,a3⟩:=a0;simp only at a7 a3;subst a7;refine⟨g,o,rfl,a3,λj x hj=>?_⟩;obtain⟨c,a1,a2,_⟩:=Y j x hj;obtain⟨_,_,X⟩:=r8 a1;refine⟨c,a2,λi u hi=>?_⟩;have:=X i u hi
                rwa [fm,fm]at this
              · obtain⟨j,hj,e1⟩:=DD hx
                obtain⟨c,_,_,hs⟩:=Y j x (by rw[CE hj,e1]);exact hs
            · cases r
        · cases h
end
section
variable {H:Type} {enc:TypeId×Value->H} {P:Program} {w:World}
theorem zP {n:Nat}{a:Ty}{t:TypeId}(r:shT P (n+1) a t=true){v:Value}{d:DataW H}{p:List MemPlace}(J:DataW.Trod enc P w 0 (λ_=>true) true t v d p){base:Nat}(u:DW P w .any base t v) :
  ∃ x:a.den,(∃ z,dj a.isAgg v z/\Rd w (λk=>k<w.heap.size) a x z)/\Sm a x:=by
 obtain⟨I,J⟩:=J;obtain⟨x,O,M⟩:=ra (n+1) a t r I _ _ J;refine⟨x,⟨v.cells.toList,?_,O⟩,M⟩;cases a with
 |int k =>
  simp only[shT]at r;split at r
  ·rename_i k' y;obtain⟨n,rfl⟩:=okWide_int y u;rfl
  ·cases r
 |bool =>
  simp only[shT]at r;split at r
  ·rename_i y;obtain⟨n,rfl⟩:=okWide_bool y u;rfl
  ·cases r
 |str =>
  simp only[shT]at r;split at r
  ·rename_i y;obtain⟨n,rfl⟩:=okWide_string y u;rfl
  ·cases r
 |list m E e =>
  simp only[shT]at r;split at r
  ·rename_i Y y;obtain⟨A,X,R,rfl⟩:=okWide_slice y u;rfl
  ·cases r
 |unit=>simp[shT]at r
 |hdr=>simp[shT]at r
 |pair b c =>
  simp only[shT]at r;split at r
  ·rename_i Z y;obtain⟨z,rfl,_⟩:=okWide_struct y u;show Value.agg z=.agg (Value.agg z).cells.toList.toArray;simp[Value.cells]
  ·cases r
def Sms:(as:List Ty)->ab (as.map .rd)->Prop
 |[],_=>True
 |a::as,x=>Sm a x.1/\Sms as x.2
def ug (P:Program):List Ty->List TypeId->Bool
 |[],[]=>true
 |a::as,t::r=>shT P 64 a t&&ug P as r
 |_,_=>false
theorem r9 {pr:Nat->Prop}:∀ (as:List Ty) (z:List TypeId) (u:List Value) (ds:List (DataW H)) (ps:List MemPlace),ug P as z=true->DataW.TrodAll enc P w 0 (λ_=>true) true z u ds ps ->
  (∃ r,∀ (j:Nat) (t:TypeId) (v:Value),z[j]?=some t->u[j]?=some v->DW P w .any r t v)->∃ x:ab (as.map .rd),dh P w (λk=>k<w.heap.size) pr (as.map .rd) x u (as.map λ_=>[])/\Sms as x
 |[],[],[],[],_,_,_,_=>⟨(),⟨rfl,rfl⟩,trivial⟩
 |[],[],[],_::_,_,_,h,_=>h.elim
 |[],[],_::_,_,_,_,h,_=>h.elim
 |[],_::_,_,_,_,h,_,_=>by simp[ug]at h
 |_::_,[],_,_,_,h,_,_=>by simp[ug]at h
 |_::_,_::_,[],_,_,_,h,_=>h.elim
 |_::_,_::_,_::_,[],_,_,h,_=>h.elim
 |a::as,t::z,v::u,d::ds,ps,M,⟨p,q,R,h2,_⟩,⟨r,I⟩=>by
  simp only[ug,BW]at M;obtain⟨x,hx,O⟩:=zP (n:=63) M.1 R (I 0 t v rfl rfl);obtain⟨y,X,J⟩:=r9 as z u ds q M.2 h2 ⟨r,λj t' Z Y h4=>I (j+1) t' Z (by simpa using Y) (by simpa using h4)⟩;exact⟨(x,y),⟨v,u,[],_,rfl,rfl,⟨rfl,hx⟩,X⟩,O,J⟩
theorem zQ (tys:List Ty):(tys.map λ_=>([]:List Nat)).flatten=[]:=by
 induction tys with
 |nil=>rfl
 |cons a tys r=>simp
theorem yF {f:FuncId}{tys:List Ty}{y:Bool}{I:ab (tys.map PK.rd)->Option (ai [.v .bool]×ah (tys.map PK.rd))}(hs:bT P ⟨f,tys.map .rd,[.v .bool],y,I⟩){x:ab (tys.map .rd)}{Y:List Value}{o:ah (tys.map .rd)}
  (hx:dh P w (λk=>k<w.heap.size) (λk=>k<w.heap.size) (tys.map .rd) x Y (tys.map λ_=>[])) (hd:I x=some ((true,()),o)):Calls P f Y.toArray w (λe w'=>e=.returned (.bool true)/\Below w.heap.size w w'):=by
 have R:=zQ tys;have:=hs.2 w (λk=>k<w.heap.size) x Y _ _ (hx.mono (λ_ h=>h) (λk O=>⟨O,by rw[R];simp⟩)) (λk O=>⟨O,by rw[R];simp⟩) (by rw[R];exact Cr) hd;refine this.mono λe w' hp=>?_
 obtain⟨v,us,N,a6,a5,rfl,r,Z,a2,a0,a1,X,_,_,J,_,_⟩:=hp;refine⟨?_,⟨a2,a0,a1,Z,λk O=>X k O (by rw[R];simp)⟩⟩;obtain⟨u,a4,b,a3,e1,e2,⟨cs,z,M⟩,e3,e4⟩:=J;subst e3;subst e1;have r:v=u:=r;subst r;have z:cs=[v]:=z;have M:cs=[.bool true]:=M.1;rw[z]at M;simp only[C0,and_true]at M;rw[M]
end
end Go.Proofs.YtaegajachoklkaaGreatEv
