/- One operation looks at some slots alone. -/
import Derived.Test.YtaegajachoklkaaGreatE3
import Derived.Laws.StructEq
import Derived.Lib.SliceRun
import Derived.ProofKit
set_option linter.unusedVariables false
set_option linter.unusedSimpArgs false
open Array renaming getElem?_eq_getElem->BW,getD_eq_getD_getElem?->BX,replicate->CM,all_eq_true_iff_forall_mem->CX,getElem?_eq_some_iff->Cg,getElem?_append_left->Ch,getElem?_replicate->Cn,mem_of_getElem?->Cs,length_toList->Cy,mem_append->DC
open Bool renaming and_eq_true->BM,not_eq_true'->CO,or_eq_true->Cb,false_eq_true->Ce,and_false->Cf,and_true->Cm,true_and->C4,not_false->DK
open Classical renaming byContradiction->CF
open Go.ByteArray renaming toList_eq->C0
open Go.Result renaming andThen_ok->CS
open Go.Sem renaming run_bind->CY,run_pure->C9
open Go.Value renaming okWide->DM
open List renaming mem_append->BL,mem_append_left->BN,mem_append_right->BO,mem_cons_of_mem->BP,mem_cons_self->BQ,getElem?_eq_some_iff->BU,mem_map->BV,mem_cons->BY,getD_eq_getElem?_getD->BZ,flatten_cons->B3,getElem?_eq_getElem->B4,mem_flatMap->B6,count_append->B7,mem_singleton_self->B8,count_pos_iff->B9,all_eq_true->CA,map_cons->CB,getElem?_append_right->CC,getElem?_append_left->CE,append_assoc->CH,nil_append->CJ,mem_singleton->CK,nodup_cons->CL,length_cons->CQ,nodup_append->CR,mem_filter->CV,any_eq_true->Ca,map_append->Cc,count_cons->Cd,nodup_nil->Ci,count_eq_zero->Cj,any_eq_false->Ck,all_cons->Cl,getElem?_cons_succ->Co,getElem?_eq_none->Cr,drop_drop->Ct,mapM_cons->Cv,map_congr_left->Cx,countP_eq_zero->Cz,getElem_of_mem->C3,set_cons_succ->C5,find?_eq_none->C7,getElem?_map->C8,size_toArray->DA,mem_toArray->DB,countP_cons->DD,foldl_cons->DH,range->DJ,map_nil->DL
open List.cons renaming injEq->Cq
open Nat renaming eq_of_beq_eq_true->BR,beq->BT,le_of_ble_eq_true->CG,lt_succ_self->CT,zero_add->CU,blt_eq->CW,blt->Cp,le_refl->Cu,ble->Cw,lt_of_lt_of_le->C6,zero_le->DF,strongRecOn->DI
open Option renaming map_eq_some_iff->BS,map_some->CD,bind_eq_some_iff->CI,bind_assoc->CN,bind_some->CP,bind_none->CZ,getD_some->DE
open Option.some renaming injEq->BK,inj->DG
open Prod.mk renaming injEq->B5
namespace Go.Proofs.YtaegajachoklkaaGreatEv
open Go Go.RowKit
section
variable {P:Program} {V:Env} {Γ:List Ctr} {T:TypeId->TI} {st st':St} {o:Oper} {R:Type} {κ:Upd->Option R} {r:R}
theorem gC {α β:Type}(b:Bool)(x y:Option α)(f:α->Option β):(bif b then x else y).bind f=bif b then x.bind f else y.bind f:=by cases b <;> rfl
theorem wD {b:Option (Bool×Nat×Nat)}{U:Upd}:j9 st b U κ=(j9 st b U some).bind κ:=by
 unfold j9;split
 ·split
  ·simp only[CN];congr 1;funext y;split <;> rfl
  ·rfl
 ·rfl
theorem wE {d:Nat}{f:FuncId}{xs:List (aI×List Leaf)}:jy Γ st d f xs κ=(jy Γ st d f xs some).bind κ:=by
 unfold jy;cases lW Γ f with
 |none=>rfl
 |some c =>
  simp only[gB,CN];congr 1;funext u;cases oK Γ (ac u.1 st) c.ps u.2.1 with
  |none=>rfl
  |some g =>
   simp only[gC,CN,CZ];congr 2;funext y;exact wD
theorem mL {z:St}{H:Upd}{d:Nat}{E:TypeId}{e:Ty}{u:Nat}{p:Bool}{xs:List e.den}{ks:List (Nat×Nat)}{y:Leaf}:dU st z H d E e u p xs ks y κ=(dU st z H d E e u p xs ks y some).bind κ:=by
 unfold dU;split
 ·simp only[gC,CZ,CP]
 ·rfl
theorem tI {z:Upd}{d:Nat}{E:TypeId}{e:Ty}{u:Nat}{x y:Leaf}:eu st z d E e u x y κ=(eu st z d E e u x y some).bind κ:=by
 unfold eu;split
 ·split
  ·rw[gC,<- mL];rfl
  ·rfl
 ·exact mL
 ·rfl
theorem tJ {d:Nat}{E:TypeId}{e:Ty}{u:Nat}{x y:Leaf}:iz st d E e u x y κ=(iz st d E e u x y some).bind κ:=by
 unfold iz;simp only[hZ,gC,CN,<- tI]
theorem nz {r j i off n:Nat}{p:Bool}{E:TypeId}{e:Ty}{xs:List e.den}{h:Option (Nat×Nat)}{ls:List Leaf}:gH st r j i off n p E e xs h ls κ=(gH st r j i off n p E e xs h ls some).bind κ:=by
 unfold gH;simp only[CN];congr 1;funext u;split
 ·rw[gC];congr 1;split
  ·rfl
  ·simp only[gC,CP,CZ]
 ·rfl
theorem tK:act Γ T o st κ=(act Γ T o st some).bind κ:=by
 cases u:o.op <;> simp only[act,wrU,u] <;> (repeat' split) <;>
  (try simp only[gC,CN,CZ,CP]) <;> (try rfl) <;> (try exact wE) <;> (try (rw[tJ];done)) <;> (try (rw[nz];done)) <;> (try (rw[<- nz];done))
theorem bo {q:Nat}(h:st' q=st q):∀ (U:Upd),ac U st' q=ac U st q
 |[]=>h
 |(r,c)::U=>by simp only[ac,bo h U]
theorem dS {x:Operand}(h:∀ t,x=.tmp t->st' t=st t):au st' x=au st x:=by
 cases x with
 |tmp t=>simp only[au,h t rfl]
 |_=>rfl
theorem dC {x:Operand}(h:∀ t,x=.tmp t->st' t=st t):one st' x=one st x:=by
 unfold one;rw[dS h]
theorem lr:∀ (u y:List Leaf),aw (u++y)=aw u++aw y
 |[],_=>rfl
 |l::u,y=>by cases l <;> simp[aw,lr u y]
theorem aL (l:Leaf)(ls:List Leaf):aw (l::ls)=aw [l]++aw ls:=lr [l] ls
theorem fH:∀ (n:Nat) (ls:List Leaf) (q:Nat),q∈aw (ls.drop n)->q∈aw ls
 |0,_,_,h=>h
 |n+1,[],_,h=>h
 |n+1,l::ls,q,h=>by rw[aL];exact BO _ (fH n ls q h)
theorem rG:∀ (n:Nat) (ls:List Leaf) (q:Nat),q∈aw (ls.take n)->q∈aw ls
 |0,_,_,h=>by simp[aw]at h
 |n+1,[],_,h=>by simp[aw]at h
 |n+1,l::ls,q,h=>by
  rw[List.take_succ_cons,aL,BL]at h;rw[aL,BL];exact h.imp id (rG n ls q)
theorem qN:∀ {ls:List Leaf} {k:Nat} {l:Leaf},ls[k]?=some l->∀ q∈aw [l],q∈aw ls
 |[],_,_,h,_,_=>by simp at h
 |y::ls,0,l,h,q,u=>by simp at h;subst h;rw[aL];exact BN _ u
 |y::ls,k+1,l,h,q,u=>by rw[aL];exact BO _ (qN (by simpa using h) q u)
theorem jQ {ks:List (Nat×Nat×Nat)}{ep:Nat}(h:∀ q∈EPO::ks.map (·.1),st' q=st q):br st' ks ep=br st ks ep:=by
 unfold br;rw[h EPO (BQ ..)];congr 1;induction ks with
 |nil=>rfl
 |cons k ks y =>
  rw[Cl,Cl,y (λq u=>h q (by simp at u ⊢;rcases u with u|u;exact .inl u;exact .inr (.inr u))),h k.1 (by simp)]
theorem iu {p:Bool}{ks:List (Nat×Nat×Nat)}{ep:Nat}{u:Option (Nat×Nat×Nat)}{E:TypeId}{e:Ty}{xs:List e.den}:aw [.nal p ks ep u E e xs]=EPO::ks.map (·.1):=by simp[aw]
theorem vo {p:Bool}{ks:List (Nat×Nat×Nat)}{ep:Nat}{a:Ty}{x:a.den}{off:Nat}:aw [.np p ks ep a x off]=EPO::ks.map (·.1):=by simp[aw]
theorem ci {l:Leaf}(h:∀ q∈aw [l],st' q=st q):aE st' l=aE st l:=by
 cases l with
 |al r j v=>simp only[aE,h r (by simp[aw])]
 |nal p z ep u E e y=>rw[iu]at h;simp only[aE,jQ h]
 |_=>rfl
theorem j0:∀ (a:Ty) (ls:List Leaf) (p:Bool) (x:a.den) (u:List Leaf),bc st a ls=some (p,x,u)->∃ I,ls=I++u
 |.int k,ls,p,x,u,h=>by
  simp only[bc]at h;split at h
  ·split at h
   ·simp at h;exact⟨[_],by rw[<- h.2.2];rfl⟩
   ·cases h
  ·cases h
 |.bool,ls,p,x,u,h=>by
  simp only[bc]at h;split at h
  ·simp at h;exact⟨[_],by rw[<- h.2.2];rfl⟩
  ·cases h
 |.str,ls,p,x,u,h=>by
  simp only[bc]at h;split at h
  ·simp at h;exact⟨[_],by rw[<- h.2.2];rfl⟩
  ·cases h
 |.unit,ls,p,x,u,h=>by
  simp only[bc,BK,B5]at h;exact⟨[],by rw[h.2.2];rfl⟩
 |.hdr,ls,p,x,u,h=>by
  simp only[bc]at h;split at h
  ·split at h
   ·simp at h;exact⟨[_],by rw[<- h.2.2];rfl⟩
   ·cases h
  ·cases h
 |.pair a b,ls,p,x,u,h=>by
  simp only[bc]at h;split at h
  ·rename_i q y H Y;split at h
   ·rename_i O z J Z;simp at h;obtain⟨I,e1⟩:=j0 a ls q y H Y;obtain⟨M,X⟩:=j0 b H O z J Z;exact⟨I++M,by rw[e1,X,h.2.2,CH]⟩
   ·cases h
  ·cases h
 |.list m E e,ls,p,x,u,h=>by
  simp only[bc]at h;split at h
  ·split at h
   ·simp at h;exact⟨[_],by rw[<- h.2.2];rfl⟩
   ·cases h
  ·cases h
theorem gD:∀ (a:Ty) (ls:List Leaf),(∀ q∈aw ls,st' q=st q)->bc st' a ls=bc st a ls
 |.int k,ls,h=>rfl
 |.bool,ls,h=>rfl
 |.str,ls,h=>rfl
 |.unit,ls,h=>rfl
 |.hdr,ls,h=>by
  cases ls with
  |nil=>rfl
  |cons l ls =>
   simp only[bc];rw[ci (l:=l) (λq u=>h q (by rw[aL];exact BN _ u))]
 |.pair a b,ls,h=>by
  simp only[bc,gD a ls h];cases H:bc st a ls with
  |none=>rfl
  |some x =>
   obtain⟨p,y,z⟩:=x;obtain⟨J,I⟩:=j0 a ls p y z H;simp only;rw[gD b z (λq u=>h q (by rw[I,lr];exact BO _ u))]
 |.list m E e,ls,h=>by
  cases ls with
  |nil=>rfl
  |cons l ls =>
   simp only[bc];rw[ci (l:=l) (λq u=>h q (by rw[aL];exact BN _ u))]
theorem eN {a:Ty}{ls:List Leaf}(h:∀ q∈aw ls,st' q=st q):cO st' a ls=cO st a ls:=by
 unfold cO;rw[gD a ls h]
theorem nA {e:Ty}:∀ (n:Nat) (ls:List Leaf),(∀ q∈aw ls,st' q=st q)->fG st' e n ls=fG st e n ls
 |0,_,_=>rfl
 |n+1,ls,h=>by
  simp only[fG,eN (ls:=ls.take e.cells) (λq u=>h q (rG _ _ q u)),nA n (ls.drop e.cells) (λq u=>h q (fH _ _ q u))]
theorem jr:∀ {ls:List Leaf},(∀ q∈aw ls,st' q=st q)->bz st' ls=bz st ls
 |[],_=>rfl
 |l::ls,h=>by
  have y:=jr (ls:=ls) (λq u=>h q (by rw[aL];exact BO _ u));cases l with
  |al r j v=>simp only[bz,y,ci (l:=.al r j v) (λq u=>h q (by rw[aL];exact BN _ u))]
  |nal p I ep z E e H=>simp only[bz,y,ci (l:=.nal p I ep z E e H) (λq u=>h q (by rw[aL];exact BN _ u))]
  |_=>simpa[bz]using y
theorem pa:∀ {ls:List Leaf},(∀ q∈aw ls,st' q=st q)->bZ st' ls=bZ st ls
 |[],_=>rfl
 |l::ls,h=>by
  have y:=pa (ls:=ls) (λq u=>h q (by rw[aL];exact BO _ u));cases l with
  |al r j v=>simp only[bZ,y,ci (l:=.al r j v) (λq u=>h q (by rw[aL];exact BN _ u))]
  |_=>simpa[bZ]using y
theorem qO:∀ {ls:List Leaf},(∀ q∈aw ls,st' q=st q)->du st' ls=du st ls
 |[],_=>rfl
 |l::ls,h=>by
  have u:=qO (ls:=ls) (λq y=>h q (by rw[aL];exact BO _ y));cases l with
  |nal p I ep z E e H =>
   cases z with
   |none=>simp only[du,u,ci (l:=.nal p I ep none E e H) (λq y=>h q (by rw[aL];exact BN _ y))]
   |some x=>simpa[du]using u
  |_=>simpa[du]using u
theorem pb {ls:List Leaf}(h:∀ q∈aw ls,st' q=st q):dG st' ls=dG st ls:=by
 unfold dG;induction ls with
 |nil=>rfl
 |cons l ls y =>
  rw[CB,CB,y (λq u=>h q (by rw[aL];exact BO _ u))];unfold gj;rw[ci (λq u=>h q (by rw[aL];exact BN _ u))]
theorem eE:∀ {ls:List Leaf} {x:Nat×Nat},x∈bz st ls->x.1∈aw ls
 |[],_,h=>by simp[bz]at h
 |l::ls,x,h=>by
  cases l with
  |al r j v =>
   simp only[bz,BL]at h;rcases h with h|h
   ·split at h
    ·simp at h;subst h;simp[aw]
    ·simp at h
   ·rw[aL];exact BO _ (eE h)
  |nal p H ep y E e z =>
   simp only[bz,BL]at h;rcases h with h|h
   ·split at h
    ·obtain⟨k,u,rfl⟩:=BV.1 h;rw[aL,iu];exact BN _ (BP _ (BV.2 ⟨k,u,rfl⟩))
    ·simp at h
   ·rw[aL];exact BO _ (eE h)
  |_=>(simp only[bz]at h;rw[aL];exact BO _ (eE h))
theorem js:∀ {ls:List Leaf} {x:Nat×Nat},x∈bZ st ls->x.1∈aw ls
 |[],_,h=>by simp[bZ]at h
 |l::ls,x,h=>by
  cases l with
  |al r j v =>
   simp only[bZ,BL]at h;rcases h with h|h
   ·split at h
    ·simp at h;subst h;simp[aw]
    ·simp at h
   ·rw[aL];exact BO _ (js h)
  |_=>(simp only[bZ]at h;rw[aL];exact BO _ (js h))
theorem ic:∀ {ls:List Leaf} {x:Nat×Nat},x∈du st ls->x.1∈aw ls
 |[],_,h=>by simp[du]at h
 |l::ls,x,h=>by
  cases l with
  |nal p I ep u E e H =>
   cases u with
   |none =>
    simp only[du,BL]at h;rcases h with h|h
    ·split at h
     ·obtain⟨k,z,rfl⟩:=BV.1 h;rw[aL,iu];exact BN _ (BP _ (BV.2 ⟨k,z,rfl⟩))
     ·simp at h
    ·rw[aL];exact BO _ (ic h)
   |some y=>(simp only[du]at h;rw[aL];exact BO _ (ic h))
  |_=>(simp only[du]at h;rw[aL];exact BO _ (ic h))
theorem iv:∀ {ks:List (Nat×Nat)},(∀ x∈ks,st' x.1=st x.1)->aN st' ks=aN st ks
 |[],_=>rfl
 |(r,j)::ks,h=>by
  simp only[aN,iv (ks:=ks) (λx u=>h x (BP _ u)),bo (h (r,j) (BQ ..))]
theorem kp:∀ {ks:List (Nat×Nat)},(∀ x∈ks,st' x.1=st x.1)->aF st' ks=aF st ks
 |[],_=>rfl
 |(r,j)::ks,h=>by
  simp only[aF,kp (ks:=ks) (λx u=>h x (BP _ u)),bo (h (r,j) (BQ ..))]
theorem tL {ls:List Leaf}(h:∀ q∈aw ls,st' q=st q):mvU st' ls=mvU st ls:=by
 unfold mvU;rw[qO h,pa h,kp (λx u=>h _ (ic u))];simp only;rw[iv (λx u=>bo (h _ (js u)) _)]
theorem qP {ls:List Leaf}(h:∀ q∈aw ls,st' q=st q):ig st' ls=ig st ls:=by
 unfold ig;rw[qO h,pa h]
theorem jt:∀ (a:Ty) (ls:List Leaf),(∀ q∈aw ls,st' q=st q)->take st' a ls=take st a ls
 |.int k,ls,h=>by simp only[take,gD (.int k) ls h]
 |.bool,ls,h=>by simp only[take,gD .bool ls h]
 |.str,ls,h=>by simp only[take,gD .str ls h]
 |.unit,ls,h=>rfl
 |.hdr,ls,h=>by simp only[take,gD .hdr ls h]
 |.pair a b,ls,h=>by
  simp only[take,jt a ls h];cases z:take st a ls with
  |none=>rfl
  |some x =>
   have H:=ko.take_rest a ls x z;simp only;rw[jt b x.rest (λq y=>h q (fH a.cells ls q (by rw[<- H];exact y)))]
 |.list m E e,ls,h=>by
  cases ls with
  |nil=>rfl
  |cons l ls =>
   have u:∀ q∈aw [l],st' q=st q:=λq y=>h q (by rw[aL];exact BN _ y)
   simp only[take,ci u,jr u];congr 1;split
   ·rename_i r j v;rw[ci u]
   ·rfl
   ·rfl
theorem gU {a:Ty}{ls:List Leaf}(h:∀ q∈aw ls,st' q=st q):ch st' a ls=ch st a ls:=by
 unfold ch;rw[jt a ls h]
theorem nY:∀ (a:Ty) (ls:List Leaf) (t:cI a.den),take st a ls=some t->(∀ z∈t.frz,z.1∈aw ls)/\∀ z∈t.kill,z.1∈aw ls
 |.int k,ls,t,h=>by simp only[take,BS]at h;obtain⟨_,_,rfl⟩:=h;exact⟨by simp,by simp⟩
 |.bool,ls,t,h=>by simp only[take,BS]at h;obtain⟨_,_,rfl⟩:=h;exact⟨by simp,by simp⟩
 |.str,ls,t,h=>by simp only[take,BS]at h;obtain⟨_,_,rfl⟩:=h;exact⟨by simp,by simp⟩
 |.hdr,ls,t,h=>by simp only[take,BS]at h;obtain⟨_,_,rfl⟩:=h;exact⟨by simp,by simp⟩
 |.unit,ls,t,h=>by simp only[take,BK]at h;subst h;exact⟨by simp,by simp⟩
 |.pair a b,ls,t,h=>by
  simp only[take]at h;split at h
  ·rename_i x H;split at h
   ·rename_i y hy;simp only[BK]at h;subst h;have O:=ko.take_rest a ls x H;obtain⟨X,Z⟩:=nY a ls x H;obtain⟨J,M⟩:=nY b x.rest y hy;rw[O]at J M;exact⟨λz u=>(BL.1 u).elim (X z) (λu=>fH _ _ _ (J z u)),λz u=>(BL.1 u).elim (Z z) (λu=>fH _ _ _ (M z u))⟩
   ·cases h
  ·cases h
 |.list m E e,ls,t,h=>by
  cases ls with
  |nil=>simp[take]at h
  |cons l ls =>
   have I:∀ q∈aw [l],q∈aw (l::ls):=λq Y=>by rw[aL];exact BN _ Y
   cases m with
   |false =>
    simp only[take,cond_false]at h;split at h
    ·simp only[BK]at h;subst h;exact⟨λz u=>I _ (eE u),by simp⟩
    ·cases h
   |true =>
    simp only[take,cond_true]at h;split at h
    ·split at h
     ·simp only[BS]at h;obtain⟨_,_,rfl⟩:=h;exact⟨by simp,λz u=>by simp at u;subst u;exact I _ (by simp[aw])⟩
     ·cases h
    ·simp only[BK]at h;subst h;exact⟨by simp,by simp⟩
    ·cases h
theorem jd {a:Ty}{ls:List Leaf}{t:cI a.den}(h:ch st a ls=some t):(∀ z∈t.frz,z.1∈aw ls)/\∀ z∈t.kill,z.1∈aw ls:=by
 unfold ch at h;split at h
 ·rename_i p x f k u;simp only[BK]at h;subst h;exact nY a ls _ u
 ·cases h
theorem ki:∀ {off n:Nat} (a:Ty) (pos:Nat) (x:a.den) (ls:List Leaf) (t:cI a.den),da st off n a pos x ls=some t->∃ k,t.rest=ls.drop k
 |off,n,.pair a b,pos,x,ls,t,h=>by
  simp only[da]at h;split at h
  ·rename_i u J;split at h
   ·rename_i v y;simp only[BK]at h;subst h;obtain⟨I,M⟩:=ki a pos x.1 ls u J;obtain⟨H,z⟩:=ki b (pos+a.cells) x.2 u.rest v y;exact⟨I+H,by show v.rest=_;rw[z,M,Ct]⟩
   ·cases h
  ·cases h
 |off,n,.unit,pos,x,ls,t,h=>by simp only[da,BK]at h;subst h;exact⟨0,rfl⟩
 |off,n,.hdr,pos,x,ls,t,h=>by simp[da]at h
 |off,n,.int k,pos,x,ls,t,h=>sc (a:=.int k) h
 |off,n,.bool,pos,x,ls,t,h=>sc (a:=.bool) h
 |off,n,.str,pos,x,ls,t,h=>sc (a:=.str) h
 |off,n,.list m E e,pos,x,ls,t,h=>sc (a:=.list m E e) h
where
 sc {a:Ty} {b:Bool} {x:a.den} {ls:List Leaf} {t:cI a.den} (h:(bif b then take st a ls else some ⟨false,x,[],[],ls⟩)=some t):∃ k,t.rest=ls.drop k:=by
  cases b with
  |true=>exact⟨_,ko.take_rest a ls t h⟩
  |false=>simp only[cond_false,BK]at h;subst h;exact⟨0,rfl⟩
theorem pc:∀ {off n:Nat} (a:Ty) (pos:Nat) (x:a.den) (ls:List Leaf),(∀ q∈aw ls,st' q=st q)->da st' off n a pos x ls=da st off n a pos x ls
 |off,n,.pair a b,pos,x,ls,h=>by
  simp only[da,pc a pos x.1 ls h];cases z:da st off n a pos x.1 ls with
  |none=>rfl
  |some u =>
   obtain⟨k,e⟩:=ki a pos x.1 ls u z;simp only;rw[pc b (pos+a.cells) x.2 u.rest (λq y=>h q (fH k ls q (by rw[<- e];exact y)))]
 |off,n,.unit,pos,x,ls,h=>rfl
 |off,n,.hdr,pos,x,ls,h=>rfl
 |off,n,.int k,pos,x,ls,h=>by simp only[da,jt (.int k) ls h]
 |off,n,.bool,pos,x,ls,h=>by simp only[da,jt .bool ls h]
 |off,n,.str,pos,x,ls,h=>by simp only[da,jt .str ls h]
 |off,n,.list m E e,pos,x,ls,h=>by simp only[da,jt (.list m E e) ls h]
theorem pd:∀ {off n:Nat} (a:Ty) (pos:Nat) (x:a.den) (ls:List Leaf) (t:cI a.den),da st off n a pos x ls=some t->(∀ z∈t.frz,z.1∈aw ls)/\∀ z∈t.kill,z.1∈aw ls
 |off,n,.pair a b,pos,x,ls,t,h=>by
  simp only[da]at h;split at h
  ·rename_i u H;split at h
   ·rename_i v M;simp only[BK]at h;subst h;obtain⟨k,e⟩:=ki a pos x.1 ls u H;obtain⟨O,X⟩:=pd a pos x.1 ls u H;obtain⟨I,J⟩:=pd b (pos+a.cells) x.2 u.rest v M;rw[e]at I J;exact⟨λz y=>(BL.1 y).elim (O z) (λy=>fH _ _ _ (I z y)),λz y=>(BL.1 y).elim (X z) (λy=>fH _ _ _ (J z y))⟩
   ·cases h
  ·cases h
 |off,n,.unit,pos,x,ls,t,h=>by simp only[da,BK]at h;subst h;exact⟨by simp,by simp⟩
 |off,n,.hdr,pos,x,ls,t,h=>by simp[da]at h
 |off,n,.int k,pos,x,ls,t,h=>sc (a:=.int k) h
 |off,n,.bool,pos,x,ls,t,h=>sc (a:=.bool) h
 |off,n,.str,pos,x,ls,t,h=>sc (a:=.str) h
 |off,n,.list m E e,pos,x,ls,t,h=>sc (a:=.list m E e) h
where
 sc {a:Ty} {b:Bool} {x:a.den} {ls:List Leaf} {t:cI a.den} (h:(bif b then take st a ls else some ⟨false,x,[],[],ls⟩)=some t):(∀ z∈t.frz,z.1∈aw ls)/\∀ z∈t.kill,z.1∈aw ls:=by
  cases b with
  |true=>exact nY a ls t h
  |false=>simp only[cond_false,BK]at h;subst h;exact⟨by simp,by simp⟩
theorem vp {U:Upd}{d:Nat}{sh:aI}{ls:List Leaf}(h:st' d=st d):cg st' U d sh ls=cg st U d sh ls:=by
 simp only[cg,bo h]
theorem rH:∀ {xs:List Operand} {t:Nat},Operand.tmp t∈xs->t∈iA xs
 |[],_,h=>by simp at h
 |x::xs,t,h=>by
  rcases BY.1 h with rfl|h
  ·simp[iA]
  ·have u:=rH h;cases x <;> simp[iA,u]
theorem nB (t n:Nat):∀ (j:Nat) (ls:List Leaf) (q:Nat),q∈aw (bH t n j ls)->q=t\/q∈aw ls
 |_,[],_,h=>by simp[bH,aw]at h
 |j,l::ls,q,h=>by
  simp only[bH]at h;rw[aL,BL]at h;rw[aL,BL];rcases h with h|h
  ·cases l with
   |own p y E e u=>simp[lT,aw]at h;exact .inl h
   |_=>exact .inr (.inl h)
  ·exact (nB t n (j+1) ls q h).imp id .inr
theorem lu:∀ (u y:List Leaf),az (u++y)=az u++az y
 |[],_=>rfl
 |l::u,y=>by cases l <;> simp[az,lu u y]
theorem dr (l:Leaf)(ls:List Leaf):az (l::ls)=az [l]++az ls:=lu [l] ls
theorem fI:∀ {ls:List Leaf} {q:Nat},q∈aw ls->q∈az ls
 |[],_,h=>by simp[aw]at h
 |l::ls,q,h=>by
  rw[aL,BL]at h;rw[dr,BL];rcases h with h|h
  ·left;cases l with
   |nal p y ep u E e z=>simp[aw]at h;simpa[az]using h
   |np p y ep a x off=>simp[aw]at h;simpa[az]using h
   |_=>simp[aw]at h <;> simp[az,h]
  ·exact .inr (fI h)
theorem nC (t n:Nat):∀ (j:Nat) (ls:List Leaf) (q:Nat),q∈az (bH t n j ls)->q=t\/q∈az ls
 |_,[],_,h=>by simp[bH,az]at h
 |j,l::ls,q,h=>by
  simp only[bH]at h;rw[dr,BL]at h;rw[dr,BL];rcases h with h|h
  ·cases l with
   |own p y E e u=>simp[lT,az]at h;exact .inl h
   |_=>exact .inr (.inl h)
  ·exact (nC t n (j+1) ls q h).imp id .inr
theorem rI {x:Operand}{q:Nat}(h:q∈aw (au st x).2):∃ t,x=.tmp t/\(q=t\/q∈aw (st t).ls):=by
 cases x with
 |tmp t =>
  simp only[au]at h;cases y:Cp t GH with
  |false=>simp[y,aw]at h
  |true=>simp only[y,cond_true]at h;exact⟨t,rfl,nB _ _ _ _ _ h⟩
 |const v =>
  simp only[au]at h;split at h
  ·rename_i l u;unfold iw at u;split at u <;> simp at u <;> subst u <;> simp[aw]at h
  ·simp[aw]at h
 |func f=>simp[au,aw]at h
 |global g=>simp[au,aw]at h
theorem rJ {x:Operand}{q:Nat}(h:q∈az (au st x).2):∃ t,x=.tmp t/\(q=t\/q∈az (st t).ls):=by
 cases x with
 |tmp t =>
  simp only[au]at h;cases y:Cp t GH with
  |false=>simp[y,az]at h
  |true=>simp only[y,cond_true]at h;exact⟨t,rfl,nC _ _ _ _ _ h⟩
 |const v =>
  simp only[au]at h;split at h
  ·rename_i l u;unfold iw at u;split at u <;> simp at u <;> subst u <;> simp[az]at h
  ·simp[az]at h
 |func f=>simp[au,az]at h
 |global g=>simp[au,az]at h
theorem qQ {x:Operand}{l:Leaf}(h:one st x=l)(u:l≠.dead):(au st x).2=[l]:=by
 unfold one at h;split at h
 ·rename_i z y;rw[y,h]
 ·exact absurd h.symm u
theorem ju {x:Operand}{q:Nat}(h:q∈aw [one st x]):q∈aw (au st x).2:=by
 by_cases u:one st x=.dead
 ·rw[u]at h;simp[aw]at h
 ·rw[qQ rfl u];exact h
theorem tM {x:Operand}{q:Nat}(h:q∈az [one st x]):q∈az (au st x).2:=by
 by_cases u:one st x=.dead
 ·rw[u]at h;simp[az]at h
 ·rw[qQ rfl u];exact h
def jE:Leaf->Bool×Leaf
 |.own _ _ _ e u=>(true,.ep 0 0 0 e.cells u.length 0)
 |l=>(false,l)
def bK (c:bQ):Nat×aI×List (Bool×Leaf):=(c.ver,c.sh,c.ls.map jE)
theorem tN {l l':Leaf}(h:jE l'=jE l):l'=l\/∃ (p p':Bool) (z y:Option (Nat×Nat)) (E E':TypeId) (e e':Ty) (xs:List e.den) (u:List e'.den),l=.own p z E e xs/\l'=.own p' y E' e' u/\e'.cells=e.cells/\u.length=xs.length:=by
 cases l <;> cases l' <;> simp only[jE,B5,Ce,reduceCtorEq,false_and,and_false,true_and,Leaf.ep.injEq,Bool.true_eq_false]at h <;>
  first
  |exact .inr ⟨_,_,_,_,_,_,_,_,_,_,rfl,rfl,h.1,h.2.1⟩
  |exact .inr ⟨_,_,_,_,_,_,_,_,_,_,rfl,rfl,h.1,h.2⟩
  |exact .inl rfl
  |exact .inl (by rw[h])
  |exact .inl h
  |(obtain⟨rfl,rfl,rfl,rfl,rfl,rfl⟩:=h;exact .inl rfl)
theorem qd (t n:Nat):∀ (j:Nat) (ls u:List Leaf),u.map jE=ls.map jE->bH t n j u=bH t n j ls
 |_,[],[],_=>rfl
 |_,[],_::_,h=>by simp at h
 |_,_::_,[],h=>by simp at h
 |j,l::ls,Y::u,h=>by
  simp only[CB,Cq]at h;simp only[bH,qd t n (j+1) ls u h.2];rcases tN h.1 with e|⟨p,X,M,z,E,Z,e,O,J,I,y,H,_,_⟩
  ·rw[e]
  ·rw[y,H];rfl
theorem yi {x:Operand}(h:∀ t,x=.tmp t->bK (st' t)=bK (st t)):au st' x=au st x:=by
 cases x with
 |tmp t =>
  have:=h t rfl;simp only[bK,B5]at this;simp only[au,this.1,this.2.1,qd _ _ _ _ _ this.2.2]
 |_=>rfl
theorem zV {x:Operand}(h:∀ t,x=.tmp t->bK (st' t)=bK (st t)):one st' x=one st x:=by
 unfold one;rw[yi h]
theorem yj {c u:bQ}(h:bK u=bK c)(j:Nat):jE (u.ls.getD j .dead)=jE (c.ls.getD j .dead):=by
 simp only[bK,B5]at h;have:=congrArg (λl=>l[j]?) h.2.2;simp only[C8]at this;rw[BZ,BZ];generalize u.ls[j]?=a at this;generalize c.ls[j]?=b at this
 match a,b,this with
 |none,none,_=>rfl
 |some x,some y,h=>exact DG h
theorem rK (l:Leaf):lB l=(jE l).1:=by cases l <;> rfl
theorem zz {ks:List (Nat×Nat×Nat)}{ep:Nat}(h:∀ q∈EPO::ks.map (·.1),bK (st' q)=bK (st q)):br st' ks ep=br st ks ep:=by
 unfold br;have z:=h EPO (BQ ..);simp only[bK,B5]at z;rw[z.1];congr 1;induction ks with
 |nil=>rfl
 |cons k ks H =>
  have y:=h k.1 (by simp);have I:(st' k.1).ver=(st k.1).ver:=by simp only[bK,B5]at y;exact y.1
  rw[Cl,Cl,H (λq u=>h q (by simp at u ⊢;rcases u with u|u;exact .inl u;exact .inr (.inr u))),rK,rK,yj y,I]
end
section
variable {P:Program} {V:Env} {Γ:List Ctr} {T:TypeId->TI} {st st':St} {o:Oper} {R:Type} {κ:Upd->Option R} {r:R}
theorem tO {d:Nat}(u:o.dst=some d)(h:∀ q∈fy st o,st' q=st q):st' d=st d/\st' (B0+d)=st (B0+d):=by
 refine⟨h d ?_,h (B0+d) ?_⟩ <;> simp[fy,zI,u]
theorem lv {ls:List Leaf}(h:∀ q∈aw ls,st' q=st q):∀ x∈bz st ls,st' x.1=st x.1:=λx u=>h _ (eE u)
theorem qe {u:List (Nat×Nat×Bool)}:∀ (ps:List (Nat×Operand)) (ls:List Leaf),(∀ x∈ps,∀ t,x.2=.tmp t->st' t=st t)->fw st' u ps ls=fw st u ps ls
 |[],_,_=>rfl
 |(i,x)::ps,ls,h=>by
  simp only[fw,dS (h (i,x) (BQ ..))];split
  ·rw[qe ps _ (λy z=>h y (BP _ z))]
  ·rfl
theorem oA {e:Ty}:∀ (ps:List (Nat×Operand)) (k:Nat),(∀ x∈ps,(∀ t,x.2=.tmp t->st' t=st t)/\∀ q∈aw (au st x.2).2,st' q=st q)->eG st' e k ps=eG st e k ps
 |[],_,_=>rfl
 |(i,x)::ps,k,h=>by
  have u:=h (i,x) (BQ ..);simp only[eG,dS u.1,gU u.2,oA ps (k+1) (λy z=>h y (BP _ z))]
theorem oC {e:Ty}:∀ (ps:List (Nat×Operand)) (k:Nat) (u:cI (List e.den)),eG st e k ps=some u->∀ z,z∈u.frz\/z∈u.kill->∃ x∈ps,z.1∈aw (au st x.2).2
 |[],_,_,h=>by simp only[eG,BK]at h;subst h;simp
 |(i,x)::ps,k,u,h=>by
  simp only[eG]at h;cases O:BT i k&&decide ((au st x).1=bi e.isAgg) with
  |false=>simp[O]at h
  |true =>
   simp only[O,cond_true]at h;split at h
   ·rename_i t1 M X J;simp only[BK]at h;subst h;intro z H;obtain⟨Y,p2⟩:=jd X;have I:(z∈t1.frz\/z∈t1.kill)\/(z∈M.frz\/z∈M.kill):=by
     rcases H with H|H <;> rcases BL.1 H with H|H
     ·exact .inl (.inl H)
     ·exact .inr (.inl H)
     ·exact .inl (.inr H)
     ·exact .inr (.inr H)
    rcases I with H|H
    ·exact⟨(i,x),BQ ..,H.elim (Y z) (p2 z)⟩
    ·obtain⟨y,hy,Z⟩:=oC ps (k+1) M J z H;exact⟨y,BP _ hy,Z⟩
   ·cases h
theorem nD {x:Option Operand}{n:Int}(h:∀ y,x=some y->∀ t,y=.tmp t->st' t=st t):dh st' x n=dh st x n:=by
 cases x with
 |none=>rfl
 |some y=>simp only[dh,dC (h y rfl)]
theorem vq:∀ (xs:List Operand) (u:Option (List Nat)),(∀ x∈xs,∀ t,x=.tmp t->st' t=st t) ->
  xs.foldl (λ (u:Option (List Nat)) x=>u.bind λl=>match one st' x with|.bp b 0=>some (l++[b])|_=>none) u =
  xs.foldl (λ (u:Option (List Nat)) x=>u.bind λl=>match one st x with|.bp b 0=>some (l++[b])|_=>none) u
 |[],_,_=>rfl
 |x::xs,u,h=>by
  simp only[DH,dC (h x (BQ ..))];exact vq xs _ (λy z=>h y (BP _ z))
theorem qf {l:Leaf}(z:st' TMP=st TMP)(y:st' EPO=st EPO)(h:∀ q∈aw [l],st' q=st q):cj st' l=cj st l:=by
 cases l with
 |nal p I ep u E e J =>
  rw[iu]at h;simp only[cj,jQ h,z,y];congr 1
  match I,u,h with
  |[(r,j,n)],some (i,M,off),h =>
   have H:=h r (by simp);simp only[H]
  |[(r,j,n)],none,_=>rfl
  |[],_,_=>rfl
  |_::_::_,_,_=>rfl
 |_=>rfl
theorem oD {l l':Leaf}{U:Upd}(h:cj st l=some (U,l')):∃ n,l'=.al TMP 0 n/\∀ q,q≠TMP->∀ z∈az (ac U st q).ls,z∈az (st q).ls:=by
 cases l with
 |nal p ks ep a0 E e X =>
  simp only[cj]at h;cases H:br st ks ep with
  |false=>simp[H]at h
  |true =>
   rw[H]at h;simp only[cond_true]at h;split at h
   ·rename_i r j n0 i sz off;split at h
    ·rename_i p' E' O J hg;cases Z:!BT r TMP&&!BT r EPO&&BT sz O.cells with
     |false=>simp[Z]at h
     |true =>
      rw[Z]at h;simp only[cond_true]at h;split at h
      ·split at h
       ·rename_i y _ _ _ _ _;simp only[BK,B5]at h;obtain⟨rfl,rfl⟩:=h;refine⟨_,rfl,λq hq z u=>?_⟩;rw[aQ]at u;rcases aj r q ⟨(st r).ver,(st r).sh,aT (st r).ls j (.own p' (some (i,off)) E' O J)⟩ (ac [(TMP,⟨(st TMP).ver+1,.one,[.own (p'&&O.shy) none _ _ _]⟩),(EPO,bU (st EPO))] st) with ⟨rfl,M⟩|⟨_,M⟩
        ·rw[M]at u;exact refs_set u
        ·rw[M,aQ,aJ hq]at u;rcases aj EPO q (bU (st EPO)) st with ⟨rfl,Y⟩|⟨_,Y⟩ <;> rw[Y]at u <;> exact u
       ·cases h
      ·cases h
    ·cases h
   ·cases h
 |_=>simp[cj]at h
where
 refs_set {I:List Leaf} {j z:Nat} {p:Bool} {hh:Option (Nat×Nat)} {E:TypeId} {e:Ty} {X:List e.den} (h:z∈az (aT I j (.own p hh E e X))):z∈az I:=by
  unfold aT at h;induction I generalizing j with
  |nil=>simpa using h
  |cons l I ih =>
   cases j with
   |zero =>
    rw[List.set_cons_zero,dr,BL]at h;rw[dr,BL];rcases h with h|h
    ·simp[az]at h
    ·exact .inr h
   |succ j =>
    rw[C5,dr,BL]at h;rw[dr,BL];exact h.imp id ih
theorem uJ {l l':Leaf}{U:Upd}(h:cj st l=some (U,l')):az (ac U st TMP).ls=[]:=by
 cases l with
 |nal p I ep M E e X =>
  simp only[cj]at h;cases u:br st I ep with
  |false=>simp[u]at h
  |true =>
   rw[u]at h;simp only[cond_true]at h;split at h
   ·rename_i r j Z i H off;split at h
    ·rename_i p' E' J O Y;cases z:!BT r TMP&&!BT r EPO&&BT H J.cells with
     |false=>simp[z]at h
     |true =>
      rw[z]at h;simp only[cond_true]at h;have y:TMP≠r:=λe=>by subst e;simp at z
      split at h
      ·split at h
       ·simp only[BK,B5]at h;obtain⟨rfl,rfl⟩:=h;rw[aQ,aJ y,aQ,bm];rfl
       ·cases h
      ·cases h
    ·cases h
   ·cases h
 |_=>simp[cj]at h
theorem wF {E:TypeId}{e:Ty}{y:Leaf}(u:∀ q∈aw [y],st' q=st q):fR st' E e y=fR st E e y:=by
 unfold fR;rw[ci u,jr u,gU u]
theorem wG {E:TypeId}{e:Ty}{y:Leaf}{t:cI (List e.den)}(h:fR st E e y=some t):(∀ z∈t.frz,z.1∈aw [y])/\∀ z∈t.kill,z.1∈aw [y]:=by
 unfold fR at h;cases u:e.flat with
 |true =>
  rw[u]at h;simp only[cond_true,BS]at h;obtain⟨_,_,rfl⟩:=h;exact⟨by simp,by simp⟩
 |false =>
  rw[u]at h;simp only[cond_false]at h;cases H:decide (e.sh=e) with
  |true =>
   rw[H]at h;simp only[cond_true,BS]at h;obtain⟨_,_,rfl⟩:=h;exact⟨λz I=>eE I,by simp⟩
  |false =>
   rw[H]at h;simp only[cond_false,BS]at h;obtain⟨M,J,rfl⟩:=h;exact jd J
theorem lw {u:Upd}{d:Nat}{E:TypeId}{e:Ty}{H:Nat}{p:Bool}{xs:List e.den}{ks:List (Nat×Nat)}{y:Leaf}(M:∀ z∈ks,st' z.1=st z.1)(O:∀ q∈aw [y],st' q=st q)(Z:st' d=st d) :
  dU st' (ac u st') u d E e H p xs ks y κ=dU st (ac u st) u d E e H p xs ks y κ:=by
 unfold dU;have J:∀ q,st' q=st q->ac u st' q=ac u st q:=λq h=>bo h u
 rw[wF (st:=ac u st) (st':=ac u st') (λq hq=>J q (O q hq))];split
 ·rename_i t X;obtain⟨Y,p2⟩:=wG X;have e1:aF (ac u st') t.frz=aF (ac u st) t.frz:=kp (λz I=>J _ (O _ (Y z I)));have e2:∀ U:Upd,aN (ac U (ac u st')) (t.kill++ks)=aN (ac U (ac u st)) (t.kill++ks):=λU=>iv (λz I=>bo (J _ ((BL.1 I).elim (λI=>O _ (p2 z I)) (M z))) U)
  simp only[e1,e2,vp Z]
 ·rfl
theorem wH {H:Upd}{d:Nat}{E:TypeId}{e:Ty}{u:Nat}{x y:Leaf}(I:∀ q∈aw [x],st' q=st q)(M:∀ q∈aw [y],st' q=st q)(J:st' d=st d):eu st' H d E e u x y κ=eu st H d E e u x y κ:=by
 unfold eu;cases x with
 |al r j v =>
  have Y:st' r=st r:=I r (by simp[aw]);simp only;rw[ci (st:=ac H st) (st':=ac H st') (l:=.al r j v) (λq X=>bo (I q X) H)];split
  ·rw[lw (λz O=>by simp at O;subst O;exact Y) M J]
  ·rfl
 |nil=>exact lw (by simp) M J
 |_=>rfl
theorem wI {d:Nat}{E:TypeId}{e:Ty}{H:Nat}{x y:Leaf}(J:st' TMP=st TMP)(I:∀ q∈aw [x],st' q=st q)(Y:∀ q∈aw [y],st' q=st q)(X:st' d=st d):iz st' d E e H x y κ=iz st d E e H x y κ:=by
 unfold iz;rw[wH I Y X,hZ,hZ];cases hn:jx x with
 |false=>rfl
 |true =>
  simp only[cond_true];have Z:st' EPO=st EPO:=by
   cases x with
   |nal p ks ep a0 E e xs=>exact I EPO (by rw[iu];exact BQ ..)
   |_=>simp[jx]at hn
  rw[qf J Z I];cases hu:cj st x with
  |none=>rfl
  |some u =>
   obtain⟨n,e1,_⟩:=oD (U:=u.1) (l':=u.2) hu;simp only[CP];rw[e1];unfold eu;simp only;have e2:∀ q,q=TMP->ac u.1 st' q=ac u.1 st q:=λq M=>by rw[M];exact bo J u.1
   rw[ci (st:=ac u.1 st) (st':=ac u.1 st') (l:=.al TMP 0 n) (λq M=>e2 q (by simpa[aw]using M))];split
   ·rw[lw (λz O=>by simp at O;subst O;exact J) Y X]
   ·rfl
structure eS (st st':St) (ls:List Leaf):Prop where
 d1:∀ q∈az ls,st' q=st q
 d2:∀ r∈az ls,∀ q∈az (st r).ls,st' q=st q
 d3:∀ r∈az ls,∀ r2∈az (st r).ls,∀ q∈az (st r2).ls,st' q=st q
theorem kI (p:Bool):∀ (a:Ty) (x:a.den),az (cH p a x)=[]
 |.int _,_=>rfl
 |.bool,_=>rfl
 |.str,_=>rfl
 |.unit,_=>rfl
 |.hdr,_=>rfl
 |.pair a b,x=>by simp[cH,lu,kI p a,kI p b]
 |.list _ _ _,_=>rfl
theorem rL {l:Leaf}(h:∀ q∈az [l],st' q=st q):target st' l=target st l:=by
 unfold target;cases l with
 |bp b off =>
  have u:=h b (by simp[az]);cases off with
  |zero=>simp only[u]
  |succ n=>rfl
 |rp p a x off=>cases off <;> rfl
 |_=>rfl
theorem lx {l:Leaf}{ls:List Leaf}(h:target st l=some ls):∀ q∈az ls,q∈az [l]\/∃ r∈az [l],q∈az (st r).ls:=by
 unfold target at h;split at h
 ·rename_i b;cases y:decide ((st b).sh=.agg) with
  |false=>simp[y]at h
  |true =>
   simp only[y,cond_true,BK]at h;subst h;intro q u;rcases nC _ _ _ _ _ u with rfl|u
   ·exact .inl (by simp[az])
   ·exact .inr ⟨b,by simp[az],u⟩
 ·simp only[BK]at h;subst h;intro q u;rw[kI]at u;simp at u
 ·simp only[BK]at h;subst h;intro q u;simp[az]at u
 ·cases h
theorem je {x:aI×List Leaf}{q:Nat}(h:q∈az [ck x]):q∈az x.2:=by
 unfold ck at h;split at h
 ·exact h
 ·simp[az]at h
theorem eS.target {l:Leaf}{ls:List Leaf}(h:eS st st' [l])(H:Go.Proofs.YtaegajachoklkaaGreatEv.target st l=some ls):(∀ q∈az ls,st' q=st q)/\∀ r∈az ls,∀ q∈az (st r).ls,st' q=st q:=by
 constructor
 ·intro q y;rcases lx H q y with u|⟨r,u,z⟩
  ·exact h.d1 q u
  ·exact h.d2 r u q z
 ·intro r I q y;rcases lx H r I with u|⟨J,u,z⟩
  ·exact h.d2 r u q y
  ·exact h.d3 J u r z q y
theorem eS.one {x:aI×List Leaf}(h:eS st st' x.2):eS st st' [ck x] :=
 ⟨λq y=>h.d1 q (je y),λr u=>h.d2 r (je u),λr u=>h.d3 r (je u)⟩
def nE {α:Type}(st st':St)(g:Got α):Prop:=(∀ z∈g.frz,st' z.1=st z.1)/\(∀ z∈g.kill,st' z.1=st z.1)
theorem nF {c:Bool×Ty}{l:Leaf}(X:eS st st' [l]):fu st' c l=fu st c l/\∀ g,fu st c l=some g->nE st st' g:=by
 unfold fu;rw[rL X.d1];cases H:target st l with
 |none=>cases c.1 <;> exact⟨rfl,by simp⟩
 |some Y =>
  have y:=X.target H;cases hc:c.1 with
  |false =>
   have u:∀ q∈aw Y,st' q=st q:=λq M=>y.1 q (fI M)
   simp only[cond_false,eN u,jr u,true_and];intro g z;simp only[BS]at z;obtain⟨_,_,rfl⟩:=z;exact⟨lv u,by simp[Got.ofRd]⟩
  |true =>
   simp only[cond_true]
   match Y,y,H with
   |[],_,_=>exact⟨rfl,by simp⟩
   |_::_::_,_,_=>exact⟨rfl,by simp⟩
   |[l'],y,H =>
    simp only[rL y.1];cases I:target st l' with
    |none=>exact⟨rfl,by simp⟩
    |some J =>
     have u:∀ q∈aw J,st' q=st q:=by
      intro q M;rcases lx I q (fI M) with O|⟨r,O,Z⟩
      ·exact y.1 q O
      ·exact y.2 r O q Z
     simp only[eN u,jr u,true_and];intro g z;simp only[BS]at z;obtain⟨_,_,rfl⟩:=z;exact⟨lv u,by simp[Got.ofRd]⟩
theorem mB:∀ (cs:List (Bool×Ty)) (ls:List Leaf),(∀ l∈ls,eS st st' [l])->cr st' cs ls=cr st cs ls/\∀ g,cr st cs ls=some g->nE st st' g
 |[],[],_=>⟨rfl,λg u=>by simp only[cr,BK]at u;subst u;exact⟨by simp,by simp⟩⟩
 |[],_::_,_=>⟨rfl,λg u=>by simp[cr]at u⟩
 |_::_,[],_=>⟨rfl,λg u=>by simp[cr]at u⟩
 |c::cs,l::ls,h=>by
  obtain⟨M,X⟩:=nF (c:=c) (h l (BQ ..));obtain⟨Y,Z⟩:=mB cs ls (λy hy=>h y (BP _ hy));simp only[cr,M,Y,true_and];intro g u;split at u
  ·rename_i O H;split at u
   ·rename_i g2 I;simp only[BK]at u;subst u;exact⟨λz J=>(BL.1 J).elim ((X O H).1 z) ((Z g2 I).1 z),by simp⟩
   ·cases u
  ·cases u
theorem oE {c:Nat}{q:Nat}:∀ {ls:List Leaf} {c:Nat},q∈aw (aT ls c .nil)->q∈aw ls
 |[],_,h=>h
 |l::ls,0,h=>by
  rw[show aT (l::ls) 0 .nil=.nil::ls from rfl,aL,BL]at h;rw[aL,BL];rcases h with h|h
  ·simp[aw]at h
  ·exact .inr h
 |l::ls,c+1,h=>by
  rw[show aT (l::ls) (c+1) .nil=l::aT ls c .nil from rfl,aL,BL]at h;rw[aL,BL];exact h.imp id (oE (c:=c))
theorem pe {caps:List Nat}{f:FuncId}(H:eS st st' [.clo f caps]):∀ l∈caps.map (λb=>Leaf.bp b 0),eS st st' [l]:=by
 intro l I;obtain⟨b,M,rfl⟩:=BV.1 I;have u:b∈az [Leaf.clo f caps]:=by simp[az,M]
 have y:∀ r∈az [Leaf.bp b 0],r=b:=λr z=>by simpa[az]using z
 exact⟨λq J=>H.d1 q (by rw[y q J];exact u),λr z=>H.d2 r (by rw[y r z];exact u),λr z=>H.d3 r (by rw[y r z];exact u)⟩
theorem nG {caps:List (Bool×Bool×(a:Ty)×a.den)}:∀ l∈caps.map eT,eS st st' [l]:=by
 intro l z;obtain⟨c,H,rfl⟩:=BV.1 z;have:∀ q,q∉az [eT c]:=by
  intro q u;unfold eT at u;cases y:c.2.1 <;> rw[y]at u <;> simp[az]at u
 exact⟨λq u=>absurd u (this q),λq u=>absurd u (this q),λq u=>absurd u (this q)⟩
theorem er {pk:PK}{x:aI×List Leaf}(h:eS st st' x.2):bg st' pk x=bg st pk x/\∀ g,bg st pk x=some g->nE st st' g:=by
 have Y:∀ q∈aw x.2,st' q=st q:=λq M=>h.d1 q (fI M)
 have h1:=h.one;have H:∀ {b:Bool} {a:Ty} {g:Got a.den},(bif b then (ch st a x.2).map (λt=>(⟨t.p,t.val,t.frz,t.kill,[],[]⟩:Got a.den)) else none)=some g->nE st st' g:=by
  intro b a g u;cases b with
  |false=>simp at u
  |true =>
   simp only[cond_true,BS]at u;obtain⟨t,ht,rfl⟩:=u;obtain⟨p1,p2⟩:=jd ht;exact⟨λz I=>Y _ (p1 z I),λz I=>Y _ (p2 z I)⟩
 cases pk with
 |rd a =>
  simp only[bg,eN Y,jr Y,true_and];intro g u;cases O:decide (x.1=bi a.isAgg) with
  |false=>simp[O]at u
  |true =>
   simp only[O,cond_true,BS]at u;obtain⟨y,_,rfl⟩:=u;exact⟨lv Y,by simp[Got.ofRd]⟩
 |own a =>
  simp only[bg,gU Y,true_and];exact λg u=>H u
 |io a =>
  simp only[bg,gU Y,true_and];exact λg u=>H u
 |rref a=>exact nF (c:=(false,a)) h1
 |rref2 a=>exact nF (c:=(true,a)) h1
 |iop a =>
  simp only[bg];split
  ·rename_i b Z;rw[Z]at h1;have O:=h1.d1 b (by simp[az]);have h3:∀ q∈aw (bH b (st b).ver 0 (st b).ls),st' q=st q:=by
    intro q M;rcases nB _ _ _ _ _ M with rfl|M
    ·exact O
    ·exact h1.d2 b (by simp[az]) q (fI M)
   simp only[O,gU h3,true_and];intro g u;cases a1:decide ((st b).sh=.agg) with
   |false=>simp[a1]at u
   |true =>
    simp only[a1,cond_true,BS]at u;obtain⟨t,ht,rfl⟩:=u;obtain⟨p1,p2⟩:=jd ht;exact⟨λz I=>h3 _ (p1 z I),λz I=>h3 _ (p2 z I)⟩
  ·exact⟨rfl,by simp⟩
 |fn As B =>
  simp only[bg,true_and];intro g u;split at u
  ·split at u
   ·simp only[BK]at u;subst u;exact⟨by simp,by simp⟩
   ·cases u
  ·cases u
 |clo f cs =>
  simp only[bg];split
  ·rename_i f' caps Z;rw[Z]at h1;have:=mB cs _ (pe h1);rw[this.1];refine⟨rfl,λg u=>?_⟩;cases O:BT f' f with
   |false=>simp[O]at u
   |true=>rw[O]at u;exact this.2 g u
  ·rename_i f' caps Z;have:=mB (st:=st) (st':=st') cs _ (nG (caps:=caps));rw[this.1];refine⟨rfl,λg u=>?_⟩;cases O:BT f' f with
   |false=>simp[O]at u
   |true=>rw[O]at u;exact this.2 g u
  ·exact⟨rfl,by simp⟩
 |hol a c off =>
  simp only[bg];have X:∀ q∈aw (aT x.2 c .nil),st' q=st q:=λq M=>Y q (oE (c:=c) M)
  rw[gU X];cases O:decide (x.1=bi a.isAgg) with
  |false=>exact⟨rfl,by simp⟩
  |true =>
   simp only[cond_true];split
   ·rename_i r j v J;have a2:x.2[c]?=some (.al r j v):=by
     rw[BZ]at J;cases M:x.2[c]? with
     |none=>rw[M]at J;simp at J
     |some l0=>rw[M]at J;simp at J;rw[J]
    have hr:=λq M=>Y q (qN a2 q M)
    rw[ci hr];refine⟨rfl,λg u=>?_⟩;split at u
    ·rename_i p i o' E e xs _;cases a0:BT o' off with
     |false=>simp[a0]at u
     |true =>
      rw[a0]at u;simp only[cond_true]at u;split at u
      ·rename_i t ht;split at u
       ·simp only[BK]at u;subst u;obtain⟨p1,p2⟩:=jd ht;refine⟨λz I=>X _ (p1 z I),λz I=>?_⟩;rcases BY.1 I with rfl|I
        ·exact hr r (by simp[aw])
        ·exact X _ (p2 z I)
       ·cases u
      ·cases u
    ·cases u
   ·exact⟨rfl,by simp⟩
theorem kJ {ga ga':(pk:PK)->aI×List Leaf->Option (Got pk.den)}:∀ (ps:List PK) (xs:List (aI×List Leaf)),
  (∀ x∈xs,∀ pk,ga' pk x=ga pk x/\∀ g,ga pk x=some g->nE st st' g) ->
  bd ga' ps xs=bd ga ps xs/\∀ g,bd ga ps xs=some g->nE st st' g
 |[],[],_=>⟨rfl,λg u=>by simp only[bd,BK]at u;subst u;exact⟨by simp,by simp⟩⟩
 |[],_::_,_=>⟨rfl,λg u=>by simp[bd]at u⟩
 |_::_,[],_=>⟨rfl,λg u=>by simp[bd]at u⟩
 |p::ps,x::xs,h=>by
  obtain⟨Z,O⟩:=h x (BQ ..) p;obtain⟨h3,X⟩:=kJ ps xs (λy hy=>h y (BP _ hy));simp only[bd,Z,h3,true_and];intro g u;split at u
  ·rename_i M H;split at u
   ·rename_i Y I;simp only[BK]at u;subst u;exact⟨λz J=>(BL.1 J).elim ((O M H).1 z) ((X Y I).1 z),λz J=>(BL.1 J).elim ((O M H).2 z) ((X Y I).2 z)⟩
   ·cases u
  ·cases u
theorem tP {H:List Ty}{B:Ty}{f:FuncId}{ls:List Leaf}(h:∀ l∈ls,eS st st' [l]):kL Γ st' H B f ls=kL Γ st H B f ls/\∀ g,kL Γ st H B f ls=some g->nE st st' g:=by
 have u:=λ (q:List PK)=>kJ (st:=st) (st':=st') (ga:=bg st) (ga':=bg st') q (ls.map λl=>(aI.one,[l])) (λy O Y=>by
  obtain⟨l,M,rfl⟩:=BV.1 O;exact er (h l M))
 unfold kL;split
 ·rename_i c X;unfold sa;simp only[uM,(u _).1,true_and];intro g z;split at z
  ·cases J:(c.ps.drop H.length).all PK.reads&&B.flat&&c.fresh with
   |false=>simp[J]at z
   |true =>
    simp only[J,cond_true]at z;split at z
    ·rename_i g0 I;simp only[BK]at z;subst z;exact⟨((u _).2 g0 I).1,by simp⟩
    ·cases z
  ·cases z
 ·exact⟨rfl,by simp⟩
theorem wJ {pk:PK}{x:aI×List Leaf}(h:eS st st' x.2):ca Γ st' pk x=ca Γ st pk x/\∀ g,ca Γ st pk x=some g->nE st st' g:=by
 cases pk with
 |fn O B =>
  simp only[ca];split
  ·rename_i H y;have z:(∃ u,ck x=.clo H.1 u/\H.2=u.map λb=>Leaf.bp b 0)\/∃ u,ck x=.clr H.1 u/\H.2=u.map eT:=by
    generalize ck x=l at y;cases l <;> simp only[vC,BK,reduceCtorEq]at y
    ·subst y;exact .inl ⟨_,rfl,rfl⟩
    ·subst y;exact .inr ⟨_,rfl,rfl⟩
   have J:=h.one;rcases z with ⟨u,z,I⟩|⟨u,z,I⟩
   ·rw[z]at J;rw[I];exact tP (pe J)
   ·rw[I];exact tP nG
  ·exact er h
 |rd a=>exact er (pk:=.rd a) h
 |own a=>exact er (pk:=.own a) h
 |io a=>exact er (pk:=.io a) h
 |rref a=>exact er (pk:=.rref a) h
 |rref2 a=>exact er (pk:=.rref2 a) h
 |iop a=>exact er (pk:=.iop a) h
 |clo f M=>exact er (pk:=.clo f M) h
 |hol a c off=>exact er (pk:=.hol a c off) h
theorem tQ:∀ (u ls:List Leaf),st' EPO=st EPO->(∀ q∈az u,st' q=st q)->b6 st' u ls=b6 st u ls
 |[],_,_,_=>by simp[b6]
 |x::u,[],_,_=>by cases x <;> simp[b6]
 |x::u,l::ls,y,h=>by
  have z:=tQ u ls y (λq H=>h q (by rw[dr];exact BO _ H));cases x with
  |al r j v =>
   have I:st' r=st r:=h r (by simp[az]);simp only[b6,z,bo I,bo y]
  |_=>simp only[b6,z]
theorem qg {p:Bool}:∀ (ps:List PK) (xs:List (aI×List Leaf)) (y:ah ps),st' EPO=st EPO->(∀ x∈xs,∀ q∈az x.2,st' q=st q)->aG st' p ps xs y=aG st p ps xs y
 |[],_,_,_,_=>by simp[aG]
 |J::ps,[],y,_,h=>by cases J <;> simp[aG]
 |J::ps,x::xs,y,O,h=>by
  have u:=λ (y:ah ps)=>qg (p:=p) ps xs y O (λz Y=>h z (BP _ Y))
  have M:=h x (BQ ..);cases J with
  |io a =>
   simp only[aG,u];rw[tQ x.2 _ (bo O _) (λq I=>bo (M q I) _)]
  |iop a =>
   simp only[aG,u];have X:∀ q∈az [ck x],st' q=st q:=λq I=>M q (je I)
   congr 1;split
   ·rename_i b v H;rw[H]at X;rw[bo (X b (by simp[az]))]
   ·rfl
  |_=>exact u _
theorem qh {n q:Nat}:∀ {ls:List Leaf} {k:Nat},q∈az (aT ls k (.al TMP 0 n))->q∈az ls\/q=TMP
 |[],_,h=>.inl h
 |l::ls,0,h=>by
  rw[show aT (l::ls) 0 (.al TMP 0 n)=.al TMP 0 n::ls from rfl,dr,BL]at h;rw[dr,BL];rcases h with h|h
  ·simp[az]at h;exact .inr h
  ·exact .inl (.inr h)
 |l::ls,k+1,h=>by
  rw[show aT (l::ls) (k+1) (.al TMP 0 n)=l::aT ls k (.al TMP 0 n) from rfl,dr,BL]at h;rw[dr,BL];rcases h with h|h
  ·exact .inl (.inl h)
  ·exact (qh h).imp .inr id
theorem pf {U:Upd}{Y ls:List Leaf}(hT:st' TMP=st TMP)(u:∀ q,q≠TMP->∀ z∈az (ac U st q).ls,z∈az (st q).ls)(M:az (ac U st TMP).ls=[])(Z:eS st st' Y)(y:∀ q∈az ls,q∈az Y\/q=TMP) :
  eS (ac U st) (ac U st') ls:=by
 have H:∀ r z,z∈az (ac U st r).ls->r≠TMP:=λr z hz e=>by subst e;rw[M]at hz;simp at hz
 refine⟨λq I=>?_,λr hr q I=>?_,λr hr O J q I=>?_⟩
 ·rcases y q I with h|h
  ·exact bo (Z.d1 q h) U
  ·subst h;exact bo hT U
 ·have X:=H r q I;exact bo (Z.d2 r ((y r hr).resolve_right X) q (u r X q I)) U
 ·have X:=H r O J;have h2:=H O q I;exact bo (Z.d3 r ((y r hr).resolve_right X) O (u r X O J) q (u O h2 q I)) U
theorem oF (Z:st' TMP=st TMP)(hE:st' EPO=st EPO):∀ (ps:List PK) (xs:List (aI×List Leaf)),(∀ x∈xs,eS st st' x.2)->c5 st' ps xs=c5 st ps xs /\
  ∀ (U:Upd) (O:List (aI×List Leaf)) (b:Option (Bool×Nat×Nat)),c5 st ps xs=some (U,O,b)->(∀ y∈O,eS (ac U st) (ac U st') y.2)/\(∀ f r j,b=some (f,r,j)->st' r=st r)/\∀ ls,eS st st' ls->eS (ac U st) (ac U st') ls
 |[],xs,h=>⟨rfl,λU O b z=>by
   simp only[c5,BK,B5]at z;obtain⟨rfl,rfl,rfl⟩:=z;exact⟨h,(λ_ _ _ h=>by cases h),λ_ h=>h⟩⟩
 |_::_,[],h=>⟨rfl,λU O b z=>by
   simp only[c5,BK,B5]at z;obtain⟨rfl,rfl,rfl⟩:=z;exact⟨h,(λ_ _ _ h=>by cases h),λ_ h=>h⟩⟩
 |p::ps,x::xs,h=>by
  have hx:=h x (BQ ..);obtain⟨i1,i2⟩:=oF Z hE ps xs (λy M=>h y (BP _ M));simp only[c5];cases hk:p.nest x.2 with
  |none =>
   simp only[i1,true_and];intro U O b z;simp only[BS]at z;obtain⟨u,X,z⟩:=z;simp only[B5]at z;obtain⟨rfl,rfl,rfl⟩:=z;obtain⟨j1,j2,j3⟩:=i2 u.1 u.2.1 u.2.2 X;refine⟨λy M=>?_,j2,j3⟩;rcases BY.1 M with rfl|M
   ·exact j3 _ hx
   ·exact j1 y M
  |some k =>
   obtain⟨l,Y,a1⟩:=rD hk;have hg:x.2.getD k .dead=l:=by rw[BZ,Y];rfl
   have a0:∀ q∈aw [l],st' q=st q:=λq J=>hx.d1 q (fI (qN Y q J))
   simp only[hg,qf Z hE a0,true_and];intro U O b z;simp only[BS]at z;obtain⟨u,X,z⟩:=z;simp only[B5]at z;obtain⟨rfl,rfl,rfl⟩:=z;obtain⟨n,e1,I⟩:=oD (U:=u.1) (l':=u.2) X;have H:=uJ (U:=u.1) (l':=u.2) X;refine⟨λy M=>?_,λf r j hb=>?_,λls a2=>pf Z I H a2 (λq J=>.inl J)⟩
   ·rcases BY.1 M with rfl|M
    ·refine pf Z I H hx λq J=>?_
     have J:q∈az (aT x.2 k u.2):=J;rw[e1]at J;exact qh J
    ·exact pf Z I H (h y (BP _ M)) (λq J=>.inl J)
   ·simp only[BK,B5]at hb;have hr:r=(kl l).1:=by rw[hb.2]
    rw[hr];refine a0 _ ?_;cases l with
    |nal p ks ep a3 E e xs =>
     cases ks with
     |nil =>
      exfalso;simp only[cj]at X;cases hv:br st [] ep <;> simp[hv]at X
     |cons k ks=>rw[iu];simp[kl]
    |_=>simp[jx]at a1
theorem zA {b:Option (Bool×Nat×Nat)}{U:Upd}(u:st' TMP=st TMP)(y:st' EPO=st EPO)(z:∀ f r j,b=some (f,r,j)->st' r=st r):j9 st' b U κ=j9 st b U κ:=by
 unfold j9;split
 ·rename_i r j;rw[bo (z true r j rfl),bo u,bo y]
 ·rfl
theorem tR {d:Nat}{f:FuncId}{xs:List (aI×List Leaf)}(hT:st' TMP=st TMP)(X:st' EPO=st EPO)(hx:∀ x∈xs,eS st st' x.2)(hd:st' d=st d)(hB:st' (B0+d)=st (B0+d)):jy Γ st' d f xs κ=jy Γ st d f xs κ:=by
 unfold jy;split
 ·rename_i c hc;obtain⟨n1,n2⟩:=oF hT X c.ps xs hx;rw[gB,gB,n1];cases hn:c5 st c.ps xs with
  |none=>rfl
  |some u =>
   obtain⟨H,M,b⟩:=u;obtain⟨m1,m2,_⟩:=n2 H M b hn;simp only[CP];have hg:=kJ (st:=ac H st) (st':=ac H st') (ga:=ca Γ (ac H st)) (ga':=ca Γ (ac H st')) c.ps M (λx I pk=>wJ (m1 x I));simp only[oK,hg.1];split
   ·rename_i g Z;obtain⟨h1,h2⟩:=hg.2 g Z;have J:gG st' d c.rs=gG st d c.rs:=by
     unfold gG;split
     ·rw[hB]
     ·rfl
    have hL:∀ q,ac H st' q=ac H st q->∀ U,ac (U++H) st' q=ac (U++H) st q:=λq h U=>by rw[bD,bD];exact bo h U
    have a1:(bif c.fresh then [] else aF (ac H st') g.frz)=(bif c.fresh then [] else aF (ac H st) g.frz):=by rw[kp h1]
    have hk:∀ (U:Upd),aN (ac U (ac H st')) g.kill=aN (ac U (ac H st)) g.kill:=λU=>iv (λz hz=>bo (h2 z hz) U)
    have ho:∀ (U:Upd) (p:Bool) (y:ah c.ps),aG (ac (U++H) st') p c.ps M y=aG (ac (U++H) st) p c.ps M y:=λU p y =>
     qg c.ps M y (hL _ (bo X H) U) (λx I q hq=>hL _ ((m1 x I).d1 q hq) U)
    have O:∀ (U:Upd),(g.frz.map λk=>(k.1,k.2,(ac (U++H) st' k.1).ver))=g.frz.map λk=>(k.1,k.2,(ac (U++H) st k.1).ver):=λU=>Cx λz hz=>by rw[hL _ (h1 z hz) U]
    have Y:∀ U,ac U st' d=ac U st d:=λU=>bo hd U
    have a2:∀ U,ac U st' (B0+d)=ac U st (B0+d):=λU=>bo hB U
    have a0:∀ U,ac U st' EPO=ac U st EPO:=λU=>bo X U
    simp only[J,a1,hk,ho,Y,a2,a0,<- CH,O,zA hT X m2]
   ·rfl
 ·rfl
theorem rM:∀ (u:List Ty) (xs:List (aI×List Leaf)),(∀ x∈xs,∀ q∈aw x.2,st' q=st q)->iQ st' u xs=iQ st u xs
 |[],[],_=>rfl
 |[],_::_,_=>rfl
 |_::_,[],_=>rfl
 |a::u,x::xs,h=>by
  simp only[iQ,eN (h x (BQ ..)),rM u xs (λy z=>h y (BP _ z))]
theorem wK {r j i off n:Nat}{p:Bool}{E:TypeId}{e:Ty}{xs:List e.den}{h:Option (Nat×Nat)}{ls:List Leaf}(O:st' r=st r)(I:st' EPO=st EPO)(H:∀ q∈aw ls,st' q=st q):gH st' r j i off n p E e xs h ls κ=gH st r j i off n p E e xs h ls κ:=by
 unfold gH;congr 1;funext u;rw[pc e 0 u ls H];split
 ·rename_i t J;obtain⟨M,Y⟩:=pd e 0 u ls t J;have Z:aF st' t.frz=aF st t.frz:=kp (λz y=>H _ (M z y));have X:∀ U:Upd,aN (ac U st') t.kill=aN (ac U st) t.kill:=λU=>iv (λz y=>bo (H _ (Y z y)) U)
  simp only[Z,X,O,bo I]
 ·rfl
end
section
variable {P:Program} {V:Env} {Γ:List Ctr} {T:TypeId->TI} {st st':St} {o:Oper} {R:Type} {κ:Upd->Option R} {r:R}
theorem dt {H:List Nat}(h:∀ q∈H++H.flatMap (λt=>aw (st t).ls),st' q=st q){x:Operand}(z:∀ t,x=.tmp t->t∈H):(∀ t,x=.tmp t->st' t=st t)/\∀ q∈aw (au st x).2,st' q=st q:=by
 refine⟨λt y=>h t (BN _ (z t y)),λq u=>?_⟩;obtain⟨t,y,u⟩:=rI u;rcases u with rfl|u
 ·exact h q (BN _ (z q y))
 ·exact h q (BO _ (B6.2 ⟨t,z t y,u⟩))
theorem nH {H:List Nat}(h:∀ q∈H++H.flatMap (λt=>az (st t).ls),st' q=st q){x:Operand}(z:∀ t,x=.tmp t->t∈H):(∀ t,x=.tmp t->st' t=st t)/\∀ q∈az (au st x).2,st' q=st q:=by
 refine⟨λt y=>h t (BN _ (z t y)),λq u=>?_⟩;obtain⟨t,y,u⟩:=rJ u;rcases u with rfl|u
 ·exact h q (BN _ (z q y))
 ·exact h q (BO _ (B6.2 ⟨t,z t y,u⟩))
theorem qi {y:List Nat}(h:∀ q∈kN st y,st' q=st q){x:Operand}(O:∀ t,x=.tmp t->t∈y):eS st st' (au st x).2:=by
 have J:∀ q,q∈y->st' q=st q:=λq u=>h q (by simp[kN];exact .inl u)
 have ha:∀ q,q∈y.flatMap (λt=>az (st t).ls)->st' q=st q:=λq u=>h q (by
  unfold kN;exact BN _ (BN _ (BO _ u)))
 have hb:∀ q,q∈(y.flatMap (λt=>az (st t).ls)).flatMap (λt=>az (st t).ls)->st' q=st q:=λq u=>h q (by
  unfold kN;exact BN _ (BO _ u))
 have hc:∀ q,q∈((y.flatMap (λt=>az (st t).ls)).flatMap (λt=>az (st t).ls)).flatMap (λt=>az (st t).ls)->st' q=st q:=λq u=>h q (by
  unfold kN;exact BO _ u)
 have X:∀ r∈az (au st x).2,r∈y\/r∈y.flatMap (λt=>az (st t).ls):=by
  intro r z;obtain⟨t,Y,u⟩:=rJ z;rcases u with rfl|u
  ·exact .inl (O r Y)
  ·exact .inr (B6.2 ⟨t,O t Y,u⟩)
 have Z:∀ r∈az (au st x).2,∀ q∈az (st r).ls,q∈y.flatMap (λt=>az (st t).ls)\/q∈(y.flatMap (λt=>az (st t).ls)).flatMap (λt=>az (st t).ls):=by
  intro r z q u;rcases X r z with H|H
  ·exact .inl (B6.2 ⟨r,H,u⟩)
  ·exact .inr (B6.2 ⟨r,H,u⟩)
 refine⟨λq u=>(X q u).elim (J q) (ha q),λr z q u=>(Z r z q u).elim (ha q) (hb q),λr z M I q u=>?_⟩;rcases Z r z M I with H|H
 ·exact hb q (B6.2 ⟨M,H,u⟩)
 ·exact hc q (B6.2 ⟨M,H,u⟩)
theorem bf {xs:Array Operand}{x:Operand}(h:x∈xs):∀ t,x=.tmp t->t∈iA xs.toList:=λt e=>rH (by rw[<- e];simpa using h)
theorem op_fr (h:∀ q∈fy st o,st' q=st q)(H:∀ x,o.op≠.move x)(z:∀ t x i,o.op≠.indexAddr t x i):∀ q∈cl st o.op,st' q=st q:=λq y=>h q (by
 unfold fy;refine BN _ ?_;cases u:o.op with
 |move x=>exact absurd u (H x)
 |indexAddr t x i=>exact absurd u (z t x i)
 |_=>rw[u]at y;exact y)
theorem AN {α β:Type}{xs:List α}{n:Int}{K:Option β}:((idx xs n).bind λ_=>K)=if 0<=n/\n<xs.length then K else none:=by
 unfold idx;by_cases u:n<0
 ·rw[if_pos u,if_neg (by omega)];rfl
 ·rw[if_neg u];by_cases y:n.toNat<xs.length
  ·rw[B4 y,if_pos (by omega)];rfl
  ·rw[Cr (by omega),if_neg (by omega)];rfl
theorem BA (h:∀ q∈fy st o,st' q=st q)(hh:∀ q∈e8 st o.op,bK (st' q)=bK (st q)):act Γ T o st' κ=act Γ T o st κ:=by
 have M:=op_fr h;have a0:∀ (U:Upd) (d:Nat) (sh:aI) (ls:List Leaf),o.dst=some d->cg st' U d sh ls=cg st U d sh ls:=λU d sh ls hd=>vp (tO hd h).1
 have hB:∀ d,o.dst=some d->st' (B0+d)=st (B0+d):=λd hd=>(tO hd h).2
 have hw:∀ (sh:aI) (ls:List Leaf),wrU o st' κ sh ls=wrU o st κ sh ls:=by
  intro sh ls;unfold wrU;split
  ·rename_i d hd;rw[a0 _ _ _ _ hd]
  ·rfl
 cases I:o.op with
 |move x =>
  simp only[I,e8]at hh;have e:au st' x=au st x:=yi λt Y=>hh t (bf (by simp[Op.operands]) t Y)
  simp only[act,I,e,hw]
 |assign x =>
  have H:=M (by simp[I]) (by simp[I]);simp only[I,cl]at H;have J:=dt H (x:=x) (bf (by simp[Op.operands]));have e:au st' x=au st x:=dS J.1;simp only[act,I,e,qP J.2,pb J.2,tL J.2];split
  ·rename_i d hd;rw[a0 _ _ _ _ hd]
  ·rfl
 |pick c x y =>
  have H:=M (by simp[I]) (by simp[I]);simp only[I,cl]at H;have e1:one st' c=one st c:=dC λt Y=>H t (bf (by simp[Op.operands]) t Y)
  have e2:au st' x=au st x:=dS λt Y=>H t (bf (by simp[Op.operands]) t Y)
  have e3:au st' y=au st y:=dS λt Y=>H t (bf (by simp[Op.operands]) t Y)
  simp only[act,I,e1,e2,e3,hw]
 |alloc t =>
  simp only[act,I];split
  ·rename_i d hd;rw[a0 _ _ _ _ hd,hB d hd]
  ·rfl
 |box t x =>
  have H:=M (by simp[I]) (by simp[I]);simp only[I,cl]at H;have J:=dt H (x:=x) (bf (by simp[Op.operands]));have e:au st' x=au st x:=dS J.1;have b1:sq st' x=sq st x:=by cases x <;> first|rfl|(simp only[sq];rw[J.1 _ rfl])
  simp only[act,I,e,qP J.2,pb J.2,tL J.2,b1];split
  ·rename_i d hd;simp only[a0 _ _ _ _ hd,hB d hd,bo (hB d hd)]
  ·rfl
 |build t a2 =>
  have H:=M (by simp[I]) (by simp[I]);simp only[I,cl]at H;have hb:∀ a6 ls,fw st' a6 a2.toList ls=fw st a6 a2.toList ls:=λa6 ls=>qe _ _ (λx J t Y=>H t (bf (by simp only[Op.operands,DB,BV];exact⟨x,J,rfl⟩) t Y))
  simp only[act,I,hw,hb]
 |buildSlice t n a2 =>
  have H:=M (by simp[I]) (by simp[I]);simp only[I,cl]at H;have J:∀ x∈a2.toList,(∀ t,x.2=.tmp t->st' t=st t)/\∀ q∈aw (au st x.2).2,st' q=st q:=λx J =>
   dt H (bf (by simp only[Op.operands,DB,BV];exact⟨x,J,rfl⟩))
  simp only[act,I];split
  ·rw[oA _ _ J];split
   ·rename_i u c0;have c3:=oC _ _ _ c0;have b2:∀ z,z∈u.frz\/z∈u.kill->st' z.1=st z.1:=λz hz=>by
     obtain⟨x,bb,c1⟩:=c3 z hz;exact (J x bb).2 _ c1
    have e1:aF st' u.frz=aF st u.frz:=kp λz hz=>b2 z (.inl hz)
    have e2:∀ U:Upd,aN (ac U st') u.kill=aN (ac U st) u.kill:=λU=>iv (λz hz=>bo (b2 z (.inr hz)) U)
    simp only[e1,e2];congr 1;split
    ·rename_i d hd;rw[a0 _ _ _ _ hd]
    ·rfl
   ·rfl
  ·rfl
 |load t x =>
  have H:=M (by simp[I]) (by simp[I]);simp only[I,cl]at H;have J:=nH H (x:=x) (bf (by simp[Op.operands]));have e:one st' x=one st x:=dC J.1;have X:∀ q∈az [one st x],st' q=st q:=λq O=>J.2 q (tM O)
  simp only[act,I,e,hw];congr 1;split
  ·rfl
  ·rename_i b off Z;rw[Z]at X;rw[X b (by simp[az])]
  ·rfl
  ·rename_i p ks ep a y off Z;rw[Z]at X;rw[jQ (λq O=>X q (by simpa[az]using O))]
  ·rename_i r j v i sz off Z;rw[Z]at X;rw[ci (l:=.al r j v) (λq O=>X q (by simp[aw]at O;simp[az,O])),X EPO (by simp[az])]
  ·rfl
 |store t x y =>
  have H:=M (by simp[I]) (by simp[I]);simp only[I,cl]at H;have J:=nH H (x:=x) (bf (by simp[Op.operands]));have hy:=nH H (x:=y) (bf (by simp[Op.operands]));have e:one st' x=one st x:=dC J.1;have e2:au st' y=au st y:=dS hy.1;have X:∀ q∈az [one st x],st' q=st q:=λq O=>J.2 q (tM O)
  have a9:∀ q∈aw (au st y).2,st' q=st q:=λq O=>hy.2 q (fI O)
  simp only[act,I,e,e2,qP a9,pb a9,tL a9];split
  ·rfl
  ·congr 1;split
   ·rename_i b off Z;rw[Z]at X;have hb:=X b (by simp[az]);simp only[hb,bo hb]
   ·rename_i r j v i sz off Z;rw[Z]at X;have bl:=X r (by simp[az]);rw[ci (l:=.al r j v) (λq O=>X q (by simp[aw]at O;simp[az,O]))];split
    ·rw[wK bl (X EPO (by simp[az])) a9]
    ·rfl
   ·rfl
 |nilCheck x =>
  have H:=M (by simp[I]) (by simp[I]);simp only[I,cl]at H;have J:=dt H (x:=x) (bf (by simp[Op.operands]));have e:one st' x=one st x:=dC J.1;have X:∀ q∈aw [one st x],st' q=st q:=λq O=>J.2 q (ju O)
  simp only[act,I,e,hw];split
  ·rfl
  ·rfl
  ·rename_i r j v i sz off Z;rw[Z]at X;rw[X r (by simp[aw])]
  ·rfl
  ·rename_i p ks ep a y off Z;rw[Z,vo]at X;rw[jQ X]
  ·rfl
 |binOp op t x y t' =>
  have H:=M (by simp[I]) (by simp[I]);simp only[I,cl]at H;have J:=dt H (x:=x) (bf (by simp[Op.operands]));have hy:=dt H (x:=y) (bf (by simp[Op.operands]));have e1:one st' x=one st x:=dC J.1;have e2:one st' y=one st y:=dC hy.1;have e3:au st' x=au st x:=dS J.1;have e4:au st' y=au st y:=dS hy.1;simp only[act,I,e1,e2,e3,e4,hw,eN J.2,eN hy.2]
 |unOp op t x =>
  have H:=M (by simp[I]) (by simp[I]);simp only[I,cl]at H;have e1:one st' x=one st x:=dC λt Y=>H t (bf (by simp[Op.operands]) t Y)
  simp only[act,I,e1,hw]
 |convert s t x =>
  have H:=M (by simp[I]) (by simp[I]);simp only[I,cl]at H;have J:=dt H (x:=x) (bf (by simp[Op.operands]));have e1:one st' x=one st x:=dC J.1;have X:∀ q∈aw [one st x],st' q=st q:=λq O=>J.2 q (ju O)
  simp only[act,I,e1,hw];split
  ·rfl
  ·rw[ci X]
  ·rfl
  ·rfl
 |makeSlice t n c =>
  have H:=M (by simp[I]) (by simp[I]);simp only[I,cl]at H;have e1:one st' n=one st n:=dC λt Y=>H t (bf (by simp[Op.operands]) t Y)
  have e2:one st' c=one st c:=dC λt Y=>H t (bf (by simp[Op.operands]) t Y)
  simp only[act,I,e1,e2,hw]
 |slice t x lo hi mx =>
  have H:=M (by simp[I]) (by simp[I]);simp only[I,cl]at H;have hE:=H EPO (BQ ..);have H:=λq O=>H q (BP _ O)
  have J:=dt H (x:=x) (bf (by simp[Op.operands]));have bx:∀ n,dh st' lo n=dh st lo n:=λn=>nD λy hy t Y=>H t (BN _ (bf (by simp[Op.operands,hy]) t Y))
  have b9:∀ n,dh st' hi n=dh st hi n:=λn=>nD λy hy t Y=>H t (BN _ (bf (by simp[Op.operands,hy]) t Y))
  have e:one st' x=one st x:=dC J.1;have X:∀ q∈aw [one st x],st' q=st q:=λq O=>J.2 q (ju O)
  have c2:∀ m,mx=some m->dh st' (some m) 0=dh st (some m) 0:=λm hm=>nD λy hy t Y=>H t (BN _ (bf (by simp[Op.operands,hm,DG hy]) t Y))
  simp only[act,I,e,bx,b9,ci X,hE];cases hd:o.dst with
  |none=>cases mx <;> rfl
  |some d =>
   cases mx with
   |none=>simp only[a0 _ _ _ _ hd]
   |some m =>
    simp only[c2 m rfl];split
    ·rename_i r j v _ Z _;rw[Z]at X;rw[ci X,iv (st:=st) (st':=st') (λz hz=>by simp at hz;subst hz;exact X _ (by simp[aw]))];simp only[a0 _ _ _ _ hd]
    ·rfl
 |fieldAddr t x f =>
  have H:=M (by simp[I]) (by simp[I]);simp only[I,cl]at H;have J:=dt H (x:=x) (bf (by simp[Op.operands]));have e:one st' x=one st x:=dC J.1;have X:∀ q∈aw [one st x],st' q=st q:=λq O=>J.2 q (ju O)
  simp only[act,I,e,hw];split
  ·split
   ·split
    ·rfl
    ·rfl
    ·rename_i r j v i sz off Z;rw[Z]at X;rw[X r (by simp[aw])]
    ·rename_i p ks ep a y o' Z;rw[Z,vo]at X;rw[jQ X]
    ·rfl
   ·rfl
  ·rfl
 |field t x f =>
  have H:=M (by simp[I]) (by simp[I]);simp only[I,cl]at H;have e1:au st' x=au st x:=dS λt Y=>H t (bf (by simp[Op.operands]) t Y)
  simp only[act,I,e1,hw]
 |indexAddr t x i =>
  simp only[I,e8]at hh;have b4:∀ y∈(Op.indexAddr t x i).operands,∀ t,y=.tmp t->bK (st' t)=bK (st t):=λy hy t Y=>hh t (BN _ (bf hy t Y))
  have e:one st' x=one st x:=zV (b4 x (by simp[Op.operands]));have e2:one st' i=one st i:=zV (b4 i (by simp[Op.operands]));have X:∀ q∈aw [one st x],bK (st' q)=bK (st q):=λq O=>by
   obtain⟨t',ba,O⟩:=rI (ju O);have a5:=bf (xs:=(Op.indexAddr t x i).operands) (x:=x) (by simp[Op.operands]) t' ba;rcases O with rfl|O
   ·exact hh q (BN _ a5)
   ·exact hh q (BO _ (B6.2 ⟨t',a5,O⟩))
  simp only[act,I,e,e2,hw];split
  ·split
   ·rfl
   ·split
    ·rename_i r j v Z;rw[Z]at X;have O:=X r (by simp[aw]);have hv:(st' r).ver=(st r).ver:=by simp only[bK,B5]at O;exact O.1
     simp only[aE,hv];cases BT (st r).ver v with
     |false=>rfl
     |true =>
      simp only[cond_true];rcases tN (yj O j) with e3|⟨p,p',h1,h2,E1,E2,e',cb,xs,c4,e3,e4,e5,e6⟩
      ·rw[e3]
      ·rw[e3,e4];simp only[po,e5,AN,e6]
    ·rfl
    ·rename_i p ks ep cc E' e' xs Z;rw[Z,iu]at X;rw[zz X]
    ·rfl
   ·rfl
  ·rfl
 |index t x i =>
  have H:=M (by simp[I]) (by simp[I]);simp only[I,cl]at H;have J:=dt H (x:=x) (bf (by simp[Op.operands]));have e1:one st' x=one st x:=dC J.1;have e2:one st' i=one st i:=dC (dt H (x:=i) (bf (by simp[Op.operands]))).1;have e3:au st' x=au st x:=dS J.1;simp only[act,I,e1,e2,e3,hw,λe n=>nA (e:=e) n _ J.2]
 |extract x i =>
  have H:=M (by simp[I]) (by simp[I]);simp only[I,cl]at H;have e1:au st' x=au st x:=dS λt Y=>H t (bf (by simp[Op.operands]) t Y)
  simp only[act,I,e1,hw]
 |makeFunc fn first a3 =>
  have H:=M (by simp[I]) (by simp[I]);simp only[I,cl]at H;cases fn with
  |func f =>
   have:su st' a3.toList=su st a3.toList:=vq (st:=st) (st':=st') a3.toList (some []) (λx J t Y=>H t (bf (by simp[Op.operands];exact .inr (by simpa using J)) t Y));simp only[act,I,hw,this]
  |_=>simp only[act,I]
 |call c =>
  have H:=M (by simp[I]) (by simp[I]);simp only[I,cl]at H;simp only[act,I];split
  ·rfl
  ·rename_i d hd;obtain⟨b0,b5⟩:=tO hd h;cases hc:c.callee with
   |value f =>
    simp only[hc]at H;have hT:=H TMP (BQ ..);have hE:=H EPO (BP _ (BQ ..));have H:=λq O=>H q (BP _ (BP _ O))
    have b3:f∈(Op.call c).operands:=by simp[Op.operands,Call.operands,hc]
    have ad:∀ x∈c.args.toList,x∈(Op.call c).operands:=λx J=>by
     simp only[Op.operands,Call.operands,hc,DC];exact .inr (by simpa using J)
    have a5:∀ x∈(Op.call c).operands,∀ t,x=.tmp t->st' t=st t:=λx J t Y=>H t (by
     unfold kN;exact BN _ (BN _ (BN _ (bf J t Y))))
    have e1:one st' f=one st f:=dC (a5 f b3);have e2:c.args.toList.map (au st')=c.args.toList.map (au st):=Cx λx J=>dS (a5 x (ad x J))
    have a4:∀ x∈c.args.toList.map (au st),eS st st' x.2:=by
     intro x J;obtain⟨y,hy,rfl⟩:=BV.1 J;exact qi H (bf (ad y hy))
    simp only[e1,e2];split
    ·rename_i g a3 Z;refine tR hT hE ?_ b0 b5;intro x J;rcases BL.1 J with J|J
     ·exact a4 x J
     ·obtain⟨b,hb,rfl⟩:=BV.1 J;have hf:=qi H (bf b3);rw[qQ Z (by simp)]at hf;exact pe hf _ (BV.2 ⟨b,hb,rfl⟩)
    ·rename_i g a3 Z;refine tR hT hE ?_ b0 b5;intro x J;rcases BL.1 J with J|J
     ·exact a4 x J
     ·obtain⟨cp,bn,rfl⟩:=BV.1 J;exact nG _ (BV.2 ⟨cp,bn,rfl⟩)
    ·rename_i As B φ Z;rw[rM As _ (λx J q O=>(a4 x J).d1 q (fI O))];simp only[hw]
    ·rfl
   |builtin b =>
    simp only[hc]at H;have hT:=H TMP (BQ ..);have H:=λq O=>H q (BP _ O)
    have ad:∀ x∈c.args.toList,x∈(Op.call c).operands:=λx J=>by
     simp only[Op.operands,Call.operands,hc,DC];exact .inr (by simpa using J)
    have J:∀ x∈c.args.toList,one st' x=one st x/\∀ q∈aw [one st x],st' q=st q:=λx J=>by
     have:=dt H (bf (ad x J));exact⟨dC this.1,λq O=>this.2 q (ju O)⟩
    cases b with
    |len =>
     dsimp only;split
     ·rename_i x a1;have h1:=J x (by rw[a1];simp);simp only[h1.1,ci h1.2,hw]
     ·rfl
    |append =>
     dsimp only;split
     ·rename_i x y t u a1 _;have h1:=J x (by rw[a1];simp);have h2:=J y (by rw[a1];simp);split
      ·rw[h1.1,h2.1,wI hT h1.2 h2.2 b0]
      ·rfl
     ·rfl
    |min =>
     dsimp only;split
     ·rename_i x y a1;rw[(J x (by rw[a1];simp)).1,(J y (by rw[a1];simp)).1];simp only[hw]
     ·rfl
    |max =>
     dsimp only;split
     ·rename_i x y a1;rw[(J x (by rw[a1];simp)).1,(J y (by rw[a1];simp)).1];simp only[hw]
     ·rfl
    |_=>rfl
   |invoke x n=>rfl
 |_=>simp only[act,I]
end
section
variable {P:Program} {V:Env} {Γ:List Ctr} {T:TypeId->TI} {st st':St} {o:Oper} {R:Type} {all:Array Oper}
def mC (Γ:List Ctr)(T:TypeId->TI)(all:Array Oper)(o:Oper)(st:St)(U:Upd):Prop :=
 match o.guard with
 |none=>act Γ T o st some=some U
 |some (j,r)=>∃ t,(all[j]?).bind (·.dst)=some t /\
  ((∃ b,(st t).sh=.one/\(st t).ls=[.bool b]/\((b=r/\act Γ T o st some=some U)\/(b≠r/\U=eP st o)))\/((st t).sh=.und/\U=eP st o))
def jR (Γ:List Ctr)(T:TypeId->TI)(all:Array Oper)(o:Oper)(st:St)(U:Upd)(t:cJ):Prop :=
 ((∀ q∈U.map (·.1),q∈t.wr\/q∈t.cw)/\(∀ q∈t.wr,q∈U.map (·.1))/\∀ q,q∈U.map (·.1)->q∉t.wr->bK (ac U st q)=bK (st q))/\match o.guard with
 |none=>act Γ T o st some=some U/\(∀ q∈fy st o,q∈t.rd)/\∀ q∈e8 st o.op,q∈t.hd
 |some (j,r)=>∃ s,(all[j]?).bind (·.dst)=some s/\s∈t.rd /\
  ((∃ b,(st s).sh=.one/\(st s).ls=[.bool b]/\((b=r/\act Γ T o st some=some U/\(∀ q∈fy st o,q∈t.rd)/\∀ q∈e8 st o.op,q∈t.hd)\/(b≠r/\U=eP st o/\∀ d,o.dst=some d->d∈t.wr))) \/
   ((st s).sh=.und/\U=eP st o/\∀ d,o.dst=some d->d∈t.wr))
theorem tS {α:Type}:∀ {l:List α} {j:Nat} {x:α},l[j]?=some x->l.set j x=l
 |[],_,_,h=>by simp at h
 |y::l,0,x,h=>by simp at h;subst h;rfl
 |y::l,j+1,x,h=>by rw[C5,tS (by simpa using h)]
theorem AO {U:Upd}(h:act Γ T o st some=some U):∀ q∈d5 st o,bK (ac U st q)=bK (st q):=by
  intro q z;unfold d5 at z;split at z
  · rename_i t x y J
    split at z
    · rename_i r j a1 i sz off hx
      simp only[CK]at z;subst z;simp only[act,wrU,J]at h;split at h
      · cases h
      · cases Z:BT (au st y).2.length (T t).cells&&decide ((au st y).1=bi (T t).agg)&&!decide ((T t).cells=0) with
        |false=>simp[Z]at h
        |true =>
          simp only[Z,cond_true,hx]at h;split at h
          · rename_i p hh E e xs hd
            cases M:BT sz e.cells&&decide (off+(au st y).2.length<=e.cells)&&sb q with
            |false=>simp[M]at h
            |true =>
              simp only[M,cond_true]at h;obtain⟨_,hl⟩:=fj hd (by simp);have u:∀ (p':Bool) (H:Option (Nat×Nat)) (v:e.den) (X:Upd),bK (ac ((q,⟨(st q).ver,(st q).sh,aT (st q).ls j (.own p' H E e (xs.set i v))⟩)::X) st q)=bK (st q):=by
                intro p' H v X;rw[aQ,bm];simp only[bK,aT];rw[List.map_set,tS];rw[C8,hl];simp[jE]
              unfold gH at h;obtain⟨a0,_,h⟩:=CI.1 h;split at h
              · rename_i t _
                cases I:t.rest.isEmpty&&a7 t.kill&&dz t.frz t.kill&&!((t.kill++t.frz).any λk=>BT k.1 q) with
                |false=>rw[I]at h;cases h
                |true =>
                  simp only[I,cond_true]at h;cases hh with
                  |none =>
                    simp only[BK]at h;rw[<- h];exact u _ _ _ _
                  |some hp =>
                    obtain⟨hi,O⟩:=hp;simp only at h;cases Y:Cw off O&&Cp O (off+(au st y).2.length) with
                    |false =>
                      rw[Y]at h;simp only[cond_false,BK]at h;rw[<- h];exact u _ _ _ _
                    |true =>
                      rw[Y]at h;simp only[cond_true]at h;cases h2:BT i hi with
                      |false=>rw[h2]at h;cases h
                      |true =>
                        rw[h2]at h;simp only[cond_true,BK]at h;rw[<- h];exact u _ _ _ _
              · cases h
          · cases h
    · simp at z
  · simp at z
theorem pg {t:Nat}{b:Bool}(u:(st t).sh=.one)(r:(st t).ls=[.bool b]):lit st t b=st:=by
 funext q;unfold lit;rcases aj t q ⟨(st t).ver,.one,[.bool b]⟩ st with ⟨rfl,e⟩|⟨_,e⟩
 ·rw[e,<- u,<- r]
 ·exact e
theorem wL {U:Upd}(h:act Γ T o st some=some U):(∀ q∈U.map (·.1),q∈(U.map (·.1)).filter (λq=>!((d5 st o).any (BT q)))\/q∈d5 st o)/\(∀ q∈(U.map (·.1)).filter (λq=>!((d5 st o).any (BT q))),q∈U.map (·.1)) /\
  ∀ q,q∈U.map (·.1)->q∉(U.map (·.1)).filter (λq=>!((d5 st o).any (BT q)))->bK (ac U st q)=bK (st q):=by
 have r:∀ q,(d5 st o).any (BT q)=true->q∈d5 st o:=λq u=>by
  obtain⟨x,z,H⟩:=Ca.1 u;rw[BR H];exact z
 refine⟨λq u=>?_,λq u=>(CV.1 u).1,λq u I=>?_⟩
 ·cases y:(d5 st o).any (BT q) with
  |true=>exact .inr (r q y)
  |false=>exact .inl (CV.2 ⟨u,by rw[y];rfl⟩)
 ·refine AO h q (r q ?_);cases y:(d5 st o).any (BT q) with
  |true=>rfl
  |false=>exact absurd (CV.2 ⟨u,by rw[y];rfl⟩) I
theorem AP {κ:St->cJ->Option R}{r:R}(h:opK Γ T all o st κ=some r):∃ U t,jR Γ T all o st U t/\κ (ac U st) t=some r:=by
 have Y:∀ (J:List Nat),act Γ T o st (λU=>κ (ac U st) ⟨J++fy st o,e8 st o.op,(U.map (·.1)).filter (λq=>!((d5 st o).any (BT q))),d5 st o⟩)=some r ->
   ∃ U,act Γ T o st some=some U/\κ (ac U st) ⟨J++fy st o,e8 st o.op,(U.map (·.1)).filter (λq=>!((d5 st o).any (BT q))),d5 st o⟩=some r:=by
  intro J h;rw[tK]at h;obtain⟨U,M,X⟩:=CI.1 h;exact⟨U,M,X⟩
 have u:((∀ q∈(eP st o).map (·.1),q∈o.dst.toList\/q∈([]:List Nat))/\(∀ q∈o.dst.toList,q∈(eP st o).map (·.1))/\∀ q,q∈(eP st o).map (·.1)->q∉o.dst.toList->bK (ac (eP st o) st q)=bK (st q)):=by
  unfold eP;cases o.dst with
  |none=>simp
  |some d=>simp
 unfold opK at h;unfold jR;cases hg:o.guard with
 |none =>
  simp only[hg]at h;obtain⟨U,M,X⟩:=Y [] h;exact⟨U,_,⟨wL M,M,λq H=>by simpa using H,λq H=>H⟩,X⟩
 |some jw =>
  obtain⟨j,O⟩:=jw;simp only[hg]at h;split at h
  ·rename_i t Z;have I:∀ d,o.dst=some d->d∈o.dst.toList:=λd hd=>by simp[hd]
   split at h
   ·rename_i b y z;have hl:∀ b',b'=b->lit st t b'=st:=λb' e=>pg y (by rw[z,e])
    cases b with
    |true =>
     simp only[cond_true,hl true rfl]at h;cases O with
     |true =>
      simp only[cond_true]at h;obtain⟨U,M,X⟩:=Y [t] h;exact⟨U,_,⟨wL M,t,Z,by simp,.inl ⟨true,y,z,.inl ⟨rfl,M,λq H=>BO _ H,λq H=>H⟩⟩⟩,X⟩
     |false =>
      simp only[cond_false]at h;exact⟨eP st o,_,⟨u,t,Z,by simp,.inl ⟨true,y,z,.inr ⟨by simp,rfl,I⟩⟩⟩,h⟩
    |false =>
     simp only[cond_false,hl false rfl]at h;cases O with
     |true =>
      simp only[cond_true]at h;exact⟨eP st o,_,⟨u,t,Z,by simp,.inl ⟨false,y,z,.inr ⟨by simp,rfl,I⟩⟩⟩,h⟩
     |false =>
      simp only[cond_false]at h;obtain⟨U,M,X⟩:=Y [t] h;exact⟨U,_,⟨wL M,t,Z,by simp,.inl ⟨false,y,z,.inl ⟨rfl,M,λq H=>BO _ H,λq H=>H⟩⟩⟩,X⟩
   ·rename_i y;exact⟨eP st o,_,⟨u,t,Z,by simp,.inr ⟨y,rfl,I⟩⟩,h⟩
   ·cases h
  ·cases h
theorem vr {U:Upd}(e:U=eP st o)(u:∀ d,o.dst=some d->st' d=st d):U=eP st' o:=by
 rw[e];unfold eP;cases r:o.dst with
 |none=>rfl
 |some d=>simp only[u d r]
theorem jR.frame {U:Upd}{t:cJ}(h:jR Γ T all o st U t)(u:∀ q,q∈t.rd\/q∈t.wr->st' q=st q)(hh:∀ q∈t.hd,bK (st' q)=bK (st q)):mC Γ T all o st' U:=by
 obtain⟨_,h⟩:=h;have r:act Γ T o st some=some U->(∀ q∈fy st o,q∈t.rd)->(∀ q∈e8 st o.op,q∈t.hd)->act Γ T o st' some=some U:=by
  intro I O Z;rw[BA (λq M=>u q (.inl (O q M))) (λq M=>hh q (Z q M))];exact I
 unfold mC;cases hg:o.guard with
 |none =>
  rw[hg]at h;exact r h.1 h.2.1 h.2.2
 |some jw =>
  obtain⟨j,a2⟩:=jw;rw[hg]at h;obtain⟨s,I,O,Z⟩:=h;have a1:=u s (.inl O);refine⟨s,I,?_⟩;rw[a1];rcases Z with ⟨b,h4,H,Y⟩|⟨h4,H,Y⟩
  ·refine .inl ⟨b,h4,H,?_⟩;rcases Y with ⟨z,X,y,a0⟩|⟨z,X,y⟩
   ·exact .inl ⟨z,r X y a0⟩
   ·exact .inr ⟨z,vr X (λd J=>u d (.inr (y d J)))⟩
  ·exact .inr ⟨h4,vr H (λd J=>u d (.inr (Y d J)))⟩
theorem wM (hV:ay V)(hT:TOk P T)(hΓ:∀ c∈Γ,bO P c){ops:Array Oper}{i:Nat}(hi:ops[i]?=some o)(J:bN V o)(z:∀ j u,o.guard=some (j,u)->∀ s,(ops[j]?).bind (·.dst)=some s->s<V.nt)
  {U:Upd} (h:mC Γ T ops o st U) {a:Act} {w:World} (H:Rel P V st a w) {K:Act->World->Prop} {Q:Exit->Act->World->Prop} (hK:∀ a' w',Rel P V (ac U st) a' w'->K a' w'):wpOp P ops Q i K a w:=by
 obtain⟨W,H⟩:=H;unfold wpOp;simp only[hi];have a0:act Γ T o st some=some U->o.wp P a w K Q:=by
  intro Z;obtain⟨U',h2,h3⟩:=Bz hV hT hΓ J Z;cases h2;exact h3 W a w H K Q hK
 have y:U=eP st o->K (a.put o.dst undef) w:=by
  intro e;refine hK _ _ ?_;subst e;unfold eP;cases hd:o.dst with
  |none=>exact⟨W,H⟩
  |some d=>exact H.putLs hV d (J d hd).1 (J d hd).2 _ .und [] undef [] (CT _) ⟨rfl,rfl⟩ trivial
 unfold mC at h;cases M:o.guard with
 |none =>
  rw[M]at h;have O:Region.wanted o (yielded ops a.tmps)=true:=by simp[Region.wanted,M]
  rw[if_pos O];exact .inl (a0 h)
 |some jw =>
  obtain⟨j,u⟩:=jw;rw[M]at h;obtain⟨s,Z,h2⟩:=h;have Y:=z j u M s Z;have a2:s<GH:=C6 Y hV.nt;have r:=H.slots s a2;have a3:s<a.tmps.size:=by rw[H.nt];exact Y
  have I:a.tmps[s]?=some (a.tmps.getD s undef):=by
   rw[BX,BW a3];rfl
  rcases h2 with ⟨b,h3,h4,h5⟩|⟨h3,h5⟩
  ·have a1:=H.len s;rw[h4]at a1;rw[h3]at r;have r:W.cs s=[a.tmps.getD s undef]:=r;have X:=H.leaf s 0 (.bool b) (a.tmps.getD s undef) (by rw[h4];rfl) (by rw[r];rfl);have X:a.tmps.getD s undef=.bool b:=X;have hy:yielded ops a.tmps j=some b:=by simp[yielded,Z,I,X]
   rcases h5 with ⟨rfl,h6⟩|⟨h6,h7⟩
   ·have O:Region.wanted o (yielded ops a.tmps)=true:=by simp[Region.wanted,M,hy]
    rw[if_pos O];exact .inl (a0 h6)
   ·have O:Region.wanted o (yielded ops a.tmps)=false:=by
     simp only[Region.wanted,M,hy];cases b <;> cases u <;> simp at h6 <;> rfl
    rw[O];exact y h7
  ·rw[h3]at r;obtain⟨X,_⟩:=r;have hy:yielded ops a.tmps j=none:=by
    unfold yielded;rw[Z,CP,I,X];rfl
   have O:Region.wanted o (yielded ops a.tmps)=false:=by simp[Region.wanted,M,hy]
   rw[O];exact y h5
def Run (Γ:List Ctr)(T:TypeId->TI)(all:Array Oper):St->List Oper->List Upd->List cJ->St->Prop
 |st,[],[],[],st'=>st'=st
 |st,o::y,U::r,t::u,st'=>jR Γ T all o st U t/\Run Γ T all (ac U st) y r u st'
 |_,_,_,_,_=>False
theorem ph:∀ (H:List Oper) (st:St) (y:List cJ) (z:St->List cJ->Option R) (r:R),qn Γ T all H st y z=some r ->
  ∃ I u st',Run Γ T all st H I u st'/\z st' (y++u)=some r
 |[],st,y,z,r,h=>⟨[],[],st,rfl,by simpa[qn]using h⟩
 |o::H,st,y,z,r,h=>by
  simp only[qn]at h;obtain⟨U,t,X,O⟩:=AP h;obtain⟨I,u,st',M,J⟩:=ph H (ac U st) (y++[t]) z r O;exact⟨U::I,t::u,st',⟨X,M⟩,by rw[CH]at J;exact J⟩
theorem jR.res {U:Upd}{t:cJ}(h:jR Γ T all o st U t):mC Γ T all o st U:=h.frame (λ_ _=>rfl) (λ_ _=>rfl)
theorem vt (Z:ay V)(X:TOk P T)(hΓ:∀ c∈Γ,bO P c){ops:Array Oper}(u:∀ (i:Nat) (o:Oper),ops[i]?=some o->bN V o)
  (r:∀ (i:Nat) (o:Oper),ops[i]?=some o->∀ j z,o.guard=some (j,z)->∀ s,(ops[j]?).bind (·.dst)=some s->s<V.nt) {Q:Exit->Act->World->Prop} :
  ∀ (y:List Oper) (k:Nat) (st:St) (us:List Upd) (O:List cJ) (st':St),ops.toList.drop k=y->Run Γ T ops st y us O st'->(∀ a w,Rel P V st' a w->Q .normal a w) ->
   ∀ a w,Rel P V st a w->wpOps P ops Q (List.range' k y.length) a w
 |[],k,st,[],[],st',_,h,H,a,w,I=>by
  have h:st'=st:=h;subst h;exact H a w I
 |o::y,k,st,U::us,t::O,st',Y,h,H,a,w,I=>by
  obtain⟨h1,h2⟩:=h;have J:ops[k]?=some o:=by
   have:(ops.toList.drop k)[0]?=some o:=by rw[Y];rfl
   rw[List.getElem?_drop]at this;simpa using this
  rw[CQ,List.range'_succ,wpOps_cons];refine wM Z X hΓ J (u k o J) (r k o J) h1.res I (λa' w' M=>?_);exact vt Z X hΓ u r y (k+1) (ac U st) us O st' (by rw[<- Ct,Y];rfl) h2 H a' w' M
end
section
variable {P:Program} {V:Env} {Γ:List Ctr} {T:TypeId->TI} {st st':St} {o:Oper} {R:Type} {all:Array Oper}
def de (D:Nat->Bool):List Upd->St->St
 |[],st=>st
 |U::r,st=>de (λj=>D (j+1)) r (bif D 0 then ac U st else st)
theorem jv {q:Nat}:∀ {U:Upd} (s u:St),q∈U.map (·.1)->ac U s q=ac U u q
 |[],_,_,h=>by simp at h
 |(r,c)::U,s,u,h=>by
  simp only[ac];cases y:BT q r with
  |true=>rfl
  |false =>
   simp only[cond_false];refine jv s u ?_;simp only[CB,BY]at h;rcases h with rfl|h
   ·simp at y
   ·exact h
theorem eO {q:Nat}:∀ {U:Upd} (s:St),q∉U.map (·.1)->ac U s q=s q
 |[],_,_=>rfl
 |(r,c)::U,s,h=>by
  simp only[CB,BY,not_or]at h;have u:BT q r=false:=by
   cases u:BT q r with
   |false=>rfl
   |true=>exact absurd (BR u) h.1
  simp only[ac,u,cond_false];exact eO s h.2
theorem yk {U r:Upd}(h:∀ q,q∈U.map (·.1)->q∉r.map (·.1))(s:St):ac r (ac U s)=ac U (ac r s):=by
 funext q;by_cases u:q∈U.map (·.1)
 ·rw[eO _ (h q u)];exact jv _ _ u
 ·rw[eO (U:=U) _ u];by_cases y:q∈r.map (·.1)
  ·exact jv _ _ y
  ·rw[eO _ y,eO _ y,eO _ u]
theorem mD:∀ {us:List Upd} {D D':Nat->Bool} {s:St},(∀ j,j<us.length->D j=D' j)->de D us s=de D' us s
 |[],_,_,_,_=>rfl
 |U::us,D,D',s,h=>by
  simp only[de];rw[h 0 (by simp)];exact mD (λj r=>h (j+1) (by simpa using r))
theorem nI:∀ {us:List Upd} {D:Nat->Bool} {s:St},(∀ j,D j=false)->de D us s=s
 |[],_,_,_=>rfl
 |U::us,D,s,h=>by
  simp only[de,h 0,cond_false];exact nI (λj=>h (j+1))
theorem mE {q:Nat}:∀ {us:List Upd} {D D':Nat->Bool} {s r:St},s q=r q->(∀ (j:Nat) (U:Upd),us[j]?=some U->q∈U.map (·.1)->D j=D' j)->de D us s q=de D' us r q
 |[],_,_,_,_,h,_=>h
 |U::us,D,D',s,r,h,H=>by
  simp only[de];refine mE ?_ (λj y J I=>H (j+1) y (by simpa using J) I);by_cases u:q∈U.map (·.1)
  ·rw[H 0 U rfl u];cases D' 0 with
   |true=>exact jv _ _ u
   |false=>exact h
  ·have M:∀ b:Bool,(bif b then ac U s else s) q=s q:=by intro b;cases b <;> simp[eO _ u]
   have z:∀ b:Bool,(bif b then ac U r else r) q=r q:=by intro b;cases b <;> simp[eO _ u]
   rw[M,z,h]
theorem nJ {U:Upd}:∀ {us:List Upd} {D:Nat->Bool} {s:St},(∀ (j:Nat) (u:Upd),us[j]?=some u->D j=true->∀ q,q∈U.map (·.1)->q∉u.map (·.1))->de D us (ac U s)=ac U (de D us s)
 |[],_,_,_=>rfl
 |u::us,D,s,h=>by
  simp only[de];cases H:D 0 with
  |true =>
   simp only[cond_true];rw[yk (h 0 u rfl H)];exact nJ (λj r z y=>h (j+1) r (by simpa using z) y)
  |false =>
   simp only[cond_false];exact nJ (λj r z y=>h (j+1) r (by simpa using z) y)
theorem oG {U:Upd}:∀ {us:List Upd} {i:Nat} {D D':Nat->Bool} {s:St},us[i]?=some U->D i=false->(∀ j,D' j=(D j||BT j i)) ->
  (∀ (j:Nat) (u:Upd),us[j]?=some u->i<j->D j=true->∀ q,q∈U.map (·.1)->q∉u.map (·.1))->de D' us s=ac U (de D us s)
 |[],i,_,_,_,h,_,_,_=>by simp at h
 |V::us,0,D,D',s,h,z,r,H=>by
  simp at h;subst h;simp only[de];have y:D' 0=true:=by rw[r 0];simp
  rw[y,z];simp only[cond_true,cond_false];have e:de (λj=>D' (j+1)) us (ac V s)=de (λj=>D (j+1)) us (ac V s):=mD (λj _=>by rw[r (j+1)];simp[BT]);rw[e];exact nJ (λj u I J=>H (j+1) u (by simpa using I) (by omega) J)
 |V::us,i+1,D,D',s,h,z,r,H=>by
  simp only[de];have y:D' 0=D 0:=by rw[r 0];simp[BT]
  rw[y];exact oG (i:=i) (by simpa using h) z (λj=>by rw[r (j+1)];simp[BT]) (λj u I J M=>H (j+1) u (by simpa using I) (by omega) M)
theorem qR:∀ {r:List Oper} {us:List Upd} {y:List cJ} {s H:St},Run Γ T all s r us y H->∀ (i:Nat) (o:Oper),r[i]?=some o ->
  ∃ U t,us[i]?=some U/\y[i]?=some t/\jR Γ T all o (de (λj=>decide (j<i)) us s) U t
 |[],_,_,_,_,_,i,o,h=>by simp at h
 |z::r,[],_,_,_,h,_,_,_=>h.elim
 |z::r,_::_,[],_,_,h,_,_,_=>h.elim
 |z::r,U::us,t::y,s,H,h,0,o,u=>by
  simp at u;subst u;exact⟨U,t,rfl,rfl,by rw[nI (λj=>by simp)];exact h.1⟩
 |z::r,U::us,t::y,s,H,h,i+1,o,u=>by
  obtain⟨O,I,J,M,X⟩:=qR h.2 i o (by simpa using u);refine⟨O,I,by simpa using J,by simpa using M,?_⟩;simp only[de];have e:(λj=>decide (j+1<i+1))=λj=>decide (j<i):=by funext j;simp
  rw[e];simpa using X
theorem vu:∀ {r:List Oper} {us:List Upd} {y:List cJ} {s u:St},Run Γ T all s r us y u->us.length=r.length/\y.length=r.length/\u=de (λ_=>true) us s
 |[],[],[],_,_,h=>⟨rfl,rfl,h⟩
 |[],_::_,_,_,_,h=>h.elim
 |[],[],_::_,_,_,h=>h.elim
 |_::_,[],_,_,_,h=>h.elim
 |_::_,_::_,[],_,_,h=>h.elim
 |o::r,U::us,t::y,s,u,h=>by
  obtain⟨I,H,z⟩:=vu h.2;exact⟨by simp[I],by simp[H],by simpa[de]using z⟩
theorem qS {q:Nat}:∀ {os:List Oper} {us:List Upd} {O:List cJ} {z s':St} {D:Nat->Bool} {F:Nat->Bool} {s sF:St} {B:Prop},Run Γ T all z os us O s'->(∀ (j:Nat) (t:cJ),O[j]?=some t->F j=decide (q∈t.wr)) ->
  bK (s q)=bK (sF q)->(B->bK (sF q)=bK (z q)) ->
  (∀ (j:Nat) (t:cJ) (U:Upd),O[j]?=some t->us[j]?=some U->D j=true->q∉t.wr->q∈U.map (·.1)->B/\∀ (k:Nat) (t':cJ),k<j->O[k]?=some t'->q∈t'.wr->D k=true) ->
  bK (de D us s q)=bK (de (λj=>D j&&F j) us sF q)
 |[],[],[],_,_,_,_,_,_,_,_,_,J,_,_=>J
 |[],_::_,_,_,_,_,_,_,_,_,h,_,_,_,_=>h.elim
 |[],[],_::_,_,_,_,_,_,_,_,h,_,_,_,_=>h.elim
 |_::_,[],_,_,_,_,_,_,_,_,h,_,_,_,_=>h.elim
 |_::_,_::_,[],_,_,_,_,_,_,_,h,_,_,_,_=>h.elim
 |o::os,U::us,t::O,z,s',D,F,s,sF,B,h,hF,J,h2,I=>by
  obtain⟨⟨⟨k1,k2,k3⟩,_⟩,M⟩:=h;have y:=hF 0 t rfl;simp only[de];refine qS (F:=λj=>F (j+1)) (B:=B/\(q∈t.wr->D 0=true)) M (λj t' X=>hF (j+1) t' (by simpa using X)) ?_ ?_ ?_
  ·by_cases r:q∈U.map (·.1)
   ·by_cases u:q∈t.wr
    ·rw[y,decide_eq_true u,Cm];cases D 0 with
     |true=>simp only[cond_true];rw[jv s sF r]
     |false=>exact J
    ·rw[y,decide_eq_false u,Cf];simp only[cond_false];cases H:D 0 with
     |true =>
      simp only[cond_true];rw[jv s z r,k3 q r u];exact (h2 (I 0 t U rfl rfl H u r).1).symm
     |false=>exact J
   ·have e:∀ (b:Bool) (x:St),(bif b then ac U x else x) q=x q:=by intro b x;cases b <;> simp[eO _ r]
    rw[e,e];exact J
  ·rintro⟨hB,H⟩;by_cases r:q∈U.map (·.1)
   ·by_cases u:q∈t.wr
    ·rw[y,decide_eq_true u,Cm,H u];simp only[cond_true];rw[jv sF z r]
    ·rw[y,decide_eq_false u,Cf];simp only[cond_false];rw[k3 q r u];exact h2 hB
   ·have e:∀ (b:Bool) (x:St),(bif b then ac U x else x) q=x q:=by intro b x;cases b <;> simp[eO _ r]
    rw[e,eO _ r];exact h2 hB
  ·intro j t' U' X hU H u r;obtain⟨g1,g2⟩:=I (j+1) t' U' (by simpa using X) (by simpa using hU) H u r;exact⟨⟨g1,λZ=>g2 0 t (by omega) rfl Z⟩,λk t2 hk Y a0=>g2 (k+1) t2 (by omega) (by simpa using Y) a0⟩
theorem rN {f:Nat->Nat}{i:Nat}:∀ (l:List Edge) (s:Nat),(l.foldl (λs e=>bif Region.binds .any e then s ||| 2 ^ e.on ||| f e.on else s) s).testBit i=true ->
  s.testBit i=true\/∃ e∈l,Region.binds .any e=true/\(i=e.on\/(f e.on).testBit i=true)
 |[],s,h=>.inl h
 |e::l,s,h=>by
  simp only[DH]at h;rcases rN l _ h with h|⟨y,u,z⟩
  ·cases r:Region.binds .any e with
   |false=>rw[r]at h;exact .inl h
   |true =>
    rw[r]at h;simp only[cond_true,Nat.testBit_or,Cb]at h;rcases h with (h|h)|h
    ·exact .inl h
    ·refine .inr ⟨e,BQ ..,r,.inl ?_⟩;rw[Nat.testBit_two_pow]at h;exact (of_decide_eq_true h).symm
    ·exact .inr ⟨e,BQ ..,r,.inr h⟩
  ·exact .inr ⟨y,BP _ u,z⟩
theorem tT:∀ (z:List Oper) (r:List Nat),(∀ j,j<r.length->(jS z r).getD j 0=r.getD j 0) /\
  ∀ (k:Nat) (o:Oper),z[k]?=some o->∃ u:List Nat,u.length=r.length+k/\(∀ j,j<u.length->u.getD j 0=(jS z r).getD j 0) /\
   (jS z r).getD (r.length+k) 0=o.after.toList.foldl (λs e=>bif Region.binds .any e then s ||| 2 ^ e.on ||| u.getD e.on 0 else s) 0
 |[],r=>⟨λ_ _=>rfl,λk o h=>by simp at h⟩
 |o::z,r=>by
  obtain⟨I,O⟩:=tT z (r++[o.after.toList.foldl (λs e=>bif Region.binds .any e then s ||| 2 ^ e.on ||| r.getD e.on 0 else s) 0]);have y:∀ j,j<r.length->(jS (o::z) r).getD j 0=r.getD j 0:=by
   intro j H;simp only[jS];rw[I j (by simp;omega)];simp[BZ,CE H]
  refine⟨y,λk Y h=>?_⟩;cases k with
  |zero =>
   simp at h;subst h;refine⟨r,rfl,λj H=>(y j H).symm,?_⟩;simp only[jS];rw[Nat.add_zero,I r.length (by simp)];simp[BZ]
  |succ k =>
   obtain⟨u,J,M,X⟩:=O k Y (by simpa using h);refine⟨u,by simp at J;omega,λj H=>M j H,?_⟩;simp only[jS];have e:r.length+(k+1)=(r++[o.after.toList.foldl (λs e=>bif Region.binds .any e then s ||| 2 ^ e.on ||| r.getD e.on 0 else s) 0]).length+k:=by simp;omega
   rw[e];exact X
theorem jF {ops:Array Oper}{D:Nat->Prop}(z:∀ (j:Nat) (o:Oper),ops[j]?=some o->D j->∀ e∈o.after.toList,Region.binds .any e=true->D e.on) :
  ∀ (n j:Nat),j<n->∀ (o:Oper),ops[j]?=some o->(∀ e∈o.after.toList,Region.binds .any e=true->D e.on)->∀ i,((jS ops.toList []).getD j 0).testBit i=true->D i
 |0,_,h,_,_,_,_,_=>by omega
 |n+1,j,hj,o,I,M,i,O=>by
  obtain⟨r,h1,h2,X⟩:=(tT ops.toList []).2 j o (by simpa using I);simp only[List.length_nil,CU]at h1 X;rw[X]at O;rcases rN (f:=λk=>r.getD k 0) _ _ O with h|⟨e,Y,J,y⟩
  ·simp at h
  ·rcases y with rfl|y
   ·exact M e Y J
   ·have H:e.on<r.length:=by
     apply CF;intro hn;have:r.getD e.on 0=0:=by
      rw[BZ,Cr (by omega)];rfl
     rw[this]at y;simp at y
    rw[h2 _ H]at y;have Z:=M e Y J;have u:e.on<ops.size:=by
     have:=(Cg.1 I).1;omega
    exact jF z n e.on (by omega) ops[e.on] (BW u) (z e.on _ (BW u) Z) i y
theorem fV {a b:List Nat}(h:lZ a b=false){q:Nat}(r:q∈a):q∉b:=by
 intro u;unfold lZ at h;rw[Ck]at h;have:=h q r;simp only[Ca,not_exists,not_and]at this;exact this q u (by simp)
theorem ly {r:List Nat}{u:List cJ}(h:pu r u=true){i j:Nat}(z:i<j){x y:cJ}(M:u[i]?=some x)(I:u[j]?=some y):(r.getD j 0).testBit i=true\/x.apart y=true:=by
 unfold pu at h;rw[CA]at h;have O:=(BU.1 I).1;have H:=h j (by simpa using O);rw[CA]at H;have J:=H i (by simpa using z);simp only[M,I,Cb]at J;exact J
theorem qj {p p':Nat->Bool}{i:Nat}(I:p i=true)(r:p' i=false)(h:∀ j,j≠i->p' j=p j):∀ (l:List Nat),l.Nodup->i∈l->l.countP p'+1=l.countP p
 |[],_,z=>by simp at z
 |x::l,H,z=>by
  rw[CL]at H;by_cases u:x=i
  ·subst u;have e:l.countP p'=l.countP p:=by
    apply List.countP_congr;intro y J;rw[h y (λe=>H.1 (e ▸ J))]
   simp[I,r,e]
  ·have M:=qj I r h l H.2 ((BY.1 z).resolve_left (λe=>u e.symm));simp only[DD,h x u];omega
theorem BB (hV:ay V)(hT:TOk P T)(hΓ:∀ c∈Γ,bO P c){ops:Array Oper}(eb:∀ (i:Nat) (o:Oper),ops[i]?=some o->bN V o)
  (b9:∀ (i:Nat) (o:Oper),ops[i]?=some o->∀ j d2,o.guard=some (j,d2)->∀ s,(ops[j]?).bind (·.dst)=some s->s<V.nt) {Q:Exit->Act->World->Prop}
  {us:List Upd} {ts:List cJ} {s0 s1:St} (a3:Run Γ T ops s0 ops.toList us ts s1) (a5:nO ops=true) (c2:pu (jS ops.toList []) ts=true) (hQ:∀ a w,Rel P V s1 a w->Q .normal a w) :
  ∀ (a0:Nat) (r:Array Bool) (a:Act) (w:World),r.size=ops.size->(DJ ops.size).countP (λi=>!r.getD i true)=a0 ->
   (∀ (j:Nat) (o:Oper),ops[j]?=some o->r.getD j false=true->∀ e∈o.after.toList,Region.binds .any e=true->r.getD e.on false=true) ->
   Rel P V (de (λj=>r.getD j false) us s0) a w->wpAny P .any ops Q a0 r a w:=by
 obtain⟨eg,ed,cu⟩:=vu a3;have ef:ops.toList.length=ops.size:=Cy;have ba:∀ (r:Array Bool),r.size=ops.size->Region.ready .any ops r=[]->∀ i,i<ops.size->r.getD i false=true:=by
  intro r a2 hr i;induction i using DI with
  |ind i ih =>
   intro hi;cases hl:r.getD i false with
   |true=>rfl
   |false =>
    exfalso;have e0:r.getD i true=false:=by
     rw[BX,BW (by omega)]at hl ⊢;exact hl
    have ho:ops[i]?=some ops[i]:=BW hi;have bx:i∈Region.ready .any ops r:=by
     unfold Region.ready;rw[CV];refine⟨by simpa using hi,?_⟩;rw[e0,ho];simp only[DK,C4,CD,DE];rw[CX];intro e he;cases e4:Region.binds .any e with
     |false=>rfl
     |true =>
      simp only[Bool.not_true,Bool.false_or];have bb:e.on<i:=by
       unfold nO at a5;rw[CA]at a5;have:=a5 i (by simpa using hi);simp only[ho]at this;rw[CA]at this;have:=this e (by simpa using he);simpa[e4]using this
      exact ih e.on bb (by omega)
    rw[hr]at bx;simp at bx
 have bn:∀ (r:Array Bool) (a:Act) (w:World),r.size=ops.size->Rel P V (de (λj=>r.getD j false) us s0) a w->Region.ready .any ops r=[]->Q .normal a w:=by
  intro r a w a2 hr bl;refine hQ a w ?_;rw[cu];have:de (λ_=>true) us s0=de (λj=>r.getD j false) us s0:=mD (λj J=>(ba r a2 bl j (by omega)).symm);rw[this];exact hr
 intro a0;induction a0 with
 |zero =>
  intro r a w a2 X b1 hr;have bl:Region.ready .any ops r=[]:=by
   unfold Region.ready;rw[List.filter_eq_nil_iff];intro i hi hc;rw[Cz]at X;have:=X i hi;simp only[BM]at hc;exact this hc.1
  exact⟨bl,bn r a w a2 hr bl⟩
 |succ a0 ih =>
  intro r a w a2 X b1 hr;refine⟨bn r a w a2 hr,λi hi=>?_⟩;unfold Region.ready at hi;rw[CV]at hi;obtain⟨ad,c3⟩:=hi;have ad:i<ops.size:=by simpa using ad
  have ho:ops[i]?=some ops[i]:=BW ad;rw[ho]at c3;simp only[BM,CO,CD,DE]at c3;obtain⟨b3,a6⟩:=c3;rw[CX]at a6;have Y:r.getD i false=false:=by
   rw[BX,BW (by omega)]at b3 ⊢;exact b3
  have cb:∀ e∈(ops[i]).after.toList,Region.binds .any e=true->r.getD e.on false=true:=by
   intro e he hb;have:=a6 e (by simpa using he);simpa[hb]using this
  obtain⟨U,t,hU,ht,b4⟩:=qR a3 i ops[i] (by simp);have b0:∀ (j:Nat) (o:Oper),ops[j]?=some o->(λk=>r.getD k false=true) j->∀ e∈o.after.toList,Region.binds .any e=true->(λk=>r.getD k false=true) e.on:=b1;obtain⟨e6,_,_⟩:=b4.1;have O:∀ (j:Nat) (M:Upd),us[j]?=some M->∃ H,ts[j]?=some H/\(∀ q∈M.map (·.1),q∈H.wr\/q∈H.cw)/\∀ q∈H.wr,q∈M.map (·.1):=by
   intro j M J;have a4:j<ops.size:=by
    have:=(BU.1 J).1;omega
   obtain⟨U2,t2,h1,Z,h3⟩:=qR a3 j ops[j] (by simp[a4]);rw[J]at h1;cases h1;exact⟨t2,Z,h3.1.1,h3.1.2.1⟩
  have dc:∀ (j:Nat) (M:Upd),us[j]?=some M->j≠i->r.getD j false≠decide (j<i)->∃ H,ts[j]?=some H/\(∀ q∈M.map (·.1),q∈H.wr\/q∈H.cw)/\(H.apart t=true\/t.apart H=true):=by
   intro j M J b5 u;obtain⟨H,h1,Z,_⟩:=O j M J;refine⟨H,h1,Z,?_⟩;rcases Nat.lt_or_gt_of_ne b5 with bb|e5
   ·have hl:r.getD j false=false:=by
     cases hl:r.getD j false with
     |false=>rfl
     |true=>rw[hl]at u;simp[bb]at u
    rcases ly c2 bb h1 ht with h3|h3
    ·have:=jF b0 (i+1) i (CT _) ops[i] ho cb j h3;rw[hl]at this;cases this
    ·exact .inl h3
   ·have hl:r.getD j false=true:=by
     cases hl:r.getD j false with
     |true=>rfl
     |false=>rw[hl]at u;simp at u;omega
    have a4:j<ops.size:=by
     have:=(BU.1 J).1;omega
    have b2:ops[j]?=some ops[j]:=BW a4;rcases ly c2 e5 ht h1 with h3|h3
    ·have:=jF b0 (j+1) j (CT _) ops[j] b2 (b1 j _ b2 hl) i h3;rw[Y]at this;cases this
    ·exact .inr h3
  have a1:∀ (x y:cJ),x.apart y=true->(∀ q,q∈x.wr\/q∈x.cw->(q∉y.wr/\q∉y.cw)/\q∉y.rd)/\(∀ q,q∈y.wr\/q∈y.cw->(q∉x.wr/\q∉x.cw)/\q∉x.rd)/\(∀ q∈x.wr,q∉y.hd)/\∀ q∈y.wr,q∉x.hd:=by
   intro x y h;unfold cJ.apart at h;simp only[BM,CO]at h;obtain⟨⟨⟨⟨h1,Z⟩,h3⟩,h4⟩,h5⟩:=h;refine⟨λq I=>?_,λq I=>?_,λq I=>fV h4 I,λq I hx=>fV h5 hx I⟩
   ·have I:=BL.2 I;have:=fV h1 I;simp only[BL,not_or]at this;exact⟨this,fV Z I⟩
   ·have I:=BL.2 I;have:q∉x.wr++x.cw:=λhx=>fV h1 hx I
    simp only[BL,not_or]at this;exact⟨this,λhx=>fV h3 hx I⟩
  have c0:∀ (j:Nat) (M:Upd),us[j]?=some M->j≠i->r.getD j false≠decide (j<i)->∀ q∈M.map (·.1),(q∉t.wr/\q∉t.cw)/\q∉t.rd:=by
   intro j M J b5 u q I;obtain⟨H,_,h1,Z⟩:=dc j M J b5 u;rcases Z with Z|Z
   ·exact (a1 _ _ Z).1 q (h1 q I)
   ·exact (a1 _ _ Z).2.1 q (h1 q I)
  have c1:∀ (j:Nat) (H:cJ),ts[j]?=some H->j≠i->r.getD j false≠decide (j<i)->∀ q∈H.wr,q∉t.hd:=by
   intro j H J b5 u q I;have a4:j<us.length:=by
    have:=(BU.1 J).1;omega
   obtain⟨t2,h0,_,Z⟩:=dc j us[j] (B4 a4) b5 u;rw[J]at h0;cases h0;rcases Z with Z|Z
   ·exact (a1 _ _ Z).2.2.1 q I
   ·exact (a1 _ _ Z).2.2.2 q I
  have cy:mC Γ T ops ops[i] (de (λj=>r.getD j false) us s0) U:=by
   refine b4.frame (λq I=>?_) (λq I=>?_)
   ·refine mE rfl λj M J d3=>?_
    by_cases z:j=i
    ·subst z;rw[Y];simp
    ·apply CF;intro u;have:=c0 j M J z u q d3;rcases I with I|I
     ·exact this.2 I
     ·exact this.1.1 I
   ·have cx:∀ (j:Nat) (H:cJ),ts[j]?=some H->(λj=>match ts[j]? with|some H=>decide (q∈H.wr)|none=>false) j=decide (q∈H.wr):=λj H h=>by simp only[h]
    have e1:=qS (q:=q) (D:=λj=>r.getD j false) (F:=λj=>match ts[j]? with|some H=>decide (q∈H.wr)|none=>false) (s:=s0) (sF:=s0) (B:=True) a3 cx rfl (λ_=>rfl) (λj H M J hU hD hw cp=>by
     refine⟨trivial,λk t2 hk cc dd=>?_⟩;obtain⟨t3,h3,h4,_⟩:=O j M hU;rw[J]at h3;cases h3;have ec:=(h4 q cp).resolve_left hw;have a4:j<ops.size:=by
      have:=(BU.1 hU).1;omega
     have b2:ops[j]?=some ops[j]:=BW a4;rcases ly c2 hk cc J with h5|h5
     ·exact jF b0 (j+1) j (CT _) ops[j] b2 (b1 j _ b2 hD) k h5
     ·exact absurd ec ((a1 _ _ h5).1 q (.inl dd)).1.2)
    have e2:=qS (q:=q) (D:=λj=>decide (j<i)) (F:=λj=>match ts[j]? with|some H=>decide (q∈H.wr)|none=>false) (s:=s0) (sF:=s0) (B:=True) a3 cx rfl (λ_=>rfl) (λj H M J hU hD hw cp=>by
     refine⟨trivial,λk t2 hk cc dd=>?_⟩;have:=of_decide_eq_true hD;exact decide_eq_true (by omega))
    rw[e1,e2];congr 1;refine mE rfl λj M J d3=>?_
    obtain⟨H,h1,Z,_⟩:=O j M J;simp only[h1];by_cases hw:q∈H.wr
    ·rw[decide_eq_true hw,Cm,Cm];by_cases z:j=i
     ·subst z;rw[Y];simp
     ·apply CF;intro u;exact c1 j H h1 z u q hw I
    ·rw[decide_eq_false hw,Cf,Cf]
  refine wM hV hT hΓ ho (eb i _ ho) (b9 i _ ho) cy hr λa' w' e3=>?_
  have a9:∀ (b:Bool) (j:Nat),(r.setIfInBounds i true).getD j b=if j=i then true else r.getD j b:=by
   intro b j;simp only[BX,Array.getElem?_setIfInBounds];by_cases z:j=i
   ·subst z;simp[a2,ad]
   ·rw[if_neg (λe=>z e.symm),if_neg z]
  refine ih _ a' w' (by simpa using a2) ?_ ?_ ?_
  ·have:=qj (p:=λj=>!r.getD j true) (p':=λj=>!(r.setIfInBounds i true).getD j true) (i:=i) (by simp[b3]) (by simp[a9]) (λj J=>by simp[a9,J]) (DJ ops.size) List.nodup_range (by simpa using ad);omega
  ·intro j o' J c4 e he hb;rw[a9]at c4 ⊢;by_cases d4:e.on=i
   ·rw[if_pos d4]
   ·rw[if_neg d4];by_cases z:j=i
    ·subst z;rw[ho]at J;cases J;exact cb e he hb
    ·rw[if_neg z]at c4;exact b1 j o' J c4 e he hb
  ·have d1:=oG (U:=U) (us:=us) (i:=i) (D:=λj=>r.getD j false) (D':=λj=>(r.setIfInBounds i true).getD j false) (s:=s0) hU Y (λj=>by
     simp only[a9];by_cases z:j=i
     ·subst z;simp
     ·have:BT j i=false:=by
       cases hb:BT j i with
       |false=>rfl
       |true=>exact absurd (BR hb) z
      simp[z,this])
    (λj M J ej hD q I e7=>by
     have:=c0 j M J (by omega) (by rw[hD];simp;omega) q e7;exact (e6 q I).elim this.1.1 this.1.2)
   rw[d1];exact e3
theorem BC (hV:ay V)(hT:TOk P T)(hΓ:∀ c∈Γ,bO P c)(M:P.follows .mixedOrders=true){id:Nat}{ops:Array Oper}{z:Bool}(J:∀ (i:Nat) (o:Oper),ops[i]?=some o->bN V o)
  (u:∀ (i:Nat) (o:Oper),ops[i]?=some o->∀ j O,o.guard=some (j,O)->∀ s,(ops[j]?).bind (·.dst)=some s->s<V.nt) {Q:Exit->Act->World->Prop} {κ:St->Option R} {r:R}
  (h:regK Γ T ops z st κ=some r) (hκ:∀ H,κ H=some r->∀ a w,Rel P V H a w->Q .normal a w) {a:Act} {w:World} (Y:Rel P V st a w):(Code.region id ops z).wp P Q a w:=by
 unfold regK at h;cases z with
 |true =>
  simp only[cond_true]at h;obtain⟨us,Z,H,y,I⟩:=ph _ _ _ _ _ h;simp only[CJ]at I;cases X:nO ops&&pu (jS ops.toList []) Z with
  |false=>simp[X]at I
  |true =>
   simp only[X,cond_true]at I;simp only[BM]at X;refine wp_region_any M ?_;have hD:∀ j,(CM ops.size false).getD j false=false:=by
    intro j;simp only[BX,Cn];split <;> rfl
   refine BB hV hT hΓ J u y X.1 X.2 (hκ H I) ops.size (CM ops.size false) a _ (by simp) ?_ ?_ ?_
   ·rw[List.countP_eq_length.2]
    ·simp
    ·intro i hi;have hi:i<ops.size:=by simpa using hi
     simp[BX,Cn,hi]
   ·intro j o' _ hl;rw[hD]at hl;cases hl
   ·rw[nI (λj=>hD j)];obtain⟨W,Y⟩:=Y;exact⟨W,Y.world hV (w':={ w with drawn:=w.drawn+1 }) (Cu _) rfl rfl rfl (λ_ _=>rfl)⟩
 |false =>
  simp only[cond_false]at h;obtain⟨us,Z,H,y,I⟩:=ph _ _ _ _ _ h;refine wp_region ?_;have:=vt hV hT hΓ J u ops.toList 0 st us Z H (by simp) y (hκ H I) a w Y;rw[Cy,<- List.range_eq_range']at this;exact this
end
section
variable {P:Program} {V:Env} {Γ:List Ctr} {T:TypeId->TI} {st st':St} {o:Oper} {R:Type} {all:Array Oper}
theorem kZ (live:List Nat):∀ (cs:List Coe) (ls:List Leaf),(c6 st live cs ls).length=ls.length
 |[],[]=>rfl
 |_::_,[]=>rfl
 |[],_::ls=>by simp[c6,kZ live [] ls]
 |_::cs,_::ls=>by simp[c6,kZ live cs ls]
theorem pi (live:List Nat):∀ (cs:List Coe) (ls:List Leaf) (j:Nat) (l:Leaf),(c6 st live cs ls)[j]?=some l->∃ r,ls[j]?=some r/\(l=.dead\/∃ c,l=bw st live c r)
 |[],[],j,l,h=>by simp[c6]at h
 |_::_,[],j,l,h=>by simp[c6]at h
 |[],r::ls,0,l,h=>by simp[c6]at h;exact⟨r,rfl,.inl h.symm⟩
 |c::cs,r::ls,0,l,h=>by simp[c6]at h;exact⟨r,rfl,.inr ⟨c,h.symm⟩⟩
 |[],r::ls,j+1,l,h=>by
  simp only[c6,Co]at h;obtain⟨u,z,y⟩:=pi live [] ls j l h;exact⟨u,by simpa using z,y⟩
 |c::cs,r::ls,j+1,l,h=>by
  simp only[c6,Co]at h;obtain⟨u,z,y⟩:=pi live cs ls j l h;exact⟨u,by simpa using z,y⟩
theorem AQ (live:List (Nat×List Coe))(q:Nat):l6 live st q=bQ.none/\q∉live.map (·.1)\/∃ y,l6 live st q=⟨0,(st q).sh,c6 st (live.map (·.1)) y (st q).ls⟩/\q∈live.map (·.1):=by
 have H:∀ (u:List Nat) (l:List (Nat×List Coe)),(av (l.map λr=>(r.1,⟨0,(st r.1).sh,c6 st u r.2 (st r.1).ls⟩)) q=bQ.none/\q∉l.map (·.1)) \/
   ∃ y,av (l.map λr=>(r.1,⟨0,(st r.1).sh,c6 st u r.2 (st r.1).ls⟩)) q=⟨0,(st q).sh,c6 st u y (st q).ls⟩/\q∈l.map (·.1):=by
  intro u l;induction l with
  |nil=>exact .inl ⟨rfl,by simp⟩
  |cons x l O =>
   obtain⟨r,y⟩:=x;by_cases h:q=r
   ·subst h;exact .inr ⟨y,by simp[av,ac],by simp⟩
   ·have z:BT q r=false:=by
     cases z:BT q r with
     |false=>rfl
     |true=>exact absurd (BR z) h
    rcases O with ⟨M,J⟩|⟨I,M,J⟩
    ·refine .inl ⟨?_,by simpa[h]using J⟩;rw[<- M];simp[av,ac,z]
    ·refine .inr ⟨I,?_,by simp only[CB,BY];exact .inr J⟩;rw[<- M];simp[av,ac,z]
 exact H (live.map (·.1)) live
theorem yl {keys:List Nat}{c:Coe}{r:Leaf}(h:am (bw st keys c r)):am r\/r=.nil:=by
 cases r with
 |own p y E e u=>exact .inl trivial
 |nil=>exact .inr rfl
 |_ =>
  exfalso;revert h;cases c <;> simp only[bw] <;> first
   |exact id
   |(cases (!_||_:Bool) <;> first | exact id | (split <;> exact id))
   |(cases (_&&_:Bool) <;> exact id)
   |(cases (List.any _ _:Bool) <;> exact id)
   |(cases (List.all _ _:Bool) <;> exact id)
theorem iR.nw {W W':Wit}{w:World}{c:Bool×Bool×(a:Ty)×a.den}{u:Value}(r:∀ k,W.nw k->W'.nw k)(h:iR V W w c u):iR V W' w c u:=by
 have z:∀ (p:Bool) k,gd V W p k->gd V W' p k:=λp k hk=>hk.imp (r k) id
 unfold iR at h ⊢;split at h
 ·rename_i X;rw[if_pos X];obtain⟨b,ob,g,H,Z,I,Y,y,M,O,J⟩:=h;exact⟨b,ob,g,H,Z,I,Y.imp (r b) id,y,M.imp (r g) id,Rd.mono (z _) O,J⟩
 ·rename_i X;rw[if_neg X];obtain⟨g,H,Z,I,M,O,J⟩:=h;exact⟨g,H,Z,I,M.imp (r g) id,Rd.mono (z _) O,J⟩
theorem wN {W W':Wit}{w:World}{keys:List Nat}{bs bs':List Nat}{c:Coe}{M:Leaf}{v:Value}(h:aK P V W st w bs M v)
  (J:∀ k,W.nw k->W'.nw k) (hβ:W'.β=W.β) (a4:∀ q,keys.any (BT q)=true->W'.cs q=W.cs q) (H:∀ b,keys.any (BT b)=true->(st b).sh=.agg->(st' b).sh=.agg)
  (a3:am M->bs'=bs) (a2:M=.nil->bs'=[]) (a1:am M->¬ am (bw st keys c M)->(∃ p E e,c=.ro p E e)->∀ k∈bs,W'.nw k) :
  aK P V W' st' w bs' (bw st keys c M) v:=by
 have I:∀ (p q:Bool),(!q||p)=true->∀ k,gd V W q k->gd V W' p k:=by
  intro p q a6 k z;rcases z with z|⟨h1,z⟩
  ·exact .inl (J k z)
  ·refine .inr ⟨?_,z⟩;subst h1;simpa using a6
 cases c with
 |kill=>simp only[bw];trivial
 |keep =>
  cases M with
  |int k n=>exact h
  |bool b=>exact h
  |str s=>exact h
  |nil=>exact h
  |hdr n=>exact h
  |fn As B φ=>exact h
  |clr f O =>
   obtain⟨us,h1,h2,h3⟩:=h;exact⟨us,h1,h2,λi c u g1 g2=>(h3 i c u g1 g2).nw J⟩
  |al r j n =>
   simp only[bw];cases y:keys.any (BT r)&&BT (st r).ver n with
   |false=>trivial
   |true =>
    simp only[BM]at y;exact⟨DF _,λ_=>by rw[a4 r y.1];exact h.2 (BR y.2)⟩
  |bp b off =>
   simp only[bw];cases y:keys.any (BT b) with
   |false=>trivial
   |true =>
    obtain⟨h1,h2,h3⟩:=h;exact⟨h1,H b y h2,by rw[hβ];exact h3⟩
  |clo f O =>
   simp only[bw];cases y:O.all (λb=>keys.any (BT b)) with
   |false=>trivial
   |true =>
    obtain⟨h1,h2⟩:=h;rw[CA]at y;exact⟨by rw[hβ];exact h1,λb a0=>⟨(h2 b a0).1,H b (y b a0) (h2 b a0).2⟩⟩
  |_=>simp only[bw];trivial
 |own p E e =>
  cases M with
  |nil =>
   have Z:v=.slice none 0 0:=h;subst Z;rw[a2 rfl];exact OwH.nil w _ E e
  |own q hh E' e' xs =>
   cases hh with
   |some x=>simp only[bw];trivial
   |none =>
    simp only[bw];cases y:(!q||p) with
    |false=>trivial
    |true =>
     rw[a3 trivial];exact OwH.carry h (I p q y) (λ_ _=>rfl) (λ_ _=>rfl)
  |_=>simp only[bw];trivial
 |ro p E e =>
  cases M with
  |nil =>
   have Z:v=.slice none 0 0:=h;subst Z;exact Rd.nil w _ false E e
  |ro q E' e' xs =>
   simp only[bw];cases y:(!q||p) with
   |false=>trivial
   |true =>
    simp only[cond_true];split
    ·rename_i ys Y;exact Rd.castSh (m:=false) (m':=false) (E:=E) Y (Rd.mono (I p q y) h)
    ·trivial
  |own q hh E' e' xs =>
   cases hh with
   |some x=>simp only[bw];trivial
   |none =>
    have a5:=a1 trivial (by
     simp only[bw];cases (!q||p) with
     |false=>exact id
     |true=>simp only[cond_true];split <;> exact id) ⟨p,E,e,rfl⟩
    simp only[bw];cases y:(!q||p) with
    |false=>trivial
    |true =>
     simp only[cond_true];split
     ·rename_i ys Y;refine Rd.castSh (m:=false) (m':=false) (E:=E) (E':=E') Y (Rd.mono (λk z=>?_) (OwH.rd (m:=false) (E':=E') h));rcases z with z|z
      ·exact I p q y k z
      ·exact .inl (a5 k z)
     ·trivial
  |_=>simp only[bw];trivial
 |rp p =>
  cases M with
  |rpp q a x =>
   simp only[bw];cases y:(!q||p) with
   |false=>trivial
   |true =>
    obtain⟨b,ob,g,o',c,Z,a9,X,hg,hr,Y⟩:=h;exact⟨b,ob,g,o',c,Z,a9.imp (J b) id,X,hg.imp (J g) id,Rd.mono (I p q y) hr,Y⟩
  |rp q a x off =>
   simp only[bw];cases y:(!q||p) with
   |false=>trivial
   |true =>
    obtain⟨g,o',c,Z,hg,hr,Y⟩:=h;exact⟨g,o',c,Z,hg.imp (J g) id,Rd.mono (I p q y) hr,Y⟩
  |_=>simp only[bw];trivial
open Classical in
theorem vv (_hV:ay V){a:Act}{w:World}(h:Rel P V st a w)(live:List (Nat×List Coe))(b2:∀ x∈V.fixb,x.1∈live.map (·.1)):Rel P V (l6 live st) a w:=by
 obtain⟨W,h⟩:=h;have J:=AQ (st:=st) live;have Z:∀ b,Go.Proofs.YtaegajachoklkaaGreatEv.live (l6 live st) b->Go.Proofs.YtaegajachoklkaaGreatEv.live st b:=by
  rintro b ⟨H,I⟩;rcases J b with ⟨e,_⟩|⟨cs,e,_⟩
  ·rw[e]at I;cases I
  ·rw[e]at I;exact⟨H,I⟩
 have a2:∀ (q j:Nat) (l:Leaf),(l6 live st q).ls[j]?=some l->q∈live.map (·.1)/\∃ r,(st q).ls[j]?=some r/\(l=.dead\/∃ c,l=bw st (live.map (·.1)) c r):=by
  intro q j l Y;rcases J q with ⟨e,_⟩|⟨cs,e,z⟩
  ·rw[e]at Y;simp[bQ.none]at Y
  ·rw[e]at Y;exact⟨z,pi _ _ _ _ _ Y⟩
 have b5:∀ (q j:Nat) (l:Leaf),(l6 live st q).ls[j]?=some l->am l->∃ r,(st q).ls[j]?=some r/\(am r\/r=.nil):=by
  intro q j l Y ho;obtain⟨_,r,H,I⟩:=a2 q j l Y;rcases I with rfl|⟨c,rfl⟩
  ·exact ho.elim
  ·exact⟨r,H,yl ho⟩
 have a0:∀ b,(live.map (·.1)).any (BT b)=true->b∈live.map (·.1):=λb O=>by
  rw[Ca]at O;obtain⟨x,hx,he⟩:=O;rw[BR he];exact hx
 let y:Nat->Nat->List Nat:=λq j=>if (∃ r,(st q).ls[j]?=some r/\am r) then W.bs q j else []
 let a1:Nat->Prop:=λk=>W.nw k\/∃ q j r l,(st q).ls[j]?=some r/\am r/\(l6 live st q).ls[j]?=some l/\¬ am l/\k∈W.bs q j
 have X:∀ (q j k:Nat),k∈y q j->(∃ r,(st q).ls[j]?=some r/\am r)/\k∈W.bs q j:=by
  intro q j k M;by_cases hc:∃ r,(st q).ls[j]?=some r/\am r
  ·simp only[y,if_pos hc]at M;exact⟨hc,M⟩
  ·simp only[y,if_neg hc]at M;simp at M
 refine⟨{ β:=W.β,cs:=λq=>if q∈live.map (·.1) then W.cs q else [],bs:=y,nw:=a1 },?_⟩
 exact {
  nt:=h.nt,df:=h.df
  slots:=λt ht=>by
   rcases J t with ⟨e,z⟩|⟨cs,e,z⟩
   ·rw[e];simp[z,bQ.none,eh]
   ·rw[e];simp only[z,if_true];exact h.slots t ht
  boxes:=λb O=>by
   rcases J b with ⟨e,z⟩|⟨cs,e,z⟩
   ·rw[e];exact .inl ⟨rfl,rfl⟩
   ·rw[e];rcases h.boxes b O with ⟨H,I⟩|⟨H,E,I⟩
    ·exact .inl ⟨H,by rw[I];exact List.eq_nil_of_length_eq_zero (by rw[kZ];rfl)⟩
    ·exact .inr ⟨H,E,by simp only[z,if_true];exact I⟩
  len:=λq=>by
   rcases J q with ⟨e,z⟩|⟨cs,e,z⟩
   ·rw[e];simp[z,bQ.none]
   ·rw[e];simp only[z,if_true,kZ];exact h.len q
  one:=λq u hu=>by
   by_cases z:q∈live.map (·.1)
   ·simp only[z,if_true]at hu;exact h.one q u hu
   ·simp only[z,if_false]at hu;simp at hu
  leaf:=λq j l v Y hv=>by
   obtain⟨z,r,H,I⟩:=a2 q j l Y;simp only[z,if_true]at hv;have ad:=h.leaf q j r v H hv;rcases I with rfl|⟨c,rfl⟩
   ·trivial
   ·refine wN (st:=st) (W:=W) (W':={ β:=W.β,cs:=λq=>if q∈live.map (·.1) then W.cs q else [],bs:=y,nw:=a1 }) (keys:=live.map (·.1)) ad (λk M=>Or.inl M) rfl (λq hq=>if_pos (a0 q hq)) ?_ ?_ ?_ ?_
    ·intro b O b4;have a4:=a0 b O;rcases J b with ⟨_,b3⟩|⟨cs,e,_⟩
     ·exact absurd a4 b3
     ·rw[e];exact b4
    ·intro ho;show y q j=_;simp only[y,if_pos (⟨r,H,ho⟩:∃ r,(st q).ls[j]?=some r/\am r)]
    ·intro e;show y q j=_;have hc:¬ ∃ r,(st q).ls[j]?=some r/\am r:=by
      rintro⟨l1,h3,h4⟩;rw[H,e]at h3;cases h3;exact h4.elim
     simp only[y,if_neg hc]
    ·intro ho hn _ k M;exact .inr ⟨q,j,r,_,H,ho,Y,hn,M⟩
  ownb:=λq j l Y ho k M=>by
   obtain⟨⟨r,H,I⟩,h3⟩:=X q j k M;obtain⟨q1,q2,q3⟩:=h.ownb q j r H I k h3;refine⟨?_,q2,λb O=>q3 b (Z b O)⟩;rintro (hn|⟨q',j',l1,l2,h4,h5,h6,h7,h8⟩)
   ·exact q1 hn
   ·obtain⟨rfl,rfl⟩:=h.sep q j r q' j' l1 H I h4 h5 k h3 h8;rw[Y]at h6;cases h6;exact h7 ho
  sep:=λq j l q' j' l' _ _ _ _ k M a9=>by
   obtain⟨⟨r,H,I⟩,h3⟩:=X q j k M;obtain⟨⟨a5,a6,a3⟩,b0⟩:=X q' j' k a9;exact h.sep q j r q' j' a5 H I a6 a3 k h3 b0
  box:=λb O=>by
   obtain⟨q1,q2⟩:=h.box b (Z b O);refine⟨?_,q2⟩;rintro (hn|⟨q',j',l1,l2,h4,h5,h6,h7,h8⟩)
   ·exact q1 hn
   ·exact (h.ownb q' j' l1 h4 h5 _ h8).2.2 b (Z b O) rfl
  inj:=λb b' O b1=>h.inj b b' (Z b O) (Z b' b1)
  nwlt:=λk M=>by
   rcases M with hn|⟨q',j',l1,l2,h4,h5,h6,h7,h8⟩
   ·exact h.nwlt k hn
   ·exact⟨h.own_lt h4 h5 k h8,(h.ownb q' j' l1 h4 h5 k h8).2.1⟩
  os:=h.os,tape:=h.tape,output:=h.output,size:=h.size,keep:=h.keep
  fixb:=λx hx=>by
   obtain⟨⟨H,I⟩,h3⟩:=h.fixb x hx;refine⟨⟨H,?_⟩,h3⟩;rcases J x.1 with ⟨_,z⟩|⟨cs,e,_⟩
   ·exact absurd (b2 x hx) z
   ·rw[e];exact I
  fixt:=h.fixt }
def exOf:Ex->Exit
 |.normal=>.normal
 |.exit id=>.exit id
 |.ret=>.ret
theorem mF {nt:Nat}{fix:List Nat}(u:V.nt=nt)(r:∀ x∈V.fixt,x.1∈fix)(h:lE nt fix all o=true):bN V o:=by
 intro d z;simp only[lE,z,BM,CO,Ck]at h;obtain⟨⟨I,H⟩,_⟩:=h;refine⟨by rw[u];simpa[CW]using I,λx y e=>?_⟩;exact H _ (r x y) (by simp[e])
end
section
variable {P:Program} {V:Env} {Γ:List Ctr} {T:TypeId->TI} {R:Type}
open Classical in
theorem tU {Q:Exit->Act->World->Prop}{a:Act}{w:World}{c:Code}(J:Nat->Act->World->Prop)(h0:∃ n,J n a w)(hz:∀ a w,¬ J 0 a w)
  (u:∀ n a w,J (n+1) a w->c.wp P (Exit.then (J n) Q) a w):(Code.loop c).wp P Q a w:=by
 have y:∀ (a:Act) (w:World) (n:Nat),J n a w->∃ m,J m a w/\m<=n/\∀ k,J k a w->m<=k:=by
  intro a w n;induction n using DI with
  |ind n ih =>
   intro H;by_cases h:∃ k,k<n/\J k a w
   ·obtain⟨k,I,hJ⟩:=h;obtain⟨m,r,M,O⟩:=ih k I hJ;exact⟨m,r,by omega,O⟩
   ·refine⟨n,H,Cu _,λk I=>?_⟩;apply CF;intro a0;exact h ⟨k,by omega,I⟩
 let z:Act->World->Nat:=λa w=>if h:∃ m,J m a w/\∀ k,J k a w->m<=k then h.choose else 0
 have hμ:∀ a w n,J n a w->J (z a w) a w/\z a w<=n:=by
  intro a w n H;obtain⟨m,r,_,O⟩:=y a w n H;have h:∃ m,J m a w/\∀ k,J k a w->m<=k:=⟨m,r,O⟩;have e:z a w=h.choose:=by simp only[z];rw[dif_pos h]
  rw[e];exact⟨h.choose_spec.1,h.choose_spec.2 n H⟩
 refine wp_loop (λa w=>∃ n,J n a w) z h0 λa w ⟨n,H⟩=>?_
 obtain⟨r,_⟩:=hμ a w n H;cases Y:z a w with
 |zero=>rw[Y]at r;exact absurd r (hz a w)
 |succ m =>
  rw[Y]at r;refine wp_mono (u m a w r) λe X Z he=>?_
  cases e with
  |normal =>
   have M:J m X Z:=he;exact⟨⟨m,M⟩,Nat.lt_succ_of_le (hμ X Z m M).2⟩
  |_=>exact he
theorem zC {st:St}{a:Act}{w:World}(u:Rel P V st a w){t:Nat}(y:t<GH){b:Bool}(I:(st t).sh=.one)(z:(st t).ls=[.bool b]):a.eval (.tmp t)=.bool b:=by
 obtain⟨W,u⟩:=u;have r:=u.slots t y;rw[I]at r;have r:W.cs t=[a.tmps.getD t undef]:=r;have H:=u.leaf t 0 (.bool b) (a.tmps.getD t undef) (by rw[z];rfl) (by rw[r];rfl);exact H
theorem so (hV:ay V)(hT:TOk P T)(hΓ:∀ c∈Γ,bO P c)(a3:P.follows .mixedOrders=true){fx:List Nat}(a5:∀ x∈V.fixb,x.1∈fx){nt:Nat}{fix:List Nat}(a1:V.nt=nt)(a2:∀ x∈V.fixt,x.1∈fix)
  {L:List (Nat×List (Nat×List Coe))} {O:Nat}:∀ (c:Code),dO nt fix c=true->dl L fx c=true->∀ (st:St) (I:Ex->St->Option R) (r:R) (Q:Exit->Act->World->Prop),evK Γ T L O c st I=some r ->
   (∀ ex J,I ex J=some r->∀ a w,Rel P V J a w->Q (exOf ex) a w)->∀ a w,Rel P V st a w->c.wp P Q a w:=by
 intro c;induction c with
 |skip=>exact λ_ _ st I r Q h z a w u=>wp_skip (z .normal st h a w u)
 |region id a4 a9 =>
  intro hc hlp st I r Q h z a w u;simp only[dO,CA]at hc;have a0:∀ (i:Nat) (o:Oper),a4[i]?=some o->lE nt fix a4 o=true:=λi o hi=>hc o (by simpa using Cs hi)
  refine BC hV hT hΓ a3 (λi o hi=>mF a1 a2 (a0 i o hi)) (λi o hi j a6 hg s hs=>?_) h (λJ H a w u=>z .normal J H a w u) u;have:=a0 i o hi;simp only[lE,hg,hs,BM]at this;rw[a1];simpa[CW]using this.2
 |seq x y Z Y =>
  intro hc hlp st I r Q h z a w u;simp only[dO,BM]at hc;simp only[dl,BM]at hlp;simp only[evK]at h;refine wp_seq (Z hc.1 hlp.1 st _ r _ h (λex J H a w u=>?_) a w u);cases ex with
  |normal=>exact Y hc.2 hlp.2 J I r Q H z a w u
  |exit id=>exact z (.exit id) J H a w u
  |ret=>exact z .ret J H a w u
 |cond t x y Z Y =>
  intro hc hlp st I r Q h z a w u;simp only[dO,BM]at hc;simp only[dl,BM]at hlp;simp only[evK]at h;unfold zJ at h;split at h
  ·rename_i t;split at h
   ·rename_i b H h2;have hv:=zC u (C6 (by have:=hc.1.1;simp only[wS,CW]at this;rw[a1];exact this) hV.nt) H h2;cases b with
    |true =>
     simp only[cond_true]at h;rw[pg H h2]at h;exact wp_cond_true hv (Z hc.1.2 hlp.1 st I r Q h z a w u)
    |false =>
     simp only[cond_false]at h;rw[pg H h2]at h;exact wp_cond_false hv (Y hc.2 hlp.2 st I r Q h z a w u)
   ·cases h
  ·rename_i b;cases b with
   |true=>exact wp_cond_true rfl (Z hc.1.2 hlp.1 st I r Q h z a w u)
   |false=>exact wp_cond_false rfl (Y hc.2 hlp.2 st I r Q h z a w u)
  ·cases h
 |block id c ih =>
  intro hc hlp st I r Q h z a w u;simp only[dO]at hc;simp only[dl]at hlp;simp only[evK]at h;refine wp_block (ih hc hlp st _ r _ h (λex J H a w u=>?_) a w u);cases ex with
  |normal=>exact z .normal J H a w u
  |exit M =>
   simp only[sv]at H;show if M=id then Q .normal a w else Q (.exit M) a w
   by_cases e:M=id
   ·rw[if_pos e];subst e;simp only[Nat.beq_refl,cond_true]at H;exact z .normal J H a w u
   ·rw[if_neg e];have hb:BT M id=false:=by
     cases hb:BT M id with
     |false=>rfl
     |true=>exact absurd (BR hb) e
    rw[hb]at H;exact z (.exit M) J H a w u
  |ret=>exact z .ret J H a w u
 |loop c ih =>
  intro hc hlp st I r Q h z a w u;simp only[dO]at hc;simp only[dl,BM,CA]at hlp;simp only[evK]at h;have X:∀ x∈V.fixb,x.1∈(lD L (eV c)).map (·.1):=λx hx=>by
   obtain⟨r,u,he⟩:=Ca.1 (hlp.1 x.1 (a5 x hx));exact BV.2 ⟨r,u,BR he⟩
  refine tU (λn a w=>∃ st,aX (lD L (eV c)) (evK Γ T L O c) n st I=some r/\Rel P V st a w) ⟨O,_,h,vv hV u _ X⟩ ?_ ?_
  ·rintro a w ⟨st,H,_⟩;cases H
  ·rintro n a w ⟨st,H,u⟩;simp only[aX]at H;refine ih hc hlp.2 st _ r _ H (λex J h2 a w u=>?_) a w u;cases ex with
   |normal=>exact⟨_,h2,vv hV u _ X⟩
   |exit id=>exact z (.exit id) J h2 a w u
   |ret=>exact z .ret J h2 a w u
 |exit id=>exact λ_ _ st I r Q h z a w u=>wp_exit (z (.exit id) st h a w u)
 |ret=>exact λ_ _ st I r Q h z a w u=>wp_ret (z .ret st h a w u)
 |_=>intro _ _ st I r Q h;simp[evK]at h
end
section
variable {P:Program} {Γ:List Ctr} {T:TypeId->TI} {R:Type} {w:World} {ro pr:Nat->Prop}
theorem jf {G:Nat->Prop}{p:Bool}:∀ {b:Ty} {h:Option Nat} {pos:Nat} {x:b.den} {cs:List Value} {bs:List Nat},Mx w G b h pos x cs bs->bs.Nodup ->
  ∃ a2:Nat->List Nat,
   (∀ (V:Env) (W:Wit) (st:St),(∀ k,G k->gd V W p k)->∀ (j:Nat) (l:Leaf) (u:Value),h≠some (pos+j)->(ap p b x)[j]?=some l->cs[j]?=some u->aK P V W st w (a2 j) l u) /\
   (∀ (j:Nat) (l:Leaf),h≠some (pos+j)->(ap p b x)[j]?=some l->am l->∀ k∈a2 j,k∈bs) /\
   (∀ (j J:Nat) (l l':Leaf),h≠some (pos+j)->h≠some (pos+J)->(ap p b x)[j]?=some l->am l->(ap p b x)[J]?=some l'->am l'->∀ k,k∈a2 j->k∈a2 J->j=J)
 |.int k,_,_,x,cs,bs,H,_=>by
  obtain⟨rfl,rfl⟩:=H;exact⟨λ_=>[],λV W st _ j l u _ y X=>by cases j with|zero=>simp[ap]at y X;subst y;subst X;rfl|succ j=>simp[ap]at y,λj l _ y _ k r=>by simp at r,λj J l l' _ _ _ _ _ _ k r=>by simp at r⟩
 |.bool,_,_,x,cs,bs,H,_=>by
  obtain⟨rfl,rfl⟩:=H;exact⟨λ_=>[],λV W st _ j l u _ y X=>by cases j with|zero=>simp[ap]at y X;subst y;subst X;rfl|succ j=>simp[ap]at y,λj l _ y _ k r=>by simp at r,λj J l l' _ _ _ _ _ _ k r=>by simp at r⟩
 |.str,_,_,x,cs,bs,H,_=>by
  obtain⟨rfl,rfl⟩:=H;exact⟨λ_=>[],λV W st _ j l u _ y X=>by cases j with|zero=>simp[ap]at y X;subst y;subst X;rfl|succ j=>simp[ap]at y,λj l _ y _ k r=>by simp at r,λj J l l' _ _ _ _ _ _ k r=>by simp at r⟩
 |.unit,_,_,x,cs,bs,H,_=>by
  obtain⟨rfl,rfl⟩:=H;exact⟨λ_=>[],λV W st _ j l u _ y X=>by simp[ap]at y,λj l _ y _ k r=>by simp at r,λj J l l' _ _ _ _ _ _ k r=>by simp at r⟩
 |.hdr,_,_,x,cs,bs,H,_=>by
  obtain⟨⟨A,a9,rfl⟩,rfl⟩:=H;exact⟨λ_=>[],λV W st _ j l u _ y X=>by cases j with|zero=>simp[ap]at y X;subst y;subst X;exact⟨A,a9,rfl⟩|succ j=>simp[ap]at y,λj l _ y _ k r=>by simp at r,λj J l l' _ _ _ _ _ _ k r=>by simp at r⟩
 |.pair b c,h,pos,x,cs,bs,⟨c1,c2,b1,b2,e1,e2,y,X⟩,Y=>by
  subst e1;subst e2;rw[CR]at Y;obtain⟨d1,f2,f3,f4⟩:=jf y Y.1;obtain⟨d2,g2,g3,g4⟩:=jf X Y.2.1;have b0:=cG p b x.1;have ad:=y.len;have I:∀ (j:Nat) (l:Leaf),(ap p b x.1++ap p c x.2)[j]?=some l->(j<b.cells/\(ap p b x.1)[j]?=some l)\/(b.cells<=j/\(ap p c x.2)[j-b.cells]?=some l):=by
   intro j l z;by_cases M:j<b.cells
   ·rw[CE (by omega)]at z;exact .inl ⟨M,z⟩
   ·rw[CC (by omega),b0]at z;exact .inr ⟨by omega,z⟩
  have a0:∀ j,b.cells<=j->h≠some (pos+j)->h≠some (pos+b.cells+(j-b.cells)):=λj z hh=>by rwa [show pos+b.cells+(j-b.cells)=pos+j by omega]
  refine⟨λj=>if j<b.cells then d1 j else d2 (j-b.cells),λV W st hG j l u hh z hu=>?_,λj l hh z ho k r=>?_,λj J l l' hh a3 z ho Z a4 k r O=>?_⟩
  ·rcases I j l z with ⟨M,z⟩|⟨a1,z⟩
   ·rw[CE (by omega)]at hu;simp only[if_pos M];exact f2 V W st hG j l u hh z hu
   ·rw[CC (by omega),ad]at hu;simp only[if_neg (show ¬ j<b.cells by omega)];exact g2 V W st hG _ l u (a0 j a1 hh) z hu
  ·rcases I j l z with ⟨M,z⟩|⟨a1,z⟩
   ·simp only[if_pos M]at r;exact BN _ (f3 j l hh z ho k r)
   ·simp only[if_neg (show ¬ j<b.cells by omega)]at r;exact BO _ (g3 _ l (a0 j a1 hh) z ho k r)
  ·rcases I j l z with ⟨M,z⟩|⟨a1,z⟩ <;> rcases I J l' Z with ⟨a6,Z⟩|⟨a5,Z⟩
   ·simp only[if_pos M]at r;simp only[if_pos a6]at O;exact f4 j J l l' hh a3 z ho Z a4 k r O
   ·simp only[if_pos M]at r;simp only[if_neg (show ¬ J<b.cells by omega)]at O;exact absurd rfl (Y.2.2 k (f3 j l hh z ho k r) k (g3 _ l' (a0 J a5 a3) Z a4 k O))
   ·simp only[if_neg (show ¬ j<b.cells by omega)]at r;simp only[if_pos a6]at O;exact absurd rfl (Y.2.2 k (f3 J l' a3 Z a4 k O) k (g3 _ l (a0 j a1 hh) z ho k r))
   ·simp only[if_neg (show ¬ j<b.cells by omega)]at r;simp only[if_neg (show ¬ J<b.cells by omega)]at O;have:=g4 _ _ l l' (a0 j a1 hh) (a0 J a5 a3) z ho Z a4 k r O;omega
 |.list m E e,h,pos,xs,cs,bs,H,Y=>by
  cases m with
  |false =>
   rw[cm]at H;obtain⟨rfl,A,a9,rfl,X,h3⟩:=H;refine⟨λ_=>[],λV W st hG j l u _ y h4=>?_,λj l _ y _ k r=>by simp at r,λj J l l' _ _ _ _ _ _ k r=>by simp at r⟩;cases j with
   |zero =>
    simp[ap]at y h4;subst y;subst h4;exact Rd.mono hG (⟨A,a9,rfl,X,h3⟩:Rd w G (.list false E e) xs _)
   |succ j=>simp[ap]at y
  |true =>
   refine⟨λ_=>bs,λV W st hG j l u hh y h4=>?_,λj l _ y _ k r=>r,λj J l l' _ _ y _ h3 _ k _ _=>?_⟩
   ·cases j with
    |zero =>
     rw[Nat.add_zero]at hh;rw[bJ hh]at H;obtain⟨v,rfl,hO⟩:=H;simp[ap]at y h4;subst y;subst h4;exact⟨Y,OwB.shy (hO.carry hG (λ_ _=>rfl) (λ_ _=>rfl))⟩
    |succ j=>simp[ap]at y
   ·have h7:j<1:=by simpa[ap]using (BU.1 y).1
    have h8:J<1:=by simpa[ap]using (BU.1 h3).1
    omega
theorem mG {p:Bool}{off:Nat}:∀ {a:Ty} {pos:Nat} {x:a.den} {E:TypeId} {e:Ty} {xs:List e.den},be off a pos x=some ⟨E,e,xs⟩->(ap p a x)[off-pos]?=some (.own (p&&e.shy) none E e xs)
 |.pair a b,pos,x,E,e,xs,h=>by
  have H:=cG p a x.1;simp only[be]at h;simp only[ap];split at h
  ·rename_i u z;simp only[BK]at h;subst h;have y:=gy z;rw[CE (by omega)];exact mG z
  ·have y:=gy h;rw[CC (by omega),H,show off-pos-a.cells=off-(pos+a.cells) by omega];exact mG h
 |.list m M J,pos,I,E,e,xs,h=>by
  simp only[be]at h;cases r:m&&BT pos off with
  |false=>simp[r]at h
  |true =>
   rw[r]at h;simp only[cond_true,BK,Sigma.mk.injEq]at h;obtain⟨rfl,h⟩:=h;simp only[BM]at r;obtain⟨rfl,r⟩:=r;have r:=BR r;subst r;rw[heq_eq_eq,Sigma.mk.injEq]at h;obtain⟨rfl,h⟩:=h;rw[heq_eq_eq]at h;subst h;simp[ap]
 |.int _,_,_,_,_,_,h=>by simp[be]at h
 |.bool,_,_,_,_,_,h=>by simp[be]at h
 |.str,_,_,_,_,_,h=>by simp[be]at h
 |.unit,_,_,_,_,_,h=>by simp[be]at h
 |.hdr,_,_,_,_,_,h=>by simp[be]at h
theorem tV (V:Env)(W:Wit)(H:V.ro0=ro)(r:V.prot=pr):∀ {cs:List (Bool×Ty)} {x:lV cs} {us:List Value},jP w ro pr cs x us->us.length=(ka true cs x).length /\
  ∀ (i:Nat) (c:Bool×Bool×(a:Ty)×a.den) (u:Value),(ka true cs x)[i]?=some c->us[i]?=some u->iR V W w c u
 |[],_,us,h=>by
  have h:us=[]:=h;subst h;exact⟨rfl,λi c u z _=>by simp[ka]at z⟩
 |c::cs,x,us,⟨u,a0,e,z,h2⟩=>by
  subst e;obtain⟨i1,i2⟩:=tV V W H r h2;refine⟨by simp[ka,i1],λi c' u' h3 h4=>?_⟩;cases i with
  |succ i=>exact i2 i c' u' (by simpa[ka]using h3) (by simpa using h4)
  |zero =>
   simp[ka]at h3 h4;subst h3;subst h4;have hG:∀ k,ro k->gd V W true k:=λk hk=>.inr ⟨rfl,by rw[H];exact hk⟩
   unfold iR;unfold gS at z;split at z
   ·rename_i I;simp only[I,if_true];obtain⟨b,ob,g,o,Y,J,Z,y,O,X,M⟩:=z;exact⟨b,ob,g,o,Y,J,.inr (by rw[r];exact Z),y,.inr (by rw[r];exact O),X.mono hG,M⟩
   ·rename_i I;have I:c.1=false:=by simpa using I
    simp only[I,Ce,if_false];obtain⟨g,o,Y,J,O,X,M⟩:=z;exact⟨g,o,Y,by rw[J];rfl,.inr (by rw[r];exact O),X.mono hG,M⟩
structure Ent where
 r:Nat
 c:bQ
 cs:List Value
 bs:Nat->List Nat
 bl:List Nat
 g:Nat
structure qk (P:Program) (w:World) (ro pr:Nat->Prop) (bx:List (Nat×Nat)) (e:Ent):Prop where
 len:e.c.ls.length=e.cs.length
 one:∀ u∈e.cs,u.oneCell'=true
 leaf:∀ (V:Env) (W:Wit) (st:St),V.w0=w->V.ro0=ro->V.prot=pr->(∀ z∈bx,B0<=z.1/\(st z.1).sh=.agg/\W.β z.1=z.2)->∀ (j:Nat) (l:Leaf) (u:Value),e.c.ls[j]?=some l->e.cs[j]?=some u->aK P V W st w (e.bs j) l u
 own:∀ (j:Nat) (l:Leaf),e.c.ls[j]?=some l->am l->∀ k∈e.bs j,k∈e.bl
 sep:∀ (j j':Nat) (l l':Leaf),e.c.ls[j]?=some l->am l->e.c.ls[j']?=some l'->am l'->∀ k,k∈e.bs j->k∈e.bs j'->j=j'
 box:B0<=e.r->e.c.sh=.agg/\e.g∈e.bl/\(∀ (j:Nat) (l:Leaf),e.c.ls[j]?=some l->am l->e.g∉e.bs j)/\(∃ E,w.heap[e.g]?=some (.cells e.cs.toArray E (0,0)))/\(e.r,e.g)∈bx
theorem qk.mono {y r:List (Nat×Nat)}{e:Ent}(h:qk P w ro pr y e)(u:∀ z∈y,z∈r):qk P w ro pr r e :=
  { len:=h.len,one:=h.one,own:=h.own,sep:=h.sep
    leaf:=λV W Y M X h3 h4=>h.leaf V W Y M X h3 (λz I=>h4 z (u z I))
    box:=λJ=>by obtain⟨Z,H,O,q4,q5⟩:=h.box J;exact⟨Z,H,O,q4,u _ q5⟩ }
structure wO (P:Program) (w:World) (ro pr:Nat->Prop) (t:Nat) (pk:PK) (v:Value) (b:List Nat) (bx:List (Nat×Nat)) (es:List Ent):Prop where
 bl:es.flatMap (·.bl)=b
 ok:∀ e∈es,qk P w ro pr bx e
 at_:∀ e∈es,e.r=t\/e.r=B0+t
 nod:(es.map (·.r)).Nodup
 slot:∃ e∈es,e.r=t/\eh e.c.sh v e.cs
 bxs:∀ z∈bx,z.1=B0+t/\(∃ e∈es,e.r=B0+t/\e.g=z.2)
theorem tW (t n:Nat){a:Ty}{x:a.den}{v:Value}{cs:List Value}{b:List Nat}(J:b.Nodup)(h1:db a.isAgg v cs)(O:Mx w ro a none 0 x cs b)(a0:t<B0) :
    ∃ Z,wO P w ro pr t (.own a) v b [] Z/\[((t,⟨n,bi a.isAgg,ap true a x⟩):Nat×bQ)]=Z.map (λe=>(e.r,e.c)):=by
  obtain⟨M,m1,m2,m3⟩:=jf (P:=P) (p:=true) O J;have H:∀ j,(none:Option Nat)≠some (0+j):=λj=>by simp
  refine⟨[⟨t,⟨n,bi a.isAgg,ap true a x⟩,cs,M,b,0⟩],⟨by simp,?_,by simp,by simp,⟨_,B8 _,rfl,km h1⟩,by simp⟩,rfl⟩;intro e Y;simp only[CK]at Y;subst Y
  exact { len := by show (ap true a x).length = _; rw [cG, O.len]
          one:=O.one
          leaf:=λV W st _ I _ _ j l u y z=>m1 V W st (λk hk=>.inr ⟨rfl,by rw[I];exact hk⟩) j l u (H j) y z
          own:=λj l y z=>m2 j l (H j) y z
          sep:=λj X l l' y z h5 h6=>m3 j X l l' (H j) (H X) y z h5 h6
          box:=λhr=>absurd hr (by show ¬ B0<=t;omega) }
theorem nZ (t:Nat){l:Leaf}{v:Value}{pk:PK}(a0:t<B0)(I:¬ am l)(h1:v.oneCell'=true)(y:∀ (V:Env) (W:Wit) (st:St),V.w0=w->V.ro0=ro->V.prot=pr->aK P V W st w [] l v) :
    ∃ es,wO P w ro pr t pk v [] [] es/\[((t,⟨0,.one,[l]⟩):Nat×bQ)]=es.map (λe=>(e.r,e.c)):=by
  refine⟨[⟨t,⟨0,.one,[l]⟩,[v],λ_=>[],[],0⟩],⟨by simp,?_,by simp,by simp,⟨_,B8 _,rfl,rfl⟩,by simp⟩,rfl⟩;intro e Z;simp only[CK]at Z;subst Z;have O:∀ (j:Nat) (z:Leaf),[l][j]?=some z->j=0/\z=l:=λj z X=>by
    cases j with
    |zero=>simp at X;exact⟨rfl,X.symm⟩
    |succ j=>simp at X
  exact { len := rfl
          one:=λu hu=>by simp at hu;subst hu;exact h1
          leaf:=λV W st hw M Y _ j z u J H=>by
            obtain⟨rfl,rfl⟩:=O j z J;simp at H;subst H;exact y V W st hw M Y
          own:=λj z J H=>by obtain⟨_,rfl⟩:=O j z J;exact absurd H I
          sep:=λj j' l1 l2 J H=>by obtain⟨_,rfl⟩:=O j l1 J;exact absurd H I
          box:=λhr=>absurd hr (by show ¬ B0<=t;omega) }
def tX:Value->Nat
 |.pointer (some a)=>a.block
 |_=>0
def d9 (t:Nat):List PK->List Value->List (Nat×Nat)
 |.iop _::u,v::r=>(B0+t,tX v)::d9 (t+1) u r
 |_::u,_::r=>d9 (t+1) u r
 |_,_=>[]
def ea (t:Nat):List PK->List Value->List (Nat×Value)
 |.io _::u,v::r=>(t,v)::ea (t+1) u r
 |.iop _::u,v::r=>(t,v)::ea (t+1) u r
 |_::u,_::r=>ea (t+1) u r
 |_,_=>[]
def PK.bx (t:Nat)(v:Value):PK->List (Nat×Nat)
 |.iop _=>[(B0+t,tX v)]
 |_=>[]
theorem BD (t:Nat)(a1:t<B0){pk:PK}{ps:List PK}{x:ab (pk::ps)}{v:Value}{b:List Nat}(a0:b.Nodup)(h:nW P w ro pr pk x.1 v b) :
    ∃ es,wO P w ro pr t pk v b (pk.bx t v) es/\c7 t (pk::ps) x=es.map (λe=>(e.r,e.c))++c7 (t+1) ps x.2:=by
  cases pk with
  |rd a =>
    obtain⟨rfl,cs,h1,h2⟩:=h;refine⟨[⟨t,⟨0,bi a.isAgg,cH true a x.1⟩,cs,λ_=>[],[],0⟩],⟨by simp,?_,by simp,by simp,⟨_,B8 _,rfl,km h1⟩,by simp[PK.bx]⟩,rfl⟩;intro e he;simp only[CK]at he;subst he;have b9:∀ (V:Env) (W:Wit) (st:St),V.ro0=ro->aD P V W st w (cH true a x.1) cs:=λV W st I=>fa (G:=ro) (λk J=>.inr ⟨rfl,by rw[I];exact J⟩) h2
    have ba:∀ (j:Nat) (l:Leaf),(cH true a x.1)[j]?=some l->¬ am l:=λj l M=>by
      have hl:=gL true a x.1;have hc:=h2.len;have c1:=(BU.1 M).1;exact ((b9 ⟨w,ro,[],0,[],[]⟩ ⟨λ_=>0,λ_=>[],λ_ _=>[],λ_=>False⟩ (λ_=>bQ.none) rfl).at_ j l _ M (B4 (by omega))).2.1
    exact { len := by show (cH true a x.1).length = _; rw [gL, h2.len]
            one:=h2.one
            leaf:=λV W st _ I _ _ j l u y H=>((b9 V W st I).at_ j l u y H).1
            own:=λj l y H=>absurd H (ba j l y)
            sep:=λj j' l l' y H=>absurd H (ba j l y)
            box:=λhr=>absurd hr (by show ¬ B0<=t;omega) }
  |own a =>
    obtain⟨cs,h1,h2⟩:=h;obtain⟨es,y,H⟩:=tW (P:=P) (pr:=pr) t 0 a0 h1 h2 a1;exact⟨es,⟨y.bl,y.ok,y.at_,y.nod,y.slot,y.bxs⟩,by rw[<- H];rfl⟩
  |io a =>
    obtain⟨cs,h1,h2⟩:=h;obtain⟨es,y,H⟩:=tW (P:=P) (pr:=pr) t 7 a0 h1 h2 a1;exact⟨es,⟨y.bl,y.ok,y.at_,y.nod,y.slot,y.bxs⟩,by rw[<- H];rfl⟩
  |rref a =>
    obtain⟨rfl,h⟩:=h;unfold gS at h;rw[if_neg (by simp)]at h;obtain⟨g,o,c,hv,hg,hr,hc⟩:=h;subst hv;obtain⟨es,y,H⟩:=nZ (P:=P) (w:=w) (ro:=ro) (pr:=pr) t (pk:=.rref a) (l:=.rp true a x.1 0) (v:=.pointer (some ⟨g,o,none⟩)) a1 id rfl (λV W st hw I X=>⟨g,o,c,rfl,.inr (by rw[X];exact hg),hr.mono (λk J=>.inr ⟨rfl,by rw[I];exact J⟩),hc⟩);exact⟨es,y,by rw[<- H];rfl⟩
  |rref2 a =>
    obtain⟨rfl,h⟩:=h;unfold gS at h;rw[if_pos rfl]at h;obtain⟨b,ob,g,o,c,hv,hb,a5,hg,hr,hc⟩:=h;subst hv;obtain⟨es,y,H⟩:=nZ (P:=P) (w:=w) (ro:=ro) (pr:=pr) t (pk:=.rref2 a) (l:=.rpp true a x.1) (v:=.pointer (some ⟨b,ob,none⟩)) a1 id rfl (λV W st hw I X=>⟨b,ob,g,o,c,rfl,.inr (by rw[X];exact hb),a5,.inr (by rw[X];exact hg),hr.mono (λk J=>.inr ⟨rfl,by rw[I];exact J⟩),hc⟩);exact⟨es,y,by rw[<- H];rfl⟩
  |fn As B =>
    obtain⟨rfl,h⟩:=h;have bb:v.oneCell'=true:=by
      obtain⟨f,c0,e,_⟩:=h;rw[e];rfl
    obtain⟨es,y,H⟩:=nZ (P:=P) (w:=w) (ro:=ro) (pr:=pr) t (pk:=.fn As B) (l:=.fn As B x.1) (v:=v) a1 id bb (λV W st hw I X=>by
      show ik P V.w0 V.prot As B x.1 v;rw[hw,X];exact h)
    exact⟨es,y,by rw[<- H];rfl⟩
  |clo f cs =>
    obtain⟨rfl,us,e,h⟩:=h;subst e;obtain⟨es,y,H⟩:=nZ (P:=P) (w:=w) (ro:=ro) (pr:=pr) t (pk:=.clo f cs) (l:=.clr f (ka true cs x.1)) (v:=.func (.func f) #[] us.toArray) a1 id rfl (λV W st hw I X=>by
      obtain⟨i1,i2⟩:=tV V W I X h;exact⟨us,rfl,i1,i2⟩)
    exact⟨es,y,by rw[<- H];rfl⟩
  |iop a =>
    obtain⟨g,c,E,b0,hv,hg,hm,rfl⟩:=h;subst hv;rw[CL]at a0;obtain⟨a6,m1,m2,m3⟩:=jf (P:=P) (p:=true) hm a0.2;have hn:∀ j,(none:Option Nat)≠some (0+j):=λj=>by simp
    have Z:t≠B0+t:=by simp[B0]
    refine⟨[⟨t,⟨0,.one,[.bp (B0+t) 0]⟩,[.pointer (some ⟨g,0,none⟩)],λ_=>[],[],0⟩,⟨B0+t,⟨0,.agg,ap true a x.1⟩,c,a6,g::b0,g⟩],
      ⟨by simp,?_,λe he=>by simp at he;rcases he with rfl|rfl <;> simp,by rw[CB,CB,DL,CL];exact⟨by simpa using Z,by simp⟩,⟨_,BQ ..,rfl,rfl⟩,λz hz=>?_⟩,rfl⟩
    · intro e he
      simp only[BY,List.not_mem_nil,or_false]at he;rcases he with rfl|rfl
      · have h0:∀ (j:Nat) (l':Leaf),[Leaf.bp (B0+t) 0][j]?=some l'->j=0/\l'=.bp (B0+t) 0:=λj l' M=>by
          cases j with
          |zero=>simp at M;exact⟨rfl,M.symm⟩
          |succ j=>simp at M
        exact { len := rfl
                one:=λu hu=>by simp at hu;subst hu;rfl
                leaf:=λV W st hw I X hb j l' u y H=>by
                  obtain⟨rfl,rfl⟩:=h0 j l' y;simp at H;subst H;obtain⟨q1,q2,q3⟩:=hb (B0+t,g) (B8 _);exact⟨q1,q2,by rw[q3]⟩
                own:=λj l' y H=>by obtain⟨_,rfl⟩:=h0 j l' y;exact H.elim
                sep:=λj j' l1 l2 y H=>by obtain⟨_,rfl⟩:=h0 j l1 y;exact H.elim
                box:=λhr=>absurd hr (by show ¬ B0<=t;omega) }
      · exact { len := by show (ap true a x.1).length = _; rw [cG, hm.len]
                one:=hm.one
                leaf:=λV W st _ I _ _ j l u y H=>m1 V W st (λk J=>.inr ⟨rfl,by rw[I];exact J⟩) j l u (hn j) y H
                own:=λj l y H k J=>BP _ (m2 j l (hn j) y H k J)
                sep:=λj j' l l' y H h5 h6=>m3 j j' l l' (hn j) (hn j') y H h5 h6
                box:=λ_=>⟨rfl,BQ ..,λj l y H J=>a0.1 (m2 j l (hn j) y H g J),⟨E,hg⟩,B8 _⟩ }
    · simp only[PK.bx,CK]at hz
      subst hz;exact⟨rfl,_,BP _ (B8 _),rfl,rfl⟩
  |hol a c off =>
    obtain⟨cs,u,b0,b1,E,e,xs,h1,h2,y,H,h5,h6⟩:=h;have a2:=bu.1 a0;have ad:b0.Nodup:=bu.2 λk=>by have:=a2 k;have:=h6 k;omega
    have a9:b1.Nodup:=bu.2 λk=>by have:=a2 k;have:=h6 k;omega
    have a4:∀ k,k∈b0->k∉b1:=λk J Y=>by
      have:=a2 k;have:=h6 k;have:=B9.2 J;have:=B9.2 Y;omega
    have b4:∀ k∈b0,k∈b:=λk J=>B9.1 (by have:=h6 k;have:=B9.2 J;omega)
    have b3:∀ k∈b1,k∈b:=λk J=>B9.1 (by have:=h6 k;have:=B9.2 J;omega)
    obtain⟨a6,m1,m2,m3⟩:=jf (P:=P) (p:=true) h2 ad;have Z:∀ j,j≠c->(some c:Option Nat)≠some (0+j):=λj M=>by simp;omega
    have b5:=mG (p:=true) H;rw[Nat.sub_zero]at b5;have bn:(ap true a x.1.1).getD c .dead=.own (true&&e.shy) none E e xs:=by rw[BZ,b5];rfl
    refine⟨[⟨t,⟨0,bi a.isAgg,aT (ap true a x.1.1) c (.own (true&&e.shy) (some (x.1.2,off)) E e xs)⟩,cs,λj=>if j=c then b1 else a6 j,b,0⟩],
      ⟨by simp,?_,by simp,by simp,⟨_,B8 _,rfl,km h1⟩,by simp[PK.bx]⟩,?_⟩
    · intro en he
      simp only[CK]at he;subst he;have O:∀ (j:Nat) (l:Leaf),(aT (ap true a x.1.1) c (.own (true&&e.shy) (some (x.1.2,off)) E e xs))[j]?=some l->(j=c/\l=.own (true&&e.shy) (some (x.1.2,off)) E e xs)\/(j≠c/\(ap true a x.1.1)[j]?=some l):=by
        intro j l M;rcases aS _ _ _ _ _ M with ⟨q1,q2,_⟩|⟨q1,q2⟩
        · exact .inl ⟨q1,q2⟩
        · exact .inr ⟨q1,q2⟩
      exact { len := by show (aT (ap true a x.1.1) c _).length = _; simp only [aT, List.length_set]; rw [cG, h2.len]
              one:=h2.one
              leaf:=λV W st _ I _ _ j l u' h7 h8=>by
                have h8:cs[j]?=some u':=h8;rcases O j l h7 with ⟨rfl,rfl⟩|⟨M,h7⟩
                · rw[y]at h8
                  simp only[BK]at h8;subst h8;simp only[if_true];exact⟨a9,OwB.shy (p:=true) (h5.carry (λk J=>.inr ⟨rfl,by rw[I];exact J⟩) (λ_ _=>rfl) (λ_ _=>rfl))⟩
                · simp only[if_neg M]
                  exact m1 V W st (λk J=>.inr ⟨rfl,by rw[I];exact J⟩) j l u' (Z j M) h7 h8
              own:=λj l h7 h8 k J=>by
                rcases O j l h7 with ⟨rfl,rfl⟩|⟨M,h7⟩
                · simp only[if_true]at J;exact b3 k J
                · simp only[if_neg M]at J;exact b4 k (m2 j l (Z j M) h7 h8 k J)
              sep:=λj j' l l' h7 h8 h9 b2 k J Y=>by
                rcases O j l h7 with ⟨rfl,rfl⟩|⟨M,h7⟩ <;> rcases O j' l' h9 with ⟨rfl,rfl⟩|⟨a3,h9⟩
                · rfl
                · simp only[if_true]at J;simp only[if_neg a3]at Y
                  exact absurd J (a4 k (m2 j' l' (Z j' a3) h9 b2 k Y))
                · simp only[if_neg M]at J;simp only[if_true]at Y
                  exact absurd Y (a4 k (m2 j l (Z j M) h7 h8 k J))
                · simp only[if_neg M]at J;simp only[if_neg a3]at Y
                  exact m3 j j' l l' (Z j M) (Z j' a3) h7 h8 h9 b2 k J Y
              box:=λhr=>absurd hr (by show ¬ B0<=t;omega) }
    · show (t,(⟨0,bi a.isAgg,aT (ap true a x.1.1) c (uN x.1.2 off ((ap true a x.1.1).getD c .dead))⟩:bQ))::c7 (t+1) ps x.2=_
      rw[bn];rfl
theorem tY:∀ {ps:List PK} {x:ab ps} {u:List Value} {r:List (List Nat)},c9 P w ro pr ps x u r->u.length=ps.length
 |[],_,_,_,h=>by rw[h.1];rfl
 |_::_,_,_,_,⟨_,_,_,_,e,_,_,h⟩=>by rw[e,CQ,CQ,tY h]
theorem vw:∀ (ps:List PK) (x:ab ps) (Z:List Value) (H:List (List Nat)) (t:Nat),c9 P w ro pr ps x Z H->H.flatten.Nodup->t+ps.length<=B0 ->
  ∃ O:List Ent,c7 t ps x=O.map (λe=>(e.r,e.c))/\O.flatMap (·.bl)=H.flatten/\(∀ e∈O,qk P w ro pr (d9 t ps Z) e) /\
   (∀ e∈O,(t<=e.r/\e.r<t+ps.length)\/(B0+t<=e.r/\e.r<B0+t+ps.length))/\(O.map (·.r)).Nodup /\
   (∀ (i:Nat) (v:Value),Z[i]?=some v->∃ e∈O,e.r=t+i/\eh e.c.sh v e.cs)/\(∀ z∈d9 t ps Z,∃ e∈O,e.r=z.1/\e.g=z.2/\B0<=z.1)
 |[],x,Z,H,t,⟨e1,e2⟩,_,_=>by
  subst e1;subst e2;exact⟨[],rfl,rfl,by simp,by simp,by simp,λi v h=>by simp at h,by simp[d9]⟩
 |pk::ps,x,Z,H,t,⟨v,Y,b,a0,e1,e2,h1,h2⟩,J,hB=>by
  subst e1;subst e2;rw[B3,CR]at J;simp only[CQ]at hB;obtain⟨a5,M,p2⟩:=BD t (by omega) (ps:=ps) (x:=x) J.1 h1;obtain⟨a2,q1,q2,q3,q4,q5,q6,q7⟩:=vw ps x.2 Y a0 (t+1) h2 J.2.1 (by omega);have a1:d9 t (pk::ps) (v::Y)=pk.bx t v++d9 (t+1) ps Y:=by cases pk <;> rfl
  refine⟨a5++a2,by rw[p2,q1,Cc],by rw[List.flatMap_append,M.bl,q2,B3],λe y=>?_,λe y=>?_,?_,λi u hi=>?_,λz I=>?_⟩
  ·rw[a1];rcases BL.1 y with y|y
   ·exact (M.ok e y).mono (λz I=>BN _ I)
   ·exact (q3 e y).mono (λz I=>BO _ I)
  ·simp only[CQ];rcases BL.1 y with y|y
   ·rcases M.at_ e y with h|h <;> omega
   ·rcases q4 e y with h|h <;> omega
  ·rw[Cc,CR];refine⟨M.nod,q5,λa ha b' a4 e0=>?_⟩;subst e0;obtain⟨e,y,rfl⟩:=BV.1 ha;obtain⟨e',a3,e1⟩:=BV.1 a4;rcases M.at_ e y with h|h <;> rcases q4 e' a3 with h'|h' <;> omega
  ·cases i with
   |zero =>
    simp at hi;subst hi;obtain⟨e,y,h3,X⟩:=M.slot;exact⟨e,BN _ y,by omega,X⟩
   |succ i =>
    obtain⟨e,y,h3,X⟩:=q6 i u (by simpa using hi);exact⟨e,BO _ y,by omega,X⟩
  ·rw[a1]at I;rcases BL.1 I with I|I
   ·obtain⟨h3,e,y,X,h5⟩:=M.bxs z I;exact⟨e,BN _ y,by rw[X,h3],h5,by rw[h3];exact Nat.le_add_right _ _⟩
   ·obtain⟨e,y,X,h5,h6⟩:=q7 z I;exact⟨e,BO _ y,X,h5,h6⟩
def gf (w:World)(ro:Nat->Prop)(ps:List PK)(u:List Value)(r:List (List Nat))(nt:Nat):Env:=⟨w,ro,r.flatten,nt,d9 0 ps u,ea 0 ps u⟩
theorem n9:∀ {I:List Ent},(I.flatMap (·.bl)).Nodup->∀ e∈I,∀ y∈I,∀ k,k∈e.bl->k∈y.bl->e=y
 |[],_,e,M,_,_,_,_,_=>by simp at M
 |x::I,u,e,M,y,O,k,J,r=>by
  rw[List.flatMap_cons,CR]at u;rcases BY.1 M with H|H <;> rcases BY.1 O with z|z
  ·rw[H,z]
  ·rw[H]at J;exact absurd rfl (u.2.2 k J k (B6.2 ⟨y,z,r⟩))
  ·rw[z]at r;exact absurd rfl (u.2.2 k r k (B6.2 ⟨e,H,J⟩))
  ·exact n9 u.2.1 e H y z k J r
theorem ym:∀ {I:List Ent},(I.map (·.r)).Nodup->∀ e∈I,∀ y∈I,e.r=y.r->e=y
 |[],_,e,J,_,_,_=>by simp at J
 |x::I,u,e,J,y,M,O=>by
  rw[CB,CL]at u;rcases BY.1 J with H|H <;> rcases BY.1 M with z|z
  ·rw[H,z]
  ·exact absurd (BV.2 ⟨y,z,by rw[<- O,H]⟩) u.1
  ·exact absurd (BV.2 ⟨e,H,by rw[O,z]⟩) u.1
  ·exact ym u.2 e H y z O
theorem rO:∀ (u:List Ent) (q:Nat),(av (u.map λe=>(e.r,e.c)) q=bQ.none/\u.find? (λe=>e.r==q)=none)\/∃ e∈u,e.r=q/\u.find? (λe=>e.r==q)=some e/\av (u.map λe=>(e.r,e.c)) q=e.c
 |[],q=>.inl ⟨rfl,rfl⟩
 |e::u,q=>by
  by_cases h:e.r=q
  ·refine .inr ⟨e,BQ ..,h,by simp[h],?_⟩;simp[av,ac,h]
  ·have y:BT q e.r=false:=by
    cases y:BT q e.r with
    |false=>rfl
    |true=>exact absurd (BR y).symm h
   have X:av ((e::u).map λe=>(e.r,e.c)) q=av (u.map λe=>(e.r,e.c)) q:=by simp[av,ac,y]
   have I:(e::u).find? (λe=>e.r==q)=u.find? (λe=>e.r==q):=by simp[h]
   rw[X,I];rcases rO u q with z|⟨H,z,O,J,M⟩
   ·exact .inl z
   ·exact .inr ⟨H,BP _ z,O,J,M⟩
theorem vz:∀ {ps:List PK} {r:List Value} {t:Nat} {z:Nat×Value},z∈ea t ps r->∃ i,z.1=t+i/\r[i]?=some z.2
 |[],_,_,_,h=>by simp[ea]at h
 |u::ps,[],_,_,h=>by cases u <;> simp[ea]at h
 |u::ps,v::r,t,z,h=>by
  have:z=(t,v)\/z∈ea (t+1) ps r:=by cases u <;> simp[ea]at h <;> first|exact h|exact .inr h
  rcases this with rfl|h
  ·exact⟨0,rfl,rfl⟩
  ·obtain⟨i,H,y⟩:=vz h;exact⟨i+1,by omega,by simpa using y⟩
theorem vA {ps:List PK}{x:ab ps}{O:List Value}{J:List (List Nat)}{nt:Nat}(h:c9 P w ro (λk=>k<w.heap.size/\k∉J.flatten) ps x O J)(a2:J.flatten.Nodup)
  (c4:ps.length<=nt) (hB:nt<=GH):Rel P (gf w ro ps O J nt) (av (c7 0 ps x)) { tmps:=O.toArray++CM (nt-O.length) undef,defers:=[] } w:=by
 have c3:=tY h;have cb:GH<=B0:=by decide
 obtain⟨Y,q1,q2,q3,q4,q5,q6,q7⟩:=vw ps x O J 0 h a2 (by omega);rw[q1];have ba:=rO Y;have a5:∀ e∈Y,∀ H∈Y,e.r=H.r->e=H:=by
  intro e he H bn hr;exact ym q5 e he H bn hr
 rw[<- q2]at a2;have a1:∀ e∈Y,∀ k∈e.bl,k∈J.flatten:=λe he k Z=>by rw[<- q2];exact B6.2 ⟨e,he,Z⟩
 have hE:∀ q,(av (Y.map λe=>(e.r,e.c)) q=bQ.none/\Y.find? (λe=>e.r==q)=none)\/∃ e∈Y,e.r=q/\Y.find? (λe=>e.r==q)=some e/\av (Y.map λe=>(e.r,e.c)) q=e.c:=ba;have a0:∀ q,live (av (Y.map λe=>(e.r,e.c))) q->∃ e∈Y,e.r=q/\B0<=e.r/\Y.find? (λe=>e.r==q)=some e:=by
  rintro q ⟨h1,h2⟩;rcases hE q with ⟨I,_⟩|⟨e,I,y,h5,M⟩
  ·rw[I]at h2;cases h2
  ·exact⟨e,I,y,by rw[y];exact h1,h5⟩
 let β:Nat->Nat:=λq=>match Y.find? (λe=>e.r==q) with|some e=>e.g|none=>0
 let cs:Nat->List Value:=λq=>match Y.find? (λe=>e.r==q) with|some e=>e.cs|none=>[]
 let bs:Nat->Nat->List Nat:=λq j=>match Y.find? (λe=>e.r==q) with|some e=>e.bs j|none=>[]
 have a9:∀ z∈d9 0 ps O,B0<=z.1/\(av (Y.map λe=>(e.r,e.c)) z.1).sh=.agg/\β z.1=z.2:=by
  intro z hz;obtain⟨e,he,h1,h2,I⟩:=q7 z hz;refine⟨I,?_⟩;rcases hE z.1 with ⟨_,y⟩|⟨H,y,h5,M,h7⟩
  ·exfalso;rw[C7]at y;exact y e he (by simp[h1])
  ·have:H=e:=a5 H y e he (by rw[h5,h1]);subst this;rw[h7];exact⟨((q3 H he).box (by rw[h1];exact I)).1,by simp only[β,M];exact h2⟩
 refine⟨{ β:=β,cs:=cs,bs:=bs,nw:=λ_=>False },?_⟩;have c2:(gf w ro ps O J nt).prot=λk=>k<w.heap.size/\k∉J.flatten:=rfl
 exact {
  nt:=by show (O.toArray++CM (nt-O.length) undef).size=nt;simp;omega
  df:=rfl
  slots:=λt ht=>by
   show eh _ ((O.toArray++CM (nt-O.length) undef).getD t undef) (cs t);by_cases hq:t<ps.length
   ·have hv:=B4 (show t<O.length by omega);have:(O.toArray++CM (nt-O.length) undef).getD t undef=O[t]:=by
     rw[BX,Ch (by simp;omega)];simp[hv]
    rw[this];obtain⟨e,he,h1,h2⟩:=q6 t _ hv;rw[CU]at h1;rcases hE t with ⟨_,y⟩|⟨H,y,h5,M,h7⟩
    ·exfalso;rw[C7]at y;exact y e he (by simp[h1])
    ·have:H=e:=a5 H y e he (by rw[h5,h1]);subst this;rw[h7];simp only[cs,M];exact h2
   ·rcases hE t with ⟨I,y⟩|⟨H,y,h5,M,h7⟩
    ·rw[I];simp only[cs,y];rfl
    ·rcases q4 H y with h8|h8 <;> omega
  boxes:=λb hb=>by
   rcases hE b with ⟨I,y⟩|⟨H,y,h5,M,h7⟩
   ·rw[I];exact .inl ⟨rfl,rfl⟩
   ·obtain⟨g1,g2,g3,⟨E,g4⟩,g5⟩:=(q3 H y).box (by rw[h5];exact hb);rw[h7];exact .inr ⟨g1,E,by simp only[β,cs,M];exact g4⟩
  len:=λq=>by
   rcases hE q with ⟨I,y⟩|⟨H,y,h5,M,h7⟩
   ·rw[I];simp only[cs,y];rfl
   ·rw[h7];simp only[cs,M];exact (q3 H y).len
  one:=λq u hu=>by
   have hu:u∈cs q:=hu;rcases hE q with ⟨I,y⟩|⟨H,y,h5,M,h7⟩
   ·simp only[cs,y]at hu;simp at hu
   ·simp only[cs,M]at hu;exact (q3 H y).one u hu
  leaf:=λq j l v X hv=>by
   have hv:(cs q)[j]?=some v:=hv;rcases hE q with ⟨I,y⟩|⟨H,y,h5,M,h7⟩
   ·rw[I]at X;simp[bQ.none]at X
   ·rw[h7]at X;simp only[cs,M]at hv;show aK P _ _ _ w (bs q j) l v;simp only[bs,M];exact (q3 H y).leaf (gf w ro ps O J nt) _ _ rfl rfl rfl a9 j l v X hv
  ownb:=λq j l X ho k Z=>by
   have Z:k∈bs q j:=Z;rcases hE q with ⟨I,y⟩|⟨H,y,h5,M,h7⟩
   ·rw[I]at X;simp[bQ.none]at X
   ·rw[h7]at X;simp only[bs,M]at Z;have b0:=(q3 H y).own j l X ho k Z;refine⟨id,λhp=>hp.2 (a1 H y k b0),λb hb e0=>?_⟩;obtain⟨e2,g1,g2,g3,g4⟩:=a0 b hb;have a6:=(q3 e2 g1).box g3;have e0:β b=k:=e0;simp only[β,g4]at e0;have:=n9 a2 H y e2 g1 k b0 (by rw[<- e0];exact a6.2.1);subst this;exact a6.2.2.1 j l X ho (by rw[e0];exact Z)
  sep:=λq j l q' j' l' X ho a4 b1 k Z a3=>by
   have Z:k∈bs q j:=Z;have a3:k∈bs q' j':=a3;rcases hE q with ⟨I,y⟩|⟨e1,y,h5,M,h7⟩
   ·rw[I]at X;simp[bQ.none]at X
   ·rcases hE q' with ⟨b5,ad⟩|⟨e2,ad,bx,c1,bb⟩
    ·rw[b5]at a4;simp[bQ.none]at a4
    ·rw[h7]at X;rw[bb]at a4;simp only[bs,M]at Z;simp only[bs,c1]at a3;have:=n9 a2 e1 y e2 ad k ((q3 e1 y).own j l X ho k Z) ((q3 e2 ad).own j' l' a4 b1 k a3);subst this;exact⟨by rw[<- h5,<- bx],(q3 e1 y).sep j j' l l' X ho a4 b1 k Z a3⟩
  box:=λb hb=>by
   obtain⟨e2,g1,g2,g3,g4⟩:=a0 b hb;have a6:=(q3 e2 g1).box g3;refine⟨id,λhp=>hp.2 ?_⟩;show β b∈_;simp only[β,g4];exact a1 e2 g1 _ a6.2.1
  inj:=λb b' hb b9 e0=>by
   obtain⟨e1,g1,g2,g3,g4⟩:=a0 b hb;obtain⟨e2,b2,b3,c0,b4⟩:=a0 b' b9;have e0:β b=β b':=e0;simp only[β,g4,b4]at e0;have:=n9 a2 e1 g1 e2 b2 e1.g ((q3 e1 g1).box g3).2.1 (by rw[e0];exact ((q3 e2 b2).box c0).2.1);subst this;rw[<- g2,<- b3]
  nwlt:=λk Z=>Z.elim
  os:=rfl,tape:=rfl,output:=rfl,size:=Cu _,keep:=λ_ _=>rfl
  fixb:=λz hz=>by
   obtain⟨h1,h2,I⟩:=a9 z hz;exact⟨⟨h1,h2⟩,I⟩
  fixt:=λz hz=>by
   obtain⟨i,h1,h2⟩:=vz hz;rw[CU]at h1;show (O.toArray++CM (nt-O.length) undef).getD z.1 undef=z.2;rw[h1,BX,Ch (by simpa using (BU.1 h2).1)];simp[h2] }
end
section
variable {P:Program} {V:Env} {W:Wit} {Γ:List Ctr} {T:TypeId->TI} {R:Type} {st:St} {a:Act} {w:World} {ro:Nat->Prop}
theorem BE (hT:TOk P T)(h:an P V W st a w)(x:ResultVar)(y:pv st T x≠.off) :
  ∃ v M,(match x with|.tmp t=>(pure (a.tmps.getD t undef):Sem Value)|.cell b t=>(do loadVar t (<- asAddr (a.tmps.getD b undef)):Sem Value)).run P w=.ok v w /\
   eh (pv st T x) v M/\aD P V W st w (vD st T x) M:=by
 cases x with
 |tmp t =>
  obtain⟨M,h1,O⟩:=cS h (.tmp t);exact⟨_,M,rfl,h1,O⟩
 |cell t u =>
  simp only[pv]at y ⊢;split at y
  ·rename_i b off Z;cases J:decide ((st b).sh=.agg)&&Cw (off+(T u).cells) (st b).ls.length&&!BT (T u).cells 0 with
   |false=>rw[J]at y;exact absurd rfl y
   |true =>
    simp only[Z,J,cond_true,vD];simp only[BM,decide_eq_true_eq,CO]at J;obtain⟨⟨h1,O⟩,h3⟩:=J;have O:off+(T u).cells<=(st b).ls.length:=CG O;have Y:T u≠.none:=by
     intro e;rw[e]at h3;simp[TI.cells]at h3
    obtain⟨hp,_,_,_,_⟩:=bt h (.tmp t) (by rw[Z];simp);rw[Z]at hp;obtain⟨hB,a0,z⟩:=hp;have z:a.tmps.getD t undef=.pointer (some ⟨W.β b,off,none⟩):=z;rcases h.boxes b hB with ⟨X,_⟩|⟨_,E,X⟩
    ·rw[a0]at X;cases X
    ·have r:cY w (W.β b) 0 (W.cs b):=λi v z=>by
      rw[CU,cell_of_row w (W.β b) i _ E (0,0) X];simpa using z
     have a2:=h.len b;have H:=r.sub off (T u).cells;rw[CU]at H;obtain⟨v,I,a1⟩:=oh (hT u) Y H (by simp;omega);refine⟨v,_,?_,a1,((iC h b).drop off).take _⟩;simp only[z];simpa[asAddr]using I
  ·exact absurd rfl y
def nK (a:Act):ResultVar->Sem Value
 |.tmp t=>pure (a.tmps.getD t undef)
 |.cell b t=>do loadVar t (<- asAddr (a.tmps.getD b undef))
def nL (P:Program)(a:Act)(w:World):List ResultVar->List Value->Prop
 |[],u=>u=[]
 |x::y,u=>∃ v r,u=v::r/\(nK a x).run P w=.ok v w/\nL P a w y r
theorem rP:∀ (l:List ResultVar) (u:List Value),nL P a w l u->(l.mapM (nK a)).run P w=.ok u w
 |[],_,h=>by rw[show _=_ from h];rfl
 |x::l,_,⟨v,r,e,z,y⟩=>by subst e;simp[Cv,z,rP l r y]
theorem AR (b:Bool):bi b≠.off:=by cases b <;> simp[bi]
def RK.isBox:RK->Bool
 |.box _=>true
 |_=>false
theorem tZ (hV:ay V)(hT:TOk P T)(h:an P V W st a w)(a6:V.ro0=ro){fx:List Nat}:∀ (rs:List RK) (I:List ResultVar) (y:cI (ai rs)),kr st T fx rs I=some y ->
  ∀ {G:Nat->Prop},(∀ k,bq V W y.p y.frz k->G k) ->
  ∃ (us:List Value) (H:List (List Nat)) (bx:List Nat),nL P a w I us/\gz w G ro rs y.val us H/\(∀ k,H.flatten.count k=(aY W y.kill).count k+(bx.map W.β).count k) /\
   (∀ b∈bx,live st b/\fx.any (BT b)=false)/\bx.length=rs.countP RK.isBox/\(∀ z∈y.frz,aB st z)/\∀ z∈y.kill,aB st z
 |[],[],y,J,G,hG=>by
  simp only[kr,BK]at J;subst J;exact⟨[],[],[],rfl,⟨rfl,rfl⟩,λk=>by simp[aY],by simp,rfl,by simp,by simp⟩
 |[],_::_,_,J,_,_=>by simp[kr]at J
 |_::_,[],_,J,_,_=>by simp[kr]at J
 |r::rs,x::I,y,J,G,hG=>by
  simp only[kr]at J;cases O:decide (pv st T x=r.sh) with
  |false=>simp[O]at J
  |true =>
   simp only[O,cond_true]at J;have O:=of_decide_eq_true O;split at J
   ·rename_i X y2 u b5;simp only[BK]at J;subst J;obtain⟨v,a3,ad,M,a0⟩:=BE hT h x (by rw[O];cases r <;> simp only[RK.sh] <;> first|exact AR _|simp);rw[O]at M;have a1:∀ k,bq V W X.p X.frz k->G k:=λk Z=>hG k (dP.1 k Z)
    have b4:∀ k,bq V W y2.p y2.frz k->G k:=λk Z=>hG k (dP.2 k Z)
    obtain⟨us,H,bx,i1,i2,i3,i4,i5,i6,i7⟩:=tZ hV hT h a6 rs I y2 b5 b4;have a2:(nK a x).run P w=.ok v w:=by cases x <;> exact ad
    have a5:∀ (b:List Nat) (Y:List Nat),p8 w G ro r X.val v b->(∀ k,b.count k=(aY W X.kill).count k+(Y.map W.β).count k)->(∀ b∈Y,live st b/\fx.any (BT b)=false)->Y.length=(if r.isBox then 1 else 0)->(∀ z∈X.frz,aB st z)->(∀ z∈X.kill,aB st z) ->
      ∃ (us:List Value) (H:List (List Nat)) (bx:List Nat),nL P a w (x::I) us/\gz w G ro (r::rs) (X.val,y2.val) us H/\(∀ k,H.flatten.count k=(aY W (X.kill++y2.kill)).count k+(bx.map W.β).count k) /\
       (∀ b∈bx,live st b/\fx.any (BT b)=false)/\bx.length=(r::rs).countP RK.isBox/\(∀ z∈X.frz++y2.frz,aB st z)/\∀ z∈X.kill++y2.kill,aB st z:=by
     intro b Y f1 f2 f3 f4 f5 f6;refine⟨v::us,b::H,Y++bx,⟨v,us,rfl,a2,i1⟩,⟨v,us,b,H,rfl,rfl,f1,i2⟩,λk=>?_,λz hz=>(BL.1 hz).elim (f3 z) (i4 z),?_,λz hz=>(BL.1 hz).elim (f5 z) (i6 z),λz hz=>(BL.1 hz).elim (f6 z) (i7 z)⟩
     ·rw[B3,B7,f2 k,i3 k,dH,B7,Cc,B7];omega
     ·rw[List.length_append,f4,i5,DD];cases r.isBox <;> simp <;> omega
    cases r with
    |v b =>
     simp only[sd]at u;obtain⟨g1,g2,g3⟩:=dN (pos:=0) h a0 u;exact a5 (aY W X.kill) [] ⟨a3,gA M,g1.mono a1⟩ (λk=>by simp) (by simp) rfl g2 g3
    |bv b =>
     simp only[sd,BS]at u;obtain⟨⟨p,z⟩,hz,rfl⟩:=u;have g1:=eH h a0 hz;refine a5 [] [] ⟨rfl,a3,gA M,g1.mono λk Z=>?_⟩ (λk=>by simp[aY]) (by simp) rfl (λz hz=>el a0 hz) (by simp);rcases Z with (Z|⟨_,Z⟩)|Z
     ·exact .inl (a1 k (.inl (.inl Z)))
     ·exact .inr (by rw[<- a6];exact Z)
     ·exact .inl (a1 k (.inr Z))
    |box b =>
     simp only[sd]at u;split at u
     ·rename_i b0 b3;cases a4:!(fx.any (BT b0)) with
      |false=>rw[a4]at u;cases u
      |true =>
       rw[a4]at u;simp only[cond_true]at u;have M:a3=[v]:=M;subst M;rw[b3]at a0;obtain⟨hB,b2,a9⟩:=a0.1.1;obtain⟨g1,g2,g3⟩:=dN (pos:=0) h (iC h b0) u;rcases h.boxes b0 hB with ⟨h8,_⟩|⟨_,E,h8⟩
       ·rw[b2]at h8;cases h8
       ·exact a5 (W.β b0::aY W X.kill) [b0] ⟨W.β b0,W.cs b0,E,_,a9,h8,g1.mono a1,rfl⟩ (λk=>by
         rw[Cd,CB,DL,Cd,List.count_nil];omega) (λb' b1=>by
         simp at b1;subst b1;exact⟨⟨hB,b2⟩,by simpa using a4⟩) rfl g2 g3
     ·cases u
   ·cases J
theorem mH (hV:ay V)(h:an P V W st a w){w0:World}{pr:Nat->Prop}(a9:V.nt<=GH):∀ (ps:List PK) (x:ab ps) (vs:List Value) (a3:List (List Nat)) (t:Nat) (o:cI (ah ps)),c9 P w0 ro pr ps x vs a3->ii st t ps=some o->t+ps.length<=V.nt ->
  (∀ z∈ea t ps vs,a.tmps.getD z.1 undef=z.2)->(∀ z∈d9 t ps vs,live st z.1/\W.β z.1=z.2)->∀ {G:Nat->Prop},(∀ k,bq V W o.p o.frz k->G k) ->
  ∃ r,bL w G ps o.val vs r/\(∀ k,r.flatten.count k=(aY W o.kill).count k+((bI t ps).map W.β).count k)/\(∀ z∈o.frz,aB st z)/\(∀ z∈o.kill,aB st z)/\∀ b∈bI t ps,live st b
 |[],x,vs,a3,t,o,⟨e1,e2⟩,y,_,_,_,G,hG=>by
  simp only[ii,BK]at y;subst y;subst e1;exact⟨[],trivial,λk=>by simp[aY,bI],by simp,by simp,by simp[bI]⟩
 |pk::ps,x,vs,a3,t,o,⟨v,Y,b,a0,e1,e2,h1,h2⟩,y,ht,a1,a2,G,hG=>by
  subst e1;subst e2;simp only[CQ]at ht;have u:∀ (o':cI (ah ps)),ii st (t+1) ps=some o'->ea t (pk::ps) (v::Y)=ea (t+1) ps Y->d9 t (pk::ps) (v::Y)=d9 (t+1) ps Y->(∀ k,bq V W o'.p o'.frz k->G k) ->
    ∃ r,bL w G ps o'.val Y r/\(∀ k,r.flatten.count k=(aY W o'.kill).count k+((bI (t+1) ps).map W.β).count k)/\(∀ z∈o'.frz,aB st z)/\(∀ z∈o'.kill,aB st z)/\∀ b∈bI (t+1) ps,live st b:=by
   intro o' b1 e1 e2 ad;exact mH hV h a9 ps x.2 Y a0 (t+1) o' h2 b1 (by omega) (λz H=>a1 z (by rw[e1];exact H)) (λz H=>a2 z (by rw[e2];exact H)) ad
  cases pk with
  |io b =>
   simp only[ii]at y;split at y
   ·rename_i y1 y2 Z a6;simp only[BK]at y;subst y;obtain⟨r,J,M,O,I,X⟩:=mH hV h a9 ps x.2 Y a0 (t+1) y2 h2 a6 (by omega) (λz H=>a1 z (BP _ H)) (λz H=>a2 z H) (λk hk=>hG k (dP.2 k hk));cases hb:decide ((au st (.tmp t)).1=bi b.isAgg) with
    |false=>rw[hb]at Z;cases Z
    |true =>
     rw[hb]at Z;simp only[cond_true]at Z;obtain⟨cs,h3,h4⟩:=cS h (.tmp t);rw[of_decide_eq_true hb]at h3;have hv:a.eval (.tmp t)=v:=a1 (t,v) (BQ ..);rw[hv]at h3;obtain⟨g1,g2,g3⟩:=dN (pos:=0) h h4 Z;refine⟨aY W y1.kill::r,⟨?_,J⟩,λk=>?_,λz H=>(BL.1 H).elim (g2 z) (O z),λz H=>(BL.1 H).elim (g3 z) (I z),X⟩
     ·unfold jD;rw[if_neg (by simp)];exact⟨cs,gA h3,g1.mono (λk hk=>hG k (dP.1 k hk))⟩
     ·rw[B3,B7,M k,dH,B7];show _=_+((bI (t+1) ps).map W.β).count k;omega
   ·cases y
  |iop b =>
   simp only[ii]at y;split at y
   ·rename_i y1 y2 Z a6;simp only[BK]at y;subst y;obtain⟨r,J,M,O,I,X⟩:=mH hV h a9 ps x.2 Y a0 (t+1) y2 h2 a6 (by omega) (λz H=>a1 z (BP _ H)) (λz H=>a2 z (BP _ H)) (λk hk=>hG k (dP.2 k hk));obtain⟨g,c,E,b0,hv,_,_,_⟩:=h1;subst hv;obtain⟨a4,hβ⟩:=a2 (B0+t,tX (.pointer (some ⟨g,0,none⟩))) (BQ ..);have hβ:W.β (B0+t)=g:=hβ;obtain⟨g1,g2,g3⟩:=dN (pos:=0) h (iC h (B0+t)) Z;rcases h.boxes (B0+t) a4.1 with ⟨h8,_⟩|⟨_,E',h8⟩
    ·have:=a4.2;rw[h8]at this;cases this
    ·refine⟨(g::aY W y1.kill)::r,⟨?_,J⟩,λk=>?_,λz H=>(BL.1 H).elim (g2 z) (O z),λz H=>(BL.1 H).elim (g3 z) (I z),λb' a5=>?_⟩
     ·unfold jD;rw[if_pos rfl];exact⟨g,W.cs (B0+t),E',_,rfl,by rw[<- hβ];exact h8,g1.mono (λk hk=>hG k (dP.1 k hk)),rfl⟩
     ·rw[B3,B7,M k,dH,B7,Cd];show _=_+(W.β (B0+t)::(bI (t+1) ps).map W.β).count k;rw[Cd,hβ];omega
     ·rcases BY.1 a5 with rfl|a5
      ·exact a4
      ·exact X b' a5
   ·cases y
  |rd b =>
   obtain⟨r,J,M,O,I,X⟩:=u o y rfl rfl hG;exact⟨[]::r,⟨rfl,J⟩,λk=>by rw[B3,CJ];exact M k,O,I,X⟩
  |own b =>
   obtain⟨r,J,M,O,I,X⟩:=u o y rfl rfl hG;exact⟨[]::r,⟨rfl,J⟩,λk=>by rw[B3,CJ];exact M k,O,I,X⟩
  |rref b =>
   obtain⟨r,J,M,O,I,X⟩:=u o y rfl rfl hG;exact⟨[]::r,⟨rfl,J⟩,λk=>by rw[B3,CJ];exact M k,O,I,X⟩
  |rref2 b =>
   obtain⟨r,J,M,O,I,X⟩:=u o y rfl rfl hG;exact⟨[]::r,⟨rfl,J⟩,λk=>by rw[B3,CJ];exact M k,O,I,X⟩
  |fn As B =>
   obtain⟨r,J,M,O,I,X⟩:=u o y rfl rfl hG;exact⟨[]::r,⟨rfl,J⟩,λk=>by rw[B3,CJ];exact M k,O,I,X⟩
  |clo f cs =>
   obtain⟨r,J,M,O,I,X⟩:=u o y rfl rfl hG;exact⟨[]::r,⟨rfl,J⟩,λk=>by rw[B3,CJ];exact M k,O,I,X⟩
  |hol b c off =>
   obtain⟨r,J,M,O,I,X⟩:=u o y rfl rfl hG;exact⟨[]::r,⟨rfl,J⟩,λk=>by rw[B3,CJ];exact M k,O,I,X⟩
end
section
variable {P:Program} {Γ:List Ctr} {T:TypeId->TI} {w:World} {ro:Nat->Prop}
theorem uK {fn:Func}{a:Act}{w:World}{r:List Value}(h:nL P a w fn.results.toList r):(results fn a.tmps).run P w=.ok (if h:r.toArray.size=1 then r.toArray[0] else .tuple r.toArray) w:=by
 have z:=rP _ _ h;have e:results fn a.tmps=(fn.results.mapM (nK a) >>= λu=>pure (if h:u.size=1 then u[0] else .tuple u)):=by
  unfold results;congr 1
 have y:(fn.results.mapM (nK a)).run P w=.ok r.toArray w:=by
  rw[Array.mapM_eq_mapM_toList];simp[z]
 rw[e];simp only[CY,y,CS,C9]
theorem BF (us:List Value):sm us (if h:us.toArray.size=1 then us.toArray[0] else .tuple us.toArray):=by
 match us with
 |[]=>rfl
 |[u]=>rfl
 |u::r::us =>
  rw[dif_neg (by simp)];rfl
theorem rQ:∀ (ps:List PK) (t:Nat),(bI t ps).Nodup/\∀ b∈bI t ps,B0+t<=b
 |[],t=>⟨Ci,by simp[bI]⟩
 |I::ps,t=>by
  obtain⟨z,y⟩:=rQ ps (t+1);have u:∀ b∈bI (t+1) ps,B0+t<=b:=λb r=>by have:=y b r;omega
  cases I with
  |iop a =>
   refine⟨CL.2 ⟨λH=>?_,z⟩,λb r=>?_⟩
   ·have:=y _ H;omega
   ·rcases BY.1 r with rfl|r
    ·exact Cu _
    ·exact u b r
  |_=>exact⟨z,u⟩
theorem BG {u:List RK}(h:qp u=true):u.countP RK.isBox<=1:=by
 unfold qp at h;split at h
 ·simp[RK.isBox]
 ·rw[Cz.2]
  ·exact DF _
  ·intro r y;rw[CA]at h;have:=h r y;cases r <;> simp[RK.isV,RK.isBox]at this ⊢
theorem rR {β:Nat->Nat}:∀ {bs:List Nat},bs.Nodup->(∀ b∈bs,∀ u∈bs,β b=β u->b=u)->(bs.map β).Nodup
 |[],_,_=>Ci
 |b::bs,z,H=>by
  rw[CL]at z;rw[CB,CL];refine⟨λJ=>?_,rR z.2 (λx I y M=>H x (BP _ I) y (BP _ M))⟩;obtain⟨u,r,e⟩:=BV.1 J;have:=H u (BP _ r) b (BQ ..) e;exact z.1 (by rw[<- this];exact r)
theorem yn (hT:TOk P T){c:Ctr}(c2:qp c.rs=true){vs:List Value}{I:List (List Nat)}{fn:Func}{nt:Nat}(hV:ay (gf w ro c.ps vs I nt)){x:ab c.ps}{pr:Nat->Prop}(a9:c9 P w ro pr c.ps x vs I)(c4:c.ps.length<=nt){ex:Ex}{s1:St}{y:ai c.rs×ah c.ps}
  (r:cV T c.ps c.rs c.fresh fn.results.toList ex s1=some y) {a:Act} {w':World} (u:Rel P (gf w ro c.ps vs I nt) s1 a w') :
  (ex=.normal\/ex=.ret)/\∃ v,(results fn a.tmps).run P w'=.ok v w'/\tD c w ro vs I y (.returned v) w':=by
 obtain⟨W,u⟩:=u;have ba:ex=.normal\/ex=.ret:=by
  cases ex with
  |normal=>exact .inl rfl
  |ret=>exact .inr rfl
  |exit id=>cases r
 refine⟨ba,?_⟩;have r:finR T c.ps c.rs c.fresh fn.results.toList s1=some y:=by
  rcases ba with rfl|rfl <;> exact r
 unfold finR at r;split at r
 ·rename_i O M c1 cb;cases X:a7 (O.kill++M.kill)&&dz (O.frz++M.frz) (O.kill++M.kill)&&(!c.fresh||!(O.p||M.p)) with
  |false=>rw[X]at r;cases r
  |true =>
   rw[X]at r;simp only[cond_true,BK]at r;subst r;simp only[BM]at X;obtain⟨⟨bb,cc⟩,b9⟩:=X;let N:Nat->Prop:=λk=>W.nw k\/∃ z∈O.frz++M.frz,k∈W.bs z.1 z.2
   have hG:∀ (p:Bool) (b3:List (Nat×Nat)),(p=true->(O.p||M.p)=true)->(∀ z∈b3,z∈O.frz++M.frz)->∀ k,bq (gf w ro c.ps vs I nt) W p b3 k->N k\/(c.fresh=false/\ro k):=by
    intro p b3 hp H k J;rcases J with (J|⟨hq,J⟩)|⟨z,Z,J⟩
    ·exact .inl (.inl J)
    ·refine .inr ⟨?_,J⟩;rw[hp hq]at b9;simpa using b9
    ·exact .inl (.inr ⟨z,H z Z,J⟩)
   obtain⟨us,b1,bx,r1,r2,r3,r4,r5,r6,r7⟩:=tZ hV hT u rfl c.rs fn.results.toList O c1 (G:=λk=>N k\/(c.fresh=false/\ro k)) (hG O.p O.frz (by intro h;simp[h]) (λz H=>BN _ H));obtain⟨ad,o1,o2,o3,o4,o5⟩:=mH hV u hV.nt c.ps x vs I 0 M a9 cb (by rw[CU];exact c4) (λz H=>u.fixt z H) (λz H=>u.fixb z H) (G:=λk=>N k\/(c.fresh=false/\ro k)) (hG M.p M.frz (by intro h;simp[h]) (λz H=>BO _ H));have a1:∀ z∈O.kill++M.kill,aB s1 z:=λz H=>(BL.1 H).elim (r7 z) (o4 z)
   have a3:∀ z∈O.frz++M.frz,aB s1 z:=λz H=>(BL.1 H).elim (r6 z) (o3 z)
   have a4:∀ k,k<w'.heap.size->¬ (gf w ro c.ps vs I nt).prot k->p9 w w' I.flatten k:=by
    intro k J hp;refine⟨J,?_⟩;by_cases c3:k<w.heap.size
    ·right;apply CF;intro hn;exact hp ⟨c3,hn⟩
    ·exact .inl (by omega)
   have bn:∀ k,N k->p9 w w' I.flatten k:=by
    rintro k (J|⟨z,H,J⟩)
    ·exact a4 k (u.nwlt k J).1 (u.nwlt k J).2
    ·obtain⟨l,h7,h8⟩:=a3 z H;exact a4 k (u.own_lt h7 h8 k J) (u.ownb z.1 z.2 l h7 h8 k J).2.1
   have Y:∀ b∈bx++bI 0 c.ps,live s1 b:=λb R=>(BL.1 R).elim (λR=>(r4 b R).1) (o5 b)
   have bl:(bx++bI 0 c.ps).Nodup:=by
    rw[CR];refine⟨?_,(rQ c.ps 0).1,λb R b' b2 e=>?_⟩
    ·have:=BG c2;rw[<- r5]at this
     match bx,this with
     |[],_=>exact Ci
     |[b],_=>simp
    ·subst e;have:=Ck.1 (r4 b R).2 b b2;simp at this
   have a6:=rR (β:=W.β) bl (λb R b' b2 e=>u.inj b b' (Y b R) (Y b' b2) e);have a5:∀ k,(ad.flatten++b1.flatten).count k=(aY W (O.kill++M.kill)).count k+((bx++bI 0 c.ps).map W.β).count k:=λk=>by
    rw[B7,o2 k,r3 k,dH,B7,Cc,B7];omega
   have c0:=bu.1 (gR u bb a1);have b0:∀ k∈ad.flatten++b1.flatten,(∃ z∈O.kill++M.kill,k∈W.bs z.1 z.2)\/∃ b,live s1 b/\W.β b=k:=λk J=>by
    have h5:=B9.2 J;rw[a5 k]at h5;by_cases h6:k∈aY W (O.kill++M.kill)
    ·exact .inl (gm.1 h6)
    ·have:=Cj.2 h6;obtain⟨b,R,e⟩:=BV.1 (B9.1 (show 0<((bx++bI 0 c.ps).map W.β).count k by omega));exact .inr ⟨b,Y b R,e⟩
   refine⟨_,uK r1,_,us,N,ad,b1,rfl,BF us,u.size,u.os,u.tape,u.output,λk h1 h2=>u.keep k ⟨h1,h2⟩,bn,o1,r2,bu.2 λk=>?_,λk J=>?_⟩
   ·rw[a5 k];have h5:=c0 k;have h6:=bu.1 a6 k;by_cases h7:k∈(bx++bI 0 c.ps).map W.β
    ·have:(aY W (O.kill++M.kill)).count k=0:=Cj.2 λhm=>by
      obtain⟨b,R,e⟩:=BV.1 h7;obtain⟨z,H,a0⟩:=gm.1 hm;obtain⟨l,hl,ho⟩:=a1 z H;exact (u.ownb z.1 z.2 l hl ho k a0).2.2 b (Y b R) e
     omega
    ·have:=Cj.2 h7;omega
   ·rcases b0 k J with ⟨z,H,a0⟩|⟨b,R,e⟩
    ·obtain⟨l,hl,ho⟩:=a1 z H;have h9:=u.ownb z.1 z.2 l hl ho k a0;refine⟨a4 k (u.own_lt hl ho k a0) h9.2.1,?_⟩;rintro (hn|⟨z',Z,a2⟩)
     ·exact h9.1 hn
     ·obtain⟨l',b4,b5⟩:=a3 z' Z;obtain⟨e1,e2⟩:=u.sep z.1 z.2 l z'.1 z'.2 l' hl ho b4 b5 k a0 a2;exact nP cc z' Z (by rw[show z'=z from Prod.ext e1.symm e2.symm];exact H)
    ·subst e;have h9:=u.box b R;refine⟨a4 _ (u.box_lt R) h9.2,?_⟩;rintro (hn|⟨z',Z,a2⟩)
     ·exact h9.1 hn
     ·obtain⟨l',b4,b5⟩:=a3 z' Z;exact (u.ownb z'.1 z'.2 l' b4 b5 _ a2).2.2 b R rfl
 ·cases r
theorem kj:∀ {ps:List PK} {u:List Value} {t:Nat} {z:Nat×Value},z∈ea t ps u->z.1∈gl t ps
 |[],_,_,_,h=>by simp[ea]at h
 |r::ps,[],_,_,h=>by cases r <;> simp[ea]at h
 |r::ps,v::u,t,z,h=>by
  cases r <;> simp only[ea,gl,BY]at h ⊢ <;> first
   |exact kj h
   |exact h.imp (λe=>by rw[e]) kj
theorem kk:∀ {ps:List PK} {u:List Value} {t:Nat} {z:Nat×Nat},z∈d9 t ps u->z.1∈bI t ps
 |[],_,_,_,h=>by simp[d9]at h
 |r::ps,[],_,_,h=>by cases r <;> simp[d9]at h
 |r::ps,v::u,t,z,h=>by
  cases r <;> simp only[d9,bI,BY]at h ⊢ <;> first
   |exact kk h
   |exact h.imp (λe=>by rw[e]) kk
theorem dZ {f:FuncId}{fn:Func}{c:Code}(y:P.funcs[f]?=some fn)(z:(fn.name== "runtime.NumGoroutine")=false) (H:fn.body=some c):fT P f:=by
 intro u w;have r:fn.name≠ "runtime.NumGoroutine" := by simpa using z
 simp[callFunc,y,r,H]
theorem pj (hT:TOk P T)(hΓ:∀ c∈Γ,bO P c)(R:P.follows .mixedOrders=true){c:Ctr}{fn:Func}(hf:P.funcs[c.f]?=some fn)(hn:(fn.name== "runtime.NumGoroutine")=false)
  {L:List (Nat×List (Nat×List Coe))} {M:Nat} (Z:fn.body.isSome=true) (X:∀ x,evF Γ T L M fn c.ps c.rs c.fresh x=c.den x):bO P c:=by
 obtain⟨H,Z⟩:=Option.isSome_iff_exists.1 Z;refine⟨dZ hf hn Z,λw ro x vs a3 y u a1 a2 J=>?_⟩;rw[<- X]at J;unfold evF at J;simp only[Z]at J;cases r:dO fn.ntmps (gl 0 c.ps) H&&Cw c.ps.length fn.ntmps&&Cw fn.ntmps GH&&qp c.rs&&dl L (bI 0 c.ps) H with
 |false=>simp[r]at J
 |true =>
  simp only[r,cond_true]at J;simp only[BM]at r;obtain⟨⟨⟨⟨h1,h2⟩,h3⟩,h4⟩,h5⟩:=r;have h2:=CG h2;have h3:=CG h3;have hV:ay (gf w ro c.ps vs a3 fn.ntmps):=⟨λk hk=>a1 k hk,h3⟩;have O:=vA (P:=P) (ro:=ro) u a2 h2 h3;refine calls_of_wp hf Z ?_;rw[DA];refine so hV hT hΓ R (λz hz=>kk hz) (nt:=fn.ntmps) (fix:=gl 0 c.ps) rfl (λz hz=>kj hz) H h1 h5 _ _ y _ J (λex s1 a0 a' w' hr=>?_) _ _ O;obtain⟨a5,v,Y,I⟩:=yn hT h4 hV u h2 a0 hr;have a4:a'.defers=[]:=by obtain⟨W,hr⟩:=hr;exact hr.df
  rcases a5 with rfl|rfl <;> exact⟨a4,v,Y,I⟩
end
section
variable {P:Program}
def szB (P:Program)(t:TypeId)(n:Nat):Bool :=
 match P.info? t with
 |some i=>BT i.size n
 |none=>false
theorem fQ {t:TypeId}{n:Nat}(h:szB P t n=true):bP P t n:=by
 unfold szB at h;unfold bP;split at h
 ·rename_i i r;rw[r];simp only[CD];rw[BR h]
 ·cases h
def ua (P:Program)(t:TypeId)(agg:Bool):Bool :=
 match P.underlying t with
 |some (.struct _)|some (.array _ _)=>agg
 |some _=>!agg
 |none=>false
theorem qT {t:TypeId}{agg:Bool}(h:ua P t agg=true):(P.underlying t).map (λd=>match d with|.struct _|.array _ _=>true|_=>false)=some agg:=by
 unfold ua at h;split at h
 ·rename_i r;rw[r];simp[h]
 ·rename_i r;rw[r];simp[h]
 ·rename_i d y u r;rw[r];simp only[CD,BK];cases agg with
  |true=>cases h
  |false =>
   cases d <;> first|rfl|(exact absurd r (y _))|(exact absurd r (u _ _))
 ·cases h
theorem AS {t:TypeId}{agg:Bool}(h:(P.underlying t).map (λd=>match d with|.struct _|.array _ _=>true|_=>false)=some agg)(w:World):(isAgg t).run P w=.ok agg w:=by
 unfold isAgg;cases r:P.underlying t with
 |none=>simp[r]at h
 |some u =>
  rw[r]at h;simp only[CD,BK]at h;subst h;rw[CY,run_underlying r w];cases u <;> rfl
def lQ (P:Program)(f:Field)(off:Nat)(b:Ty):Bool:=(f.name != "_")&&BT f.offset off&&szB P f.type b.cells&&ua P f.type b.isAgg
def eqF (P:Program)(g:Ty->TypeId->Bool):List Field->Nat->Ty->Bool
 |[],_,_=>false
 |[f],off,b=>lQ P f off b&&g b f.type
 |f::r,off,.pair b c=>lQ P f off b&&g b f.type&&eqF P g r (off+b.cells) c
 |_,_,_=>false
def eqT (P:Program):Nat->Ty->TypeId->Bool
 |0,_,_=>false
 |n+1,a,t=>match a with
  |.int k=>(match P.underlying t with|some (.int k')=>decide (k'=k)|_=>false)
  |.bool=>(match P.underlying t with|some .bool=>true|_=>false)
  |.str=>(match P.underlying t with|some .string=>true|_=>false)
  |.pair b c=>(match P.underlying t with|some (.struct fs)=>!P.stoodInHeld t&&eqF P (eqT P n) fs.toList 0 (.pair b c)|_=>false)
  |_=>false
theorem zD:∀ (b:Ty),b.isAgg=false->b.cells=1
 |.int _,_=>rfl
 |.bool,_=>rfl
 |.str,_=>rfl
 |.list _ _ _,_=>rfl
 |.hdr,_=>rfl
 |.unit,h=>by cases h
 |.pair _ _,h=>by cases h
theorem mI {f:Field}{off:Nat}{b:Ty}(h:lQ P f off b=true){xs p c s:List Value}(J:xs=p++c++s)(M:p.length=off)(z:c.length=b.cells)(w:World) :
  ∃ v,(part f.type xs.toArray f.offset).run P w=.ok v w/\db b.isAgg v c:=by
 unfold lQ at h;simp only[BM]at h;obtain⟨⟨⟨_,y⟩,R⟩,X⟩:=h;have y:=BR y;have r:=AS (qT X) w;have I:=dq (fQ R) w;have u:(xs.drop off).take b.cells=c:=by
  rw[J,CH,<- M,List.drop_left,<- z,List.take_left]
 cases H:b.isAgg with
 |true =>
  rw[H]at r;refine⟨.agg c.toArray,?_,rfl⟩;have e:xs.toArray.extract off (off+b.cells)=c.toArray:=by
   rw[List.extract_toArray,List.extract_eq_take_drop,Nat.add_sub_cancel_left,u]
  simp only[part,CY,r,CS,if_true,I,C9,y,e]
 |false =>
  rw[H]at r;have O:=zD b H;rw[O]at z
  match c,z with
  |[v],_ =>
   refine⟨v,?_,rfl⟩;have e:xs.toArray[off]?=some v:=by
    simp only[List.getElem?_toArray];rw[J,CH,CC (by omega)];simp[M]
   simp only[part,CY,r,CS,Ce,if_false,y,e,C9]
def zW (P:Program)(d:Nat)(b:Ty)(t:TypeId):Prop:=∀ (w:World) (G:Nat->Prop) (x y:b.den) (u z:Value) (H r:List Value),db b.isAgg u H->Rd w G b x H->db b.isAgg z r->Rd w G b y r ->
 (Op.equalIn d t u z).run P w=.ok (b.eqv x y) w
theorem yp {d:Nat}{g:Ty->TypeId->Bool}(hg:∀ b t,g b t=true->zW P d b t):∀ (fs:List Field) (off:Nat) (b:Ty),eqF P g fs off b=true->∀ (w:World) (G:Nat->Prop) (x y:b.den) (z O H J:List Value),
  z.length=off->H.length=off->Rd w G b x O->Rd w G b y J->(Op.eqFields d (z++O).toArray (H++J).toArray fs).run P w=.ok (b.eqv x y) w
 |[],_,_,h=>by simp[eqF]at h
 |[f],off,b,h=>by
  intro w G x y z O H J u r Z hy;simp only[eqF,BM]at h;obtain⟨v1,h1,h2⟩:=mI h.1 (xs:=z++O) (p:=z) (c:=O) (s:=[]) (by simp) u Z.len w;obtain⟨v2,h3,h4⟩:=mI h.1 (xs:=H++J) (p:=H) (c:=J) (s:=[]) (by simp) r hy.len w;have h5:=hg b f.type h.2 w G x y v1 v2 O J h2 Z h4 hy;have hn:f.name≠ "_" := by
   have:=h.1;unfold lQ at this;simp only[BM]at this;simpa using this.1.1.1
  simp only[Op.eqFields,if_pos hn,CY,h1,h3,h5,CS];cases b.eqv x y <;> simp
 |f::R::fs,off,.pair b c,h=>by
  intro w G x y z O H J u r Z hy;simp only[eqF,BM]at h;obtain⟨⟨Y,a0⟩,M⟩:=h;obtain⟨c1,c2,rfl,I,a1⟩:=Z;obtain⟨d1,d2,rfl,X,a2⟩:=hy;obtain⟨v1,h1,h2⟩:=mI Y (xs:=z++(c1++c2)) (p:=z) (c:=c1) (s:=c2) (by simp) u I.len w;obtain⟨v2,h3,h4⟩:=mI Y (xs:=H++(d1++d2)) (p:=H) (c:=d1) (s:=d2) (by simp) r X.len w;have h5:=hg b f.type a0 w G x.1 y.1 v1 v2 c1 d1 h2 I h4 X;have h6:=yp hg (R::fs) (off+b.cells) c M w G x.2 y.2 (z++c1) c2 (H++d1) d2 (by simp[u,I.len]) (by simp[r,X.len]) a1 a2;rw[CH,CH]at h6;have hn:f.name≠ "_" := by
   unfold lQ at Y;simp only[BM]at Y;simpa using Y.1.1.1
  rw[Op.eqFields];simp only[if_pos hn,CY,h1,h3,h5,CS];show _=Result.ok (b.eqv x.1 y.1&&c.eqv x.2 y.2) w;cases b.eqv x.1 y.1 with
  |false=>simp
  |true=>simpa using h6
 |f::R::fs,off,.int _,h=>by simp[eqF]at h
 |f::R::fs,off,.bool,h=>by simp[eqF]at h
 |f::R::fs,off,.str,h=>by simp[eqF]at h
 |f::R::fs,off,.unit,h=>by simp[eqF]at h
 |f::R::fs,off,.list _ _ _,h=>by simp[eqF]at h
 |f::R::fs,off,.hdr,h=>by simp[eqF]at h
theorem rS (x y:ByteArray):(x==y)=decide (x=y):=by
 rw[beq_toListBytes];by_cases h:x=y
 ·subst h;simp
 ·rw[decide_eq_false h];cases r:(x.toList==y.toList) with
  |false=>rfl
  |true =>
   exfalso;apply h;have:=eq_of_beq r;rw[C0,C0]at this;apply ByteArray.ext;exact Array.ext' this
theorem yq:∀ (n:Nat) (a:Ty) (t:TypeId),eqT P n a t=true->∀ d,n<=d->zW P d a t
 |0,_,_,h=>by simp[eqT]at h
 |n+1,a,t,h=>by
  intro d hd;obtain⟨d,rfl⟩:∃ d',d=d'+1:=⟨d-1,by omega⟩;intro w G x y O R J I u z r H;cases a with
  |int k =>
   simp only[eqT]at h;split at h
   ·rename_i Z M;have hk:=of_decide_eq_true h;subst hk;have z:J=[.int Z x]:=z;have H:I=[.int Z y]:=H;have u:J=[O]:=u;have r:I=[R]:=r;rw[z]at u;rw[H]at r;simp at u r;subst u;subst r;simp[Op.equalIn,run_underlying M,Ty.eqv];rfl
   ·cases h
  |bool =>
   simp only[eqT]at h;split at h
   ·rename_i M;have z:J=[.bool x]:=z;have H:I=[.bool y]:=H;have u:J=[O]:=u;have r:I=[R]:=r;rw[z]at u;rw[H]at r;simp at u r;subst u;subst r;simp[Op.equalIn,run_underlying M,Ty.eqv]
   ·cases h
  |str =>
   simp only[eqT]at h;split at h
   ·rename_i M;have z:J=[.string x]:=z;have H:I=[.string y]:=H;have u:J=[O]:=u;have r:I=[R]:=r;rw[z]at u;rw[H]at r;simp at u r;subst u;subst r;have:=rS x y;simp[Op.equalIn,run_underlying M,Ty.eqv,this]
   ·cases h
  |pair b c =>
   simp only[eqT]at h;split at h
   ·rename_i X M;simp only[BM,CO]at h;have Y:P.fieldsOf t=X:=by simp[Program.fieldsOf,M]
    have u:O=.agg J.toArray:=u;have r:R=.agg I.toArray:=r;subst u;subst r;rw[run_equalIn_struct (P:=P) w d t _ _ (by rw[Y];exact M) h.1,Y];have:=yp (P:=P) (λb t hb=>yq n b t hb d (by omega)) X.toList 0 (.pair b c) h.2 w G x y [] J [] I rfl rfl z H;simpa using this
   ·cases h
  |unit=>simp[eqT]at h
  |hdr=>simp[eqT]at h
  |list m E e=>simp[eqT]at h
theorem AT {t:TypeId}{a:Ty}(h:eqT P 64 a t=true)(u:a.isAgg=true):EqAt P t a:=by
 intro _ w G x y z r H I;have:=yq 64 a t h Op.maxDepth (by decide) w G x y (.agg z.toArray) (.agg r.toArray) z r (by rw[u];rfl) H (by rw[u];rfl) I;exact this
def wP:Value->Value->Bool
 |.int k n,.int y r=>decide (k=y)&&decide (n=r)
 |.bool b,.bool z=>b==z
 |.string s,.string u=>decide (s.toList=u.toList)
 |.slice none 0 0,.slice none 0 0=>true
 |.pointer none,.pointer none=>true
 |.nilFunc,.nilFunc=>true
 |_,_=>false
def k6:List Value->List Value->Bool
 |[],[]=>true
 |v::r,u::y=>wP v u&&k6 r y
 |_,_=>false
theorem zE {v u:Value}(h:wP v u=true):v=u:=by
 unfold wP at h;split at h
 ·simp only[BM,decide_eq_true_eq]at h;rw[h.1,h.2]
 ·rw[eq_of_beq h]
 ·rename_i s r;have:s=r:=by
   have y:=rS s r;rw[beq_toListBytes,of_decide_eq_true h]at y;simpa using y.symm
  rw[this]
 ·rfl
 ·rfl
 ·rfl
 ·cases h
theorem mJ:∀ {r us:List Value},k6 r us=true->r=us
 |[],[],_=>rfl
 |v::r,u::us,h=>by
  simp only[k6,BM]at h;rw[zE h.1,mJ h.2]
 |[],_::_,h=>by simp[k6]at h
 |_::_,[],h=>by simp[k6]at h
def zB (P:Program)(t:TypeId)(agg:Bool)(cs:List Value):Bool :=
 match P.info? t with
 |some i=>match i.zero with
  |some (.agg r)=>agg&&k6 r.toList cs
  |some v=>!agg&&k6 [v] cs
  |none=>false
 |none=>false
theorem yt {t:TypeId}{cs:List Value}(h:zB P t true cs=true):d6 P t (.agg cs.toArray):=by
 unfold zB at h;unfold d6;split at h
 ·rename_i i r;rw[r];split at h
  ·rename_i y u;simp only[C4]at h;rw[CD,u,<- mJ h,Array.toArray_toList]
  ·cases h
  ·cases h
 ·cases h
theorem lR {t:TypeId}{v:Value}(h:zB P t false [v]=true):d6 P t v:=by
 unfold zB at h;unfold d6;split at h
 ·rename_i i r;rw[r];split at h
  ·cases h
  ·rename_i u _ y;simp only[DK,C4]at h;have:=mJ h;simp only[Cq,and_true]at this;rw[CD,y,this]
  ·cases h
 ·cases h
def kq (P:Program)(n:Nat):List Field->List (Nat×Nat×Bool)->Bool
 |[],[]=>true
 |f::r,(off,k,agg)::u=>BT f.offset off&&szB P f.type k&&ua P f.type agg&&Cp 0 k&&Cw (off+k) n&&(agg||BT k 1)&&kq P n r u
 |_,_=>false
def isU8:Ty->Bool
 |.int .u8=>true
 |_=>false
def u8B (P:Program)(E:TypeId):Bool :=
 match P.underlying E with
 |some (.int .u8)=>true
 |_=>false
def tiB (P:Program)(t:TypeId):TI->Bool
 |.int k=>(match P.underlying t with|some (.int k')=>decide (k'=k)|_=>false)&&szB P t 1&&zB P t false [.int k 0]
 |.bool=>(match P.underlying t with|some .bool=>true|_=>false)&&szB P t 1&&zB P t false [.bool false]
 |.str=>(match P.underlying t with|some .string=>true|_=>false)&&szB P t 1&&zB P t false [.string ByteArray.empty]
 |.slice E e r=>(match P.underlying t with|some (.slice E')=>BT E' E|_=>false)&&szB P t 1&&zB P t false [.slice none 0 0]&&Cp 0 e.cells&&Cp 0 r &&
  szB P E e.cells&&(match P.info? E with | some i=>BT i.bytes r&&(match i.zero with | some z=>k6 z.cells.toList (zeroCells e) | none=>false) | none=>false)&&(!isU8 e||u8B P E)
 |.arr e n=>(match P.underlying t with|some (.array m E)=>BT m n&&szB P E e.cells&&ua P E e.isAgg|_=>false)&&Cp 0 e.cells&&szB P t (n*e.cells)&&zB P t true (List.replicate n (zeroCells e)).flatten
 |.struct a u=>(match P.underlying t with | some (.struct y)=>kq P a.cells y.toList u | _=>false)&&szB P t a.cells&&zB P t true (zeroCells a)&&a.isAgg&&(!a.flat||eqT P 64 a t)&&!P.eqGuardType P.depth t
 |.ptr=>(match P.underlying t with|some (.pointer _)=>true|_=>false)&&szB P t 1&&zB P t false [.pointer none]
 |.fn=>(match P.underlying t with|some (.func _ _ _)=>true|_=>false)&&szB P t 1&&zB P t false [.nilFunc]
 |.none=>true
theorem ql {n:Nat}:∀ {fs:List Field} {xs:List (Nat×Nat×Bool)},kq P n fs xs=true ->
  fs.mapM (λf=>(P.info? f.type).map λi=>(f.offset,i.size))=some (xs.map λx=>(x.1,x.2.1)) /\
  ∀ (i off k:Nat) (agg:Bool),xs[i]?=some (off,k,agg)->(agg=false->k=1)/\∃ f:Field,fs[i]?=some f/\f.offset=off/\0<k/\off+k<=n/\bP P f.type k /\
   (P.underlying f.type).map (λd=>match d with|.struct _|.array _ _=>true|_=>false)=some agg
 |[],[],_=>⟨rfl,λi off k agg h=>by simp at h⟩
 |[],_::_,h=>by simp[kq]at h
 |_::_,[],h=>by simp[kq]at h
 |f::fs,(off,k,agg)::xs,h=>by
  simp only[kq,BM,Cb]at h;obtain⟨⟨⟨⟨⟨⟨H,h2⟩,h3⟩,h4⟩,Y⟩,u⟩,R⟩:=h;have H:=BR H;have r:=fQ h2;obtain⟨h8,O⟩:=ql R;constructor
  ·unfold bP at r;cases J:P.info? f.type with
   |none=>rw[J]at r;cases r
   |some i =>
    rw[J]at r;simp only[CD,BK]at r;simp[Cv,J,h8,r,H]
  ·intro i z X y I;cases i with
   |zero =>
    simp at I;obtain⟨rfl,rfl,rfl⟩:=I;refine⟨λha=>?_,f,rfl,H,by simpa[CW]using h4,CG Y,r,qT h3⟩;rcases u with u|u
    ·rw[ha]at u;cases u
    ·exact BR u
   |succ i =>
    obtain⟨q1,f',M,Z⟩:=O i z X y (by simpa using I);exact⟨q1,f',by simpa using M,Z⟩
theorem BH {t:TypeId}{i:TI}(h:tiB P t i=true):oN P t i:=by
 cases i with
 |none=>trivial
 |int k =>
  simp only[tiB,BM]at h;obtain⟨⟨r,H⟩,I⟩:=h;split at r
  ·rename_i k' u;rw[of_decide_eq_true r]at u;exact⟨u,fQ H,lR I⟩
  ·cases r
 |bool =>
  simp only[tiB,BM]at h;obtain⟨⟨r,H⟩,I⟩:=h;split at r
  ·rename_i u;exact⟨u,fQ H,lR I⟩
  ·cases r
 |str =>
  simp only[tiB,BM]at h;obtain⟨⟨r,H⟩,I⟩:=h;split at r
  ·rename_i u;exact⟨u,fQ H,lR I⟩
  ·cases r
 |ptr =>
  simp only[tiB,BM]at h;obtain⟨⟨r,H⟩,I⟩:=h;split at r
  ·rename_i e u;exact⟨⟨e,u⟩,fQ H,lR I⟩
  ·cases r
 |fn =>
  simp only[tiB,BM]at h;obtain⟨⟨r,H⟩,I⟩:=h;split at r
  ·rename_i x y z u;exact⟨⟨x,y,z,u⟩,fQ H,lR I⟩
  ·cases r
 |slice E e a1 =>
  simp only[tiB,BM]at h;obtain⟨⟨⟨⟨⟨⟨⟨r,H⟩,I⟩,Z⟩,M⟩,Y⟩,R⟩,J⟩:=h;have a0:e=.int .u8->P.underlying E=some (.int .u8):=by
   intro he;subst he;have J:u8B P E=true:=by simpa[isU8]using J
   unfold u8B at J;split at J
   ·rename_i hq;exact hq
   ·cases J
  split at r
  ·rename_i E' u;rw[BR r]at u;split at R
   ·rename_i ti X;simp only[BM]at R;obtain⟨h8,h9⟩:=R;split at h9
    ·rename_i z hz;have O:=fQ Y;unfold bP at O;rw[X]at O;simp only[CD,BK]at O;exact⟨u,fQ H,lR I,by simpa[CW]using Z,⟨by simpa[CW]using M,a0⟩,ti,z,X,O,BR h8,hz,mJ h9⟩
    ·cases h9
   ·cases R
  ·cases r
 |arr e n =>
  simp only[tiB,BM]at h;obtain⟨⟨⟨r,H⟩,I⟩,Z⟩:=h;split at r
  ·rename_i m E u;simp only[BM]at r;obtain⟨⟨M,Y⟩,R⟩:=r;rw[BR M]at u;exact⟨⟨E,u,fQ Y,qT R⟩,by simpa[CW]using H,fQ I,yt Z⟩
  ·cases r
 |struct a a2 =>
  simp only[tiB,BM,Cb,CO]at h;obtain⟨⟨⟨⟨⟨r,H⟩,I⟩,Z⟩,M⟩,Y⟩:=h;split at r
  ·rename_i fs u;obtain⟨R,h8⟩:=ql r;refine⟨⟨fs,u,R,λi off n agg hx=>?_⟩,fQ H,yt I,?_,Y⟩
   ·obtain⟨q1,f,q2,q3⟩:=h8 i off n agg hx;exact⟨q1,f,by simpa using q2,q3⟩
   ·intro hf;rcases M with M|M
    ·rw[hf]at M;cases M
    ·exact AT M Z hf
  ·cases r
def tlB (P:Program):List (TypeId×TI)->Bool
 |[]=>true
 |x::l=>tiB P x.1 x.2&&tlB P l
theorem jg:∀ {l:List (TypeId×TI)},tlB P l=true->TOk P (gE l):=by
 intro l h;refine sD ?_;induction l with
 |nil=>simp
 |cons x l u =>
  simp only[tlB,BM]at h;intro y r;rcases BY.1 r with rfl|r
  ·exact BH h.1
  ·exact u h.2 y r
end
section
variable {P:Program} {T:TypeId->TI}
theorem k7 (hT:TOk P T)(Z:P.follows .mixedOrders=true){f:FuncId}{fn:Func}(hf:P.funcs[f]?=some fn)(hn:(fn.name== "runtime.NumGoroutine")=false) {E:TypeId} {e:Ty} {rs:List RK} {r:Bool}
  {O:ab [PK.rd (.list false E e)]->Option (ai rs×ah [PK.rd (.list false E e)])} {R0 A B C:Code} {rid:Nat} {o0 o1:Oper} {d0 q t t':Nat} {x0:Operand} {L:List (Nat×List (Nat×List Coe))} {K:Nat}
  (hb:fn.body=some (.seq R0 (.seq (.seq (.region rid #[o0,o1] false) (.cond (.tmp q) A B)) C))) (c0:o0.guard=none) (d4:o0.op=.move x0) (bl:o1.op=.binOp .eql t (.tmp d0) (.const (.slice none 0 0)) t') (c2:o1.guard=none) (b1:o1.dst=some q)
  {E':TypeId} (ht:P.underlying t=some (.slice E'))
  (a4:(dO fn.ntmps [] (.seq R0 (.seq (.seq (.region rid #[o0,o1] false) (.cond (.tmp q) A B)) C))&&Cw 1 fn.ntmps&&Cw fn.ntmps GH&&qp rs&&dl L [] (.seq R0 (.seq (.seq (.region rid #[o0,o1] false) (.cond (.tmp q) A B)) C)))=true)
  {S1:ab [PK.rd (.list false E e)]->St}
  (b3:∀ x,evK [] T L K R0 (av (c7 0 [PK.rd (.list false E e)] x)) (oM (λs _=>act [] T o0 s (λU=>some (ac U s))) (λ_ _=>none))=some (S1 x))
  (X:∀ x,one (S1 x) (.tmp d0)=.ro true E e x.1)
  (hF:∀ x,evK [] T L K (.seq (.cond (.tmp q) A B) C) (ac (cg (S1 x) [] q .one [.bool false]) (S1 x)) (cV T [PK.rd (.list false E e)] rs r fn.results.toList)=O x)
  (cu:∀ x y,x.1=[]->O x=some y->evK [] T L K (.seq (.cond (.tmp q) A B) C) (ac (cg (S1 x) [] q .one [.bool true]) (S1 x)) (cV T [PK.rd (.list false E e)] rs r fn.results.toList)=some y) :
  bO P ⟨f,[PK.rd (.list false E e)],rs,r,O⟩:=by
 refine⟨dZ hf hn hb,λw ro x vs u y M c1 cp hy=>?_⟩;simp only[BM]at a4;obtain⟨⟨⟨⟨h1,h2⟩,h3⟩,h4⟩,h5⟩:=a4;have h2:=CG h2;have h3:=CG h3;have hV:ay (gf w ro [PK.rd (.list false E e)] vs u fn.ntmps):=⟨λk hk=>c1 k hk,h3⟩;have ba:=vA (P:=P) (ro:=ro) M cp h2 h3;have hnoΓ:∀ c∈([]:List Ctr),bO P c:=by simp
 have b0:∀ z∈(gf w ro [PK.rd (.list false E e)] vs u fn.ntmps).fixb,z.1∈([]:List Nat):=λz hz=>kk (ps:=[PK.rd (.list false E e)]) hz
 have R:∀ z∈(gf w ro [PK.rd (.list false E e)] vs u fn.ntmps).fixt,z.1∈([]:List Nat):=λz hz=>kj (ps:=[PK.rd (.list false E e)]) hz
 simp only[dO,BM]at h1;simp only[dl,BM]at h5;obtain⟨d2,⟨b4,cy⟩,d3⟩:=h1;obtain⟨c3,⟨_,cc⟩,cb⟩:=h5;refine calls_of_wp hf hb ?_;rw[DA];generalize cw:bodyPost P fn (tD ⟨f,[PK.rd (.list false E e)],rs,r,O⟩ w ro vs u y)=Q;have hQ:∀ ex s1,cV T [PK.rd (.list false E e)] rs r fn.results.toList ex s1=some y->∀ a H,Rel P (gf w ro [PK.rd (.list false E e)] vs u fn.ntmps) s1 a H->Q (exOf ex) a H:=by
  intro ex s1 bb a' H J;obtain⟨cx,v,a0,b2⟩:=yn (c:=⟨f,[PK.rd (.list false E e)],rs,r,O⟩) hT h4 hV M h2 bb J;have c4:a'.defers=[]:=by obtain⟨W,J⟩:=J;exact J.df
  subst cw;rcases cx with rfl|rfl <;> exact⟨c4,v,a0,b2⟩
 have a6:∀ (b:Bool),evK [] T L K (.seq (.cond (.tmp q) A B) C) (ac (cg (S1 x) [] q .one [.bool b]) (S1 x)) (cV T [PK.rd (.list false E e)] rs r fn.results.toList)=some y ->
   ∀ a H,Rel P (gf w ro [PK.rd (.list false E e)] vs u fn.ntmps) (ac (cg (S1 x) [] q .one [.bool b]) (S1 x)) a H->(Code.cond (.tmp q) A B).wp P (Exit.then (C.wp P Q) Q) a H:=by
  intro b a9 a H J;refine so hV hT hnoΓ Z b0 (nt:=fn.ntmps) (fix:=[]) rfl R (.cond (.tmp q) A B) (by simp only[dO,BM];exact cy) (by simp only[dl,BM];exact cc) _ _ y _ a9 (λex s1 I a H J=>?_) a H J;cases ex with
  |normal=>exact so hV hT hnoΓ Z b0 (nt:=fn.ntmps) (fix:=[]) rfl R C d3 cb s1 _ y Q I hQ a H J
  |exit bx=>exact hQ (.exit bx) s1 I a H J
  |ret=>exact hQ .ret s1 I a H J
 have a5:∀ (i:Nat) (o:Oper),(#[o0,o1]:Array Oper)[i]?=some o->lE fn.ntmps [] #[o0,o1] o=true:=λi o hi=>by
  simp only[CA]at b4;exact b4 o (by simpa using Cs hi)
 refine wp_seq (so hV hT hnoΓ Z b0 (nt:=fn.ntmps) (fix:=[]) rfl R R0 d2 c3 _ _ (S1 x) _ (b3 x) (λex s0 I a H J=>?_) _ _ ba);cases ex with
 |exit bx=>cases I
 |ret=>cases I
 |normal =>
  have I:act [] T o0 s0 (λU=>some (ac U s0))=some (S1 x):=I;rw[tK]at I;obtain⟨U,hU,I⟩:=CI.1 I;simp only[BK]at I;refine wp_seq (wp_seq (wp_region ?_));have a2:DJ (#[o0,o1]:Array Oper).size=[0,1]:=rfl;rw[a2,wpOps_cons];refine wM hV hT hnoΓ (ops:=#[o0,o1]) (i:=0) (o:=o0) rfl (mF rfl R (a5 0 o0 rfl)) (λj dc hg=>by rw[c0]at hg;cases hg) (U:=U) (by unfold mC;rw[c0];exact hU) J (λa1 w1 Y=>?_);rw[I]at Y;rw[wpOps_cons];obtain⟨W1,Y⟩:=Y;have a3:bN (gf w ro [PK.rd (.list false E e)] vs u fn.ntmps) o1:=mF rfl R (a5 1 o1 rfl);obtain⟨h7,_,_,_,_⟩:=bt Y (.tmp d0) (by rw[X x];simp);rw[X x]at h7;obtain⟨A',bn,hv,_,d1⟩:=h7;have hv:a1.eval (.tmp d0)=.slice A' x.1.length bn:=by simpa using hv
  have b9:A'=none->x.1=[]:=λhA=>by
   cases hx:x.1 with
   |nil=>rfl
   |cons y ys =>
    obtain⟨g,o,b5,_⟩:=d1 (by rw[hx];simp);rw[hA]at b5;cases b5
  have a9:evK [] T L K (.seq (.cond (.tmp q) A B) C) (ac (cg (S1 x) [] q .one [.bool A'.isNone]) (S1 x)) (cV T [PK.rd (.list false E e)] rs r fn.results.toList)=some y:=by
   cases hA:A' with
   |none=>exact cu x y (b9 hA) hy
   |some ad=>exact (hF x).trans hy
  have a0:(execOp a1.eval o1).run P w1=.ok (.value (.bool A'.isNone)) w1:=by
   have:=Lib.run_eql_slice_nil (P:=P) w1 t E' A' x.1.length bn 0 0 ht;have hc:a1.eval (.const (.slice none 0 0))=.slice none 0 0:=rfl;simp[execOp,bl,hv,hc,eqGuard,this]
  unfold wpOp;have hi:(#[o0,o1]:Array Oper)[1]?=some o1:=rfl;simp only[hi];have hw:Region.wanted o1 (yielded #[o0,o1] a1.tmps)=true:=by simp[Region.wanted,c2]
  rw[if_pos hw];refine .inl (dW a0 ?_);rw[b1];show Exit.then _ _ _ _ _;exact a6 _ a9 _ _ (Y.putLs hV q (a3 q b1).1 (a3 q b1).2 _ .one [.bool A'.isNone] (.bool A'.isNone) [.bool A'.isNone] (CT _) rfl ⟨⟨rfl,id,rfl⟩,trivial⟩)
end
open Go.ChangeShapes Go.WideShapes
section
variable {H:Type} {enc:TypeId×Value->H} {P:Program}
theorem mM (J:laidOutB P=true){W W':World}{O:Nat->Bool}:∀ {y:List TypeId} {z:List Value} {ds:List (DataW H)} {ps:List MemPlace},(∀ t∈y,P.readableRec t=true/\t<P.types.size) ->
  DataW.TrodAll enc P W 0 (λ_=>true) true y z ds ps->(∀ x∈ps,W.sameAt W' x)->(∀ x∈ps,O x.block=true)->DataW.TrodAll enc P W' 0 O true y z ds ps
 |[],[],[],_,_,h,_,_=>h
 |[],[],_::_,_,_,h,_,_=>h.elim
 |[],_::_,_,_,_,h,_,_=>h.elim
 |_::_,[],_,_,_,h,_,_=>h.elim
 |_::_,_::_,[],_,_,h,_,_=>h.elim
 |t::y,v::z,d::ds,ps,I,⟨p,q,X,Y,e⟩,M,u=>by
  subst e;refine⟨p,q,WideElems.Trod_stays J (I t (BQ ..)).1 (I t (BQ ..)).2 X (λx r=>M x (BN _ r)) (λx r=>u x (BN _ r)),
   mM J (λR Z=>I R (BP _ Z)) Y (λx r=>M x (BO _ r)) (λx r=>u x (BO _ r)),rfl⟩
theorem r9 (hl:laidOutB P=true){f:Func}{s:ChangeSpec}{u Y I Z:Bool}{W W':World}{y:Array Value}{ds gs:List (DataW H)}{r:List MemPlace}
  (hW:DataW.Whole enc P f.params.toList s.vars u W y.toList ds gs r) (J:s.vars=[]) (hb:Below W.heap.size W W') (a0:∀ t∈f.params.toList,P.readableRec t=true/\t<P.types.size)
  {tb:TypeId} (a1:f.resultTypes=#[tb]) (z:P.underlying tb=some .bool) (a2:(s.fn H (ds++gs)).results=[.lit (.bool true)]) (R:(s.fn H (ds++gs)).args=ds) (a9:(s.fn H (ds++gs)).vars=[]) :
  s.post enc P f u Y I Z W y (.bool true) W':=by
 have X:∀ p∈r,p.block<W.heap.size:=λp hp=>by simpa using hW.lt p hp
 have a5:=hW;obtain⟨p,q,hA,hV,e,hz,hn⟩:=hW;rw[J]at hV;obtain⟨rfl,rfl⟩:=trodVars_none hV;simp only[List.append_nil]at e;subst e;have O:∀ x∈r,W.sameAt W' x:=λx hx=>hb.same (X x hx)
 have a3:(Value.bool true).resultList f.resultTypes.size=[.bool true]:=by rw[a1];rfl
 have hr:∀ (b:Nat) (M:Nat->Bool) (hd:Bool),DataW.TrodAll enc P W' b M hd f.resultTypes.toList ((Value.bool true).resultList f.resultTypes.size) (s.fn H (ds++[])).results []:=by
  intro b M hd;rw[a3,a2,a1];exact trodAll_mk1 (shut_bool z true)
 have ha:∀ (M:Nat->Bool),(∀ x∈r,M x.block=true)->DataW.TrodAll enc P W' 0 M true f.params.toList y.toList (s.fn H (ds++[])).args r:=by
  intro M a4;rw[R];exact mM hl a0 hA O a4
 have hv:∀ (M:Nat->Bool),DataW.TrodVars enc P W' M s.vars (s.fn H (ds++[])).vars []:=by
  intro M;rw[J,a9];rfl
 refine⟨ds,[],r,[],r,[],a5,hr _ _ _,ha _ (λx hx=>by simpa using X x hx),hv _,hb.frame _,λ_=>⟨ok_one a1 rfl (okWide_bool_mk z true),_,_,([]++r)++[],⟨[]++r,[],trodAll_append (ha _ (λ_ _=>rfl)) (hr _ _ _),hv _,rfl,?_,?_⟩,?_⟩⟩
 ·intro b off hp;have hp:MemPlace.cell b off∈r:=by simpa using hp
  rw[hb.frozen (p:=⟨b,off,none⟩) (X _ hp)];exact hz b off hp
 ·intro a6;have:=hn a6;simpa using this
 ·intro x hx _;simpa using hx
end
section
variable {H:Type} {enc:TypeId×Value->H} {P:Program} {w:World} {base:Nat} {spare:Nat->Bool} {held:Bool}
def shF (P:Program)(g:Ty->TypeId->Bool):List Field->Nat->Ty->Bool
 |[],_,_=>false
 |[f],off,b=>BT f.offset off&&BT (P.cellsOf f.type) b.cells&&g b f.type
 |f::r,off,.pair b c=>BT f.offset off&&BT (P.cellsOf f.type) b.cells&&g b f.type&&shF P g r (off+b.cells) c
 |_,_,_=>false
def shT (P:Program):Nat->Ty->TypeId->Bool
 |0,_,_=>false
 |n+1,a,t=>match a with
  |.int k=>(match P.underlying t with|some (.int k')=>decide (k'=k)|_=>false)
  |.bool=>(match P.underlying t with|some .bool=>true|_=>false)
  |.str=>(match P.underlying t with|some .string=>true|_=>false)
  |.pair b c=>(match P.underlying t with|some (.struct fs)=>shF P (shT P n) fs.toList 0 (.pair b c)&&BT (P.cellsOf t) (b.cells+c.cells)|_=>false)
  |.list _ E e=>(match P.underlying t with|some (.slice E')=>BT E' E&&BT (P.cellsOf E) e.cells&&Cp 0 e.cells&&shT P n e E|_=>false)
  |.unit=>false
  |.hdr=>false
def Sm:(a:Ty)->a.den->Prop
 |.int k,n=>(Lit.int k n).wf=true
 |.pair a b,x=>Sm a x.1/\Sm b x.2
 |.list _ _ e,r=>r.length<=maxLen/\∀ x∈(r:List e.den),Sm e x
 |.bool,_=>True
 |.str,s=>s.size<=maxLen
 |.unit,_=>True
 |.hdr,_=>True
theorem k8 {α β:Type}{f:α->Option β}:∀ (l:List α) (r:List β),l.mapM f=some r->r.length=l.length/\∀ (i:Nat) (x:α),l[i]?=some x->∃ y,f x=some y/\r[i]?=some y
 |[],r,h=>by
  simp at h;subst h;exact⟨rfl,λi x O=>by simp at O⟩
 |x::l,r,h=>by
  rw[Cv]at h;cases I:f x with
  |none=>rw[I]at h;cases h
  |some y =>
   rw[I]at h;cases J:l.mapM f with
   |none=>rw[J]at h;cases h
   |some R =>
    rw[J]at h;cases h;obtain⟨M,X⟩:=k8 l R J;refine⟨by simp[M],λi u z=>?_⟩;cases i with
    |zero=>simp at z;subst z;exact⟨y,I,rfl⟩
    |succ i=>simpa using X i u (by simpa using z)
theorem rT {a:Addr}{n:Nat}{cs:List Value}(h:w.cells? base a n=some cs):base<=a.block/\cs.length=n/\∀ i u,cs[i]?=some u->w.cell? (a.add i)=some u:=by
 unfold World.cells? at h;split at h
 ·rename_i O;obtain⟨r,R⟩:=k8 _ _ h;refine⟨O,by simpa using r,λi u z=>?_⟩;have J:i<n:=by have:=(BU.1 z).1;rw[r]at this;simpa using this
  obtain⟨y,M,I⟩:=R i i (by simp[J]);rw[z]at I;cases I;exact M
 ·cases h
theorem oH {g:Ty->TypeId->Bool}{rd:TypeId->List Value->Option (DataW H×List MemPlace)}
  (R:∀ b t,g b t=true->∀ cs d,rd t cs=some d->∃ x:b.den,Rd w (λk=>k<w.heap.size) b x cs/\Sm b x) :
  ∀ (fs:List Field) (off:Nat) (b:Ty),shF P g fs off b=true->∀ (cs:List Value),cs.length=off+b.cells ->
   (∀ f∈fs,∃ d,rd f.type ((cs.drop f.offset).take (P.cellsOf f.type))=some d)->∃ x:b.den,Rd w (λk=>k<w.heap.size) b x (cs.drop off)/\Sm b x
 |[],_,_,h=>by simp[shF]at h
 |[f],off,b,h=>by
  intro cs r M;simp only[shF,BM]at h;obtain⟨⟨u,I⟩,Z⟩:=h;have u:=BR u;have I:=BR I;obtain⟨d,J⟩:=M f (BQ ..);rw[u,I,List.take_of_length_le (by simp;omega)]at J;exact R b f.type Z _ d J
 |f::z::fs,off,.pair b c,h=>by
  intro cs r M;simp only[shF,BM]at h;obtain⟨⟨⟨u,I⟩,Z⟩,h4⟩:=h;have u:=BR u;have I:=BR I;have r:cs.length=off+(b.cells+c.cells):=r;obtain⟨d,J⟩:=M f (BQ ..);rw[u,I]at J;obtain⟨x,hx,X⟩:=R b f.type Z _ d J;obtain⟨y,hy,Y⟩:=oH R (z::fs) (off+b.cells) c h4 cs (by omega) (λf0 O=>M f0 (BP _ O));refine⟨(x,y),⟨_,_,?_,hx,hy⟩,X,Y⟩;rw[<- Ct,List.take_append_drop]
 |f::z::fs,off,.int _,h=>by simp[shF]at h
 |f::z::fs,off,.bool,h=>by simp[shF]at h
 |f::z::fs,off,.str,h=>by simp[shF]at h
 |f::z::fs,off,.unit,h=>by simp[shF]at h
 |f::z::fs,off,.list _ _ _,h=>by simp[shF]at h
 |f::z::fs,off,.hdr,h=>by simp[shF]at h
theorem oI {β:Type}(Q:Nat->β->Prop):∀ (n:Nat),(∀ i,i<n->∃ x,Q i x)->∃ u:List β,u.length=n/\∀ i x,u[i]?=some x->Q i x
 |0,_=>⟨[],rfl,λi x h=>by simp at h⟩
 |n+1,h=>by
  obtain⟨u,I,O⟩:=oI Q n (λi M=>h i (by omega));obtain⟨x,J⟩:=h n (by omega);refine⟨u++[x],by simp[I],λi y r=>?_⟩;by_cases M:i<n
  ·rw[CE (by omega)]at r;exact O i y r
  ·have z:i<(u++[x]).length:=(BU.1 r).1;have:i=n:=by simp at z;omega
   subst this;rw[CC (by omega),I,Nat.sub_self]at r;simp at r;subst r;exact J
theorem qU:∀ (n:Nat) (a:Ty) (t:TypeId),shT P n a t=true->∀ (I:Nat) (cs:List Value) (d:DataW H×List MemPlace),DataW.trod enc P w base spare held I t cs=some d ->
    ∃ x:a.den,Rd w (λk=>k<w.heap.size) a x cs/\Sm a x
  |0,_,_,h=>by simp[shT]at h
  |n+1,a,t,h=>by
    intro I cs d z;cases I with
    |zero=>simp[DataW.trod]at z
    |succ I =>
      cases a with
      |int k =>
        simp only[shT]at h;split at h
        · rename_i k' O
          have hk:=of_decide_eq_true h;subst hk;simp only[DataW.trod,O]at z;split at z <;> first|(rename_i M;cases M;done)|skip
          all_goals first
            | (rename_i k1 k2 m J
               cases J;split at z
               · rename_i hw
                 obtain⟨rfl,hw⟩:=hw;exact⟨m,rfl,hw⟩
               · cases z)
            |cases z
        · cases h
      |bool =>
        simp only[shT]at h;split at h
        · rename_i O
          simp only[DataW.trod,O]at z;split at z <;> first|(rename_i M;cases M;done)|skip
          all_goals first
            |(rename_i b J;exact⟨b,rfl,trivial⟩)
            |cases z
        · cases h
      |str =>
        simp only[shT]at h;split at h
        · rename_i O
          simp only[DataW.trod,O]at z;split at z <;> first|(rename_i M;cases M;done)|skip
          all_goals first
            | (rename_i b J
               split at z
               · rename_i hb
                 exact⟨b,rfl,hb⟩
               · cases z)
            |cases z
        · cases h
      |unit=>simp[shT]at h
      |hdr=>simp[shT]at h
      |pair b c =>
        simp only[shT]at h;split at h
        · rename_i fs O
          simp only[BM]at h;obtain⟨h1,h2⟩:=h;have h2:=BR h2;simp only[DataW.trod,O]at z;split at z
          · rename_i a4
            simp only[BS]at z;obtain⟨ys,b5,_⟩:=z;obtain⟨h3,h4⟩:=k8 _ _ b5;have:=oH (w:=w) (rd:=DataW.trod enc P w base spare held I) (λb t hb cs d z=>qU n b t hb I cs d z) fs.toList 0 (.pair b c) h1 cs (by rw[a4,h2,CU];rfl) (λf hf=>by
              obtain⟨i,hi,e⟩:=C3 hf;obtain⟨y,h5,_⟩:=h4 i f (by rw[B4 hi,e]);exact⟨y,h5⟩)
            simpa using this
          · cases z
        · cases h
      |list m E e =>
        simp only[shT]at h;split at h
        · rename_i E' O
          simp only[BM]at h;obtain⟨⟨⟨h1,h2⟩,h3⟩,h4⟩:=h;have h1:=BR h1;subst h1;have h2:=BR h2;have h3:0<e.cells:=by simpa[CW]using h3
          simp only[DataW.trod,O]at z;split at z <;> first|(rename_i M;cases M;done)|skip
          all_goals first
            |cases z;done
            |skip
          · exact⟨[],Rd.nil w _ m _ e,DF _,by simp⟩
          · rename_i E2 R a1 b4 J
            cases J;split at z
            · rename_i hc
              obtain⟨b2,ba,b9⟩:=hc;obtain⟨bb,a5,_⟩:=CI.1 z;obtain⟨h5,h6⟩:=k8 _ _ a5;have b3:∀ i,i<a1->∃ x:e.den,∃ c,w.cells? base (R.add (i*e.cells)) e.cells=some c/\Rd w (λk=>k<w.heap.size) e x c/\Sm e x:=by
                intro i hi;obtain⟨y,h7,_⟩:=h6 i i (by simp[hi]);obtain⟨c,h8,h9⟩:=CI.1 h7;rw[h2]at h8;obtain⟨x,hx,b1⟩:=qU n e _ h4 I c y h9;exact⟨x,c,h8,hx,b1⟩
              obtain⟨xs,a9,Y⟩:=oI (λi (x:e.den)=>∃ c,w.cells? base (R.add (i*e.cells)) e.cells=some c/\Rd w (λk=>k<w.heap.size) e x c/\Sm e x) a1 b3;refine⟨xs,⟨some R,b4,by rw[a9],by omega,λhp=>?_⟩,by omega,λx hx=>?_⟩
              · have b0:0<xs.length:=hp
                obtain⟨c,Z,a3,_⟩:=Y 0 xs[0] (B4 b0);obtain⟨_,bl,X⟩:=rT Z;have h0:0<c.length:=by omega
                have r:=X 0 c[0] (B4 h0);have e0:(R.add (0*e.cells)).add 0=R:=by simp[Addr.add]
                rw[e0]at r;have a0:R.spot=none/\R.block<w.heap.size:=by
                  unfold World.cell? at r;split at r
                  · rename_i hh
                    split at r
                    · cases r
                    · rename_i hs
                      refine⟨by simpa using hs,(Cg.1 hh).1⟩
                  · cases r
                obtain⟨g,o,sp⟩:=R;obtain⟨a6,a2⟩:=a0;simp only at a6 a2;subst a6;refine⟨g,o,rfl,a2,λj x hj=>?_⟩;obtain⟨c,Z,a3,_⟩:=Y j x hj;obtain⟨_,_,X⟩:=rT Z;refine⟨c,a3,λi u hi=>?_⟩;have:=X i u hi
                rwa [fb,fb]at this
              · obtain⟨j,hj,e1⟩:=C3 hx
                obtain⟨c,_,_,hs⟩:=Y j x (by rw[B4 hj,e1]);exact hs
            · cases z
        · cases h
end
section
variable {H:Type} {enc:TypeId×Value->H} {P:Program} {w:World}
theorem zF {n:Nat}{a:Ty}{t:TypeId}(r:shT P (n+1) a t=true){v:Value}{d:DataW H}{p:List MemPlace}(J:DataW.Trod enc P w 0 (λ_=>true) true t v d p){base:Nat}(u:DM P w .any base t v) :
  ∃ x:a.den,(∃ I,db a.isAgg v I/\Rd w (λk=>k<w.heap.size) a x I)/\Sm a x:=by
 obtain⟨z,J⟩:=J;obtain⟨x,O,M⟩:=qU (n+1) a t r z _ _ J;refine⟨x,⟨v.cells.toList,?_,O⟩,M⟩;cases a with
 |int k =>
  simp only[shT]at r;split at r
  ·rename_i Z y;obtain⟨n,rfl⟩:=okWide_int y u;rfl
  ·cases r
 |bool =>
  simp only[shT]at r;split at r
  ·rename_i y;obtain⟨n,rfl⟩:=okWide_bool y u;rfl
  ·cases r
 |str =>
  simp only[shT]at r;split at r
  ·rename_i y;obtain⟨n,rfl⟩:=okWide_string y u;rfl
  ·cases r
 |list m E e =>
  simp only[shT]at r;split at r
  ·rename_i E' y;obtain⟨A,X,R,rfl⟩:=okWide_slice y u;rfl
  ·cases r
 |unit=>simp[shT]at r
 |hdr=>simp[shT]at r
 |pair b c =>
  simp only[shT]at r;split at r
  ·rename_i Y y;obtain⟨I,rfl,_⟩:=okWide_struct y u;show Value.agg I=.agg (Value.agg I).cells.toList.toArray;simp[Value.cells]
  ·cases r
def Sms:(as:List Ty)->ab (as.map .rd)->Prop
 |[],_=>True
 |a::as,x=>Sm a x.1/\Sms as x.2
def ub (P:Program):List Ty->List TypeId->Bool
 |[],[]=>true
 |a::as,t::r=>shT P 64 a t&&ub P as r
 |_,_=>false
theorem rU {pr:Nat->Prop}:∀ (as:List Ty) (I:List TypeId) (u:List Value) (ds:List (DataW H)) (ps:List MemPlace),ub P as I=true->DataW.TrodAll enc P w 0 (λ_=>true) true I u ds ps ->
  (∃ r,∀ (j:Nat) (t:TypeId) (v:Value),I[j]?=some t->u[j]?=some v->DM P w .any r t v)->∃ x:ab (as.map .rd),c9 P w (λk=>k<w.heap.size) pr (as.map .rd) x u (as.map λ_=>[])/\Sms as x
 |[],[],[],[],_,_,_,_=>⟨(),⟨rfl,rfl⟩,trivial⟩
 |[],[],[],_::_,_,_,h,_=>h.elim
 |[],[],_::_,_,_,_,h,_=>h.elim
 |[],_::_,_,_,_,h,_,_=>by simp[ub]at h
 |_::_,[],_,_,_,h,_,_=>by simp[ub]at h
 |_::_,_::_,[],_,_,_,h,_=>h.elim
 |_::_,_::_,_::_,[],_,_,h,_=>h.elim
 |a::as,t::I,v::u,d::ds,ps,M,⟨p,q,Z,h2,_⟩,⟨r,z⟩=>by
  simp only[ub,BM]at M;obtain⟨x,R,J⟩:=zF (n:=63) M.1 Z (z 0 t v rfl rfl);obtain⟨y,hy,O⟩:=rU as I u ds q M.2 h2 ⟨r,λj Y X h3 h4=>z (j+1) Y X (by simpa using h3) (by simpa using h4)⟩;exact⟨(x,y),⟨v,u,[],_,rfl,rfl,⟨rfl,R⟩,hy⟩,J,O⟩
theorem zG (tys:List Ty):(tys.map λ_=>([]:List Nat)).flatten=[]:=by
 induction tys with
 |nil=>rfl
 |cons a tys r=>simp
theorem yu {f:FuncId}{tys:List Ty}{y:Bool}{I:ab (tys.map PK.rd)->Option (ai [.v .bool]×ah (tys.map PK.rd))}(hs:bO P ⟨f,tys.map .rd,[.v .bool],y,I⟩){x:ab (tys.map .rd)}{X:List Value}{o:ah (tys.map .rd)}
  (hx:c9 P w (λk=>k<w.heap.size) (λk=>k<w.heap.size) (tys.map .rd) x X (tys.map λ_=>[])) (hd:I x=some ((true,()),o)):Calls P f X.toArray w (λe w'=>e=.returned (.bool true)/\Below w.heap.size w w'):=by
 have R:=zG tys;have:=hs.2 w (λk=>k<w.heap.size) x X _ _ (hx.mono (λ_ h=>h) (λk M=>⟨M,by rw[R];simp⟩)) (λk M=>⟨M,by rw[R];simp⟩) (by rw[R];exact Ci) hd;refine this.mono λe w' hp=>?_
 obtain⟨v,us,N,a5,a6,rfl,r,a2,Z,Y,a1,a0,_,_,J,_,_⟩:=hp;refine⟨?_,⟨Z,Y,a1,a2,λk M=>a0 k M (by rw[R];simp)⟩⟩;obtain⟨u,a4,b,a3,e1,e2,⟨cs,z,O⟩,e3,e4⟩:=J;subst e3;subst e1;have r:v=u:=r;subst r;have z:cs=[v]:=z;have O:cs=[.bool true]:=O.1;rw[z]at O;simp only[Cq,and_true]at O;rw[O]
end
end Go.Proofs.YtaegajachoklkaaGreatEv
