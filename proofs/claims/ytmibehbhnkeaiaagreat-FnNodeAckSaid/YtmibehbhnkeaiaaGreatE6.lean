/- One operation looks at some slots alone. -/
import Derived.Test.YtmibehbhnkeaiaaGreatE3
import Derived.Laws.StructEq
import Derived.Lib.SliceRun
import Derived.ProofKit
set_option linter.unusedVariables false
set_option linter.unusedSimpArgs false
open Array renaming getElem?_eq_getElem->FV,getD_eq_getD_getElem?->FW,replicate->GJ,all_eq_true_iff_forall_mem->GU,getElem?_eq_some_iff->Gd,getElem?_append_left->Ge,getElem?_replicate->Gk,mem_of_getElem?->Gq,length_toList->Gw,mem_append->G9
open Bool renaming and_eq_true->FL,not_eq_true'->GL,or_eq_true->GY,false_eq_true->Gb,and_false->Gc,and_true->Gj,true_and->G0,not_false->HH
open Classical renaming byContradiction->GB
open Go.ByteArray renaming toList_eq->Gy
open Go.Result renaming andThen_ok->GP
open Go.Sem renaming run_bind->GV,run_pure->G6
open Go.Value renaming okWide->HJ
open List renaming mem_append->FK,mem_append_left->FM,mem_append_right->FN,mem_cons_of_mem->FO,mem_cons_self->FP,getElem?_eq_some_iff->FT,mem_map->FU,mem_cons->FX,getD_eq_getElem?_getD->FY,flatten_cons->FZ,getElem?_eq_getElem->F0,mem_flatMap->F2,count_append->F3,mem_singleton_self->F4,count_pos_iff->F5,all_eq_true->F6,map_cons->F7,getElem?_append_right->F8,getElem?_append_left->GA,append_assoc->GD,nil_append->GF,mem_singleton->GG,nodup_cons->GI,length_cons->GN,nodup_append->GO,mem_filter->GS,any_eq_true->GX,map_append->GZ,count_cons->Ga,nodup_nil->Gf,count_eq_zero->Gg,any_eq_false->Gh,all_cons->Gi,getElem?_cons_succ->Gl,getElem?_eq_none->Gp,drop_drop->Gr,mapM_cons->Gt,map_congr_left->Gv,countP_eq_zero->Gx,getElem_of_mem->Gz,set_cons_succ->G1,find?_eq_none->G4,getElem?_map->G5,size_toArray->G7,mem_toArray->G8,countP_cons->HA,foldl_cons->HE,range->HG,map_nil->HI
open List.cons renaming injEq->Gn
open Nat renaming eq_of_beq_eq_true->FQ,beq->FS,le_of_ble_eq_true->GC,lt_succ_self->GQ,zero_add->GR,blt_eq->GT,blt->Gm,le_refl->Gs,ble->Gu,lt_of_lt_of_le->G3,zero_le->HC,strongRecOn->HF
open Option renaming map_eq_some_iff->FR,map_some->F9,bind_eq_some_iff->GE,bind_assoc->GK,bind_some->GM,bind_none->GW,getD_some->HB
open Option.some renaming injEq->FJ,inj->HD
open Prod.mk renaming injEq->F1
namespace Go.Proofs.YtmibehbhnkeaiaaGreatEv
open Go Go.RowKit
section
variable {P:Program} {V:Env} {Γ:List Ctr} {T:TypeId->TI} {st st':St} {o:Oper} {R:Type} {κ:Upd->Option R} {r:R}
theorem ii {α β:Type}(b:Bool)(x y:Option α)(f:α->Option β):(bif b then x else y).bind f=bif b then x.bind f else y.bind f:=by cases b <;> rfl
theorem xO {b:Option (Bool×Nat×Nat)}{U:Upd}:kD st b U κ=(kD st b U some).bind κ:=by
 unfold kD;split
 ·split
  ·simp only[GK];congr 1;funext y;split <;> rfl
  ·rfl
 ·rfl
theorem xP {d:Nat}{f:FuncId}{xs:List (aK×List Leaf)}:j0 Γ st d f xs κ=(j0 Γ st d f xs some).bind κ:=by
 unfold j0;cases mD Γ f with
 |none=>rfl
 |some c =>
  simp only[ig,GK];congr 1;funext u;cases pP Γ (ac u.1 st) c.ps u.2.1 with
  |none=>rfl
  |some g =>
   simp only[ii,GK,GW];congr 2;funext y;exact xO
theorem nG {z:St}{H:Upd}{d:Nat}{E:TypeId}{e:Ty}{u:Nat}{p:Bool}{xs:List e.den}{ks:List (Nat×Nat)}{y:Leaf}:eh st z H d E e u p xs ks y κ=(eh st z H d E e u p xs ks y some).bind κ:=by
 unfold eh;split
 ·simp only[ii,GW,GM]
 ·rfl
theorem uS {z:Upd}{d:Nat}{E:TypeId}{e:Ty}{u:Nat}{x y:Leaf}:eR st z d E e u x y κ=(eR st z d E e u x y some).bind κ:=by
 unfold eR;split
 ·split
  ·rw[ii,<- nG];rfl
  ·rfl
 ·exact nG
 ·rfl
theorem uT {d:Nat}{E:TypeId}{e:Ty}{u:Nat}{x y:Leaf}:jd st d E e u x y κ=(jd st d E e u x y some).bind κ:=by
 unfold jd;simp only[iI,ii,GK,<- uS]
theorem oD {r j i off n:Nat}{p:Bool}{E:TypeId}{e:Ty}{xs:List e.den}{h:Option (Nat×Nat)}{ls:List Leaf}:im st r j i off n p E e xs h ls κ=(im st r j i off n p E e xs h ls some).bind κ:=by
 unfold im;simp only[GK];congr 1;funext u;split
 ·rw[ii];congr 1;split
  ·rfl
  ·simp only[ii,GM,GW]
 ·rfl
theorem uU:act Γ T o st κ=(act Γ T o st some).bind κ:=by
 cases u:o.op <;> simp only[act,wrU,u] <;> (repeat' split) <;>
  (try simp only[ii,GK,GW,GM]) <;> (try rfl) <;> (try exact xP) <;> (try (rw[uT];done)) <;> (try (rw[oD];done)) <;> (try (rw[<- oD];done))
theorem bq {q:Nat}(h:st' q=st q):∀ (U:Upd),ac U st' q=ac U st q
 |[]=>h
 |(r,c)::U=>by simp only[ac,bq h U]
theorem ee {x:Operand}(h:∀ t,x=.tmp t->st' t=st t):au st' x=au st x:=by
 cases x with
 |tmp t=>simp only[au,h t rfl]
 |_=>rfl
theorem dP {x:Operand}(h:∀ t,x=.tmp t->st' t=st t):one st' x=one st x:=by
 unfold one;rw[ee h]
theorem lW:∀ (u y:List Leaf),ax (u++y)=ax u++ax y
 |[],_=>rfl
 |l::u,y=>by cases l <;> simp[ax,lW u y]
theorem aN (l:Leaf)(ls:List Leaf):ax (l::ls)=ax [l]++ax ls:=lW [l] ls
theorem gj:∀ (n:Nat) (ls:List Leaf) (q:Nat),q∈ax (ls.drop n)->q∈ax ls
 |0,_,_,h=>h
 |n+1,[],_,h=>h
 |n+1,l::ls,q,h=>by rw[aN];exact FN _ (gj n ls q h)
theorem sR:∀ (n:Nat) (ls:List Leaf) (q:Nat),q∈ax (ls.take n)->q∈ax ls
 |0,_,_,h=>by simp[ax]at h
 |n+1,[],_,h=>by simp[ax]at h
 |n+1,l::ls,q,h=>by
  rw[List.take_succ_cons,aN,FK]at h;rw[aN,FK];exact h.imp id (sR n ls q)
theorem rZ:∀ {ls:List Leaf} {k:Nat} {l:Leaf},ls[k]?=some l->∀ q∈ax [l],q∈ax ls
 |[],_,_,h,_,_=>by simp at h
 |y::ls,0,l,h,q,u=>by simp at h;subst h;rw[aN];exact FM _ u
 |y::ls,k+1,l,h,q,u=>by rw[aN];exact FN _ (rZ (by simpa using h) q u)
theorem kn {ks:List (Nat×Nat×Nat)}{ep:Nat}(h:∀ q∈EPO::ks.map (·.1),st' q=st q):bu st' ks ep=bu st ks ep:=by
 unfold bu;rw[h EPO (FP ..)];congr 1;induction ks with
 |nil=>rfl
 |cons k ks y =>
  rw[Gi,Gi,y (λq u=>h q (by simp at u ⊢;rcases u with u|u;exact .inl u;exact .inr (.inr u))),h k.1 (by simp)]
theorem i8 {p:Bool}{ks:List (Nat×Nat×Nat)}{ep:Nat}{u:Option (Nat×Nat×Nat)}{E:TypeId}{e:Ty}{xs:List e.den}:ax [.nal p ks ep u E e xs]=EPO::ks.map (·.1):=by simp[ax]
theorem wF {p:Bool}{ks:List (Nat×Nat×Nat)}{ep:Nat}{a:Ty}{x:a.den}{off:Nat}:ax [.np p ks ep a x off]=EPO::ks.map (·.1):=by simp[ax]
theorem cA {l:Leaf}(h:∀ q∈ax [l],st' q=st q):aH st' l=aH st l:=by
 cases l with
 |al r j v=>simp only[aH,h r (by simp[ax])]
 |nal p y ep u E e z=>rw[i8]at h;simp only[aH,kn h]
 |_=>rfl
theorem ky:∀ (a:Ty) (ls:List Leaf) (p:Bool) (x:a.den) (u:List Leaf),be st a ls=some (p,x,u)->∃ I,ls=I++u
 |.int k,ls,p,x,u,h=>by
  simp only[be]at h;split at h
  ·split at h
   ·simp at h;exact⟨[_],by rw[<- h.2.2];rfl⟩
   ·cases h
  ·cases h
 |.bool,ls,p,x,u,h=>by
  simp only[be]at h;split at h
  ·simp at h;exact⟨[_],by rw[<- h.2.2];rfl⟩
  ·cases h
 |.str,ls,p,x,u,h=>by
  simp only[be]at h;split at h
  ·simp at h;exact⟨[_],by rw[<- h.2.2];rfl⟩
  ·cases h
 |.unit,ls,p,x,u,h=>by
  simp only[be,FJ,F1]at h;exact⟨[],by rw[h.2.2];rfl⟩
 |.hdr,ls,p,x,u,h=>by
  simp only[be]at h;split at h
  ·split at h
   ·simp at h;exact⟨[_],by rw[<- h.2.2];rfl⟩
   ·cases h
  ·cases h
 |.pair a b,ls,p,x,u,h=>by
  simp only[be]at h;split at h
  ·rename_i q y H X;split at h
   ·rename_i q' z J Y;simp at h;obtain⟨I,M⟩:=ky a ls q y H X;obtain⟨Z,O⟩:=ky b H q' z J Y;exact⟨I++Z,by rw[M,O,h.2.2,GD]⟩
   ·cases h
  ·cases h
 |.list m E e,ls,p,x,u,h=>by
  simp only[be]at h;split at h
  ·split at h
   ·simp at h;exact⟨[_],by rw[<- h.2.2];rfl⟩
   ·cases h
  ·cases h
theorem ij:∀ (a:Ty) (ls:List Leaf),(∀ q∈ax ls,st' q=st q)->be st' a ls=be st a ls
 |.int k,ls,h=>rfl
 |.bool,ls,h=>rfl
 |.str,ls,h=>rfl
 |.unit,ls,h=>rfl
 |.hdr,ls,h=>by
  cases ls with
  |nil=>rfl
  |cons l ls =>
   simp only[be];rw[cA (l:=l) (λq u=>h q (by rw[aN];exact FM _ u))]
 |.pair a b,ls,h=>by
  simp only[be,ij a ls h];cases I:be st a ls with
  |none=>rfl
  |some x =>
   obtain⟨p,y,z⟩:=x;obtain⟨J,H⟩:=ky a ls p y z I;simp only;rw[ij b z (λq u=>h q (by rw[H,lW];exact FN _ u))]
 |.list m E e,ls,h=>by
  cases ls with
  |nil=>rfl
  |cons l ls =>
   simp only[be];rw[cA (l:=l) (λq u=>h q (by rw[aN];exact FM _ u))]
theorem fa {a:Ty}{ls:List Leaf}(h:∀ q∈ax ls,st' q=st q):c8 st' a ls=c8 st a ls:=by
 unfold c8;rw[ij a ls h]
theorem oE {e:Ty}:∀ (n:Nat) (ls:List Leaf),(∀ q∈ax ls,st' q=st q)->gh st' e n ls=gh st e n ls
 |0,_,_=>rfl
 |n+1,ls,h=>by
  simp only[gh,fa (ls:=ls.take e.cells) (λq u=>h q (sR _ _ q u)),oE n (ls.drop e.cells) (λq u=>h q (gj _ _ q u))]
theorem jU:∀ {ls:List Leaf},(∀ q∈ax ls,st' q=st q)->bE st' ls=bE st ls
 |[],_=>rfl
 |l::ls,h=>by
  have y:=jU (ls:=ls) (λq u=>h q (by rw[aN];exact FN _ u));cases l with
  |al r j v=>simp only[bE,y,cA (l:=.al r j v) (λq u=>h q (by rw[aN];exact FM _ u))]
  |nal p H ep z E e I=>simp only[bE,y,cA (l:=.nal p H ep z E e I) (λq u=>h q (by rw[aN];exact FM _ u))]
  |_=>simpa[bE]using y
theorem qf:∀ {ls:List Leaf},(∀ q∈ax ls,st' q=st q)->ck st' ls=ck st ls
 |[],_=>rfl
 |l::ls,h=>by
  have y:=qf (ls:=ls) (λq u=>h q (by rw[aN];exact FN _ u));cases l with
  |al r j v=>simp only[ck,y,cA (l:=.al r j v) (λq u=>h q (by rw[aN];exact FM _ u))]
  |_=>simpa[ck]using y
theorem r8:∀ {ls:List Leaf},(∀ q∈ax ls,st' q=st q)->dL st' ls=dL st ls
 |[],_=>rfl
 |l::ls,h=>by
  have y:=r8 (ls:=ls) (λq u=>h q (by rw[aN];exact FN _ u));cases l with
  |nal p H ep z E e I =>
   cases z with
   |none=>simp only[dL,y,cA (l:=.nal p H ep none E e I) (λq u=>h q (by rw[aN];exact FM _ u))]
   |some x=>simpa[dL]using y
  |_=>simpa[dL]using y
theorem qg {ls:List Leaf}(h:∀ q∈ax ls,st' q=st q):dU st' ls=dU st ls:=by
 unfold dU;induction ls with
 |nil=>rfl
 |cons l ls y =>
  rw[F7,F7,y (λq u=>h q (by rw[aN];exact FN _ u))];unfold gQ;rw[cA (λq u=>h q (by rw[aN];exact FM _ u))]
theorem eU:∀ {ls:List Leaf} {x:Nat×Nat},x∈bE st ls->x.1∈ax ls
 |[],_,h=>by simp[bE]at h
 |l::ls,x,h=>by
  cases l with
  |al r j v =>
   simp only[bE,FK]at h;rcases h with h|h
   ·split at h
    ·simp at h;subst h;simp[ax]
    ·simp at h
   ·rw[aN];exact FN _ (eU h)
  |nal p z ep y E e H =>
   simp only[bE,FK]at h;rcases h with h|h
   ·split at h
    ·obtain⟨k,u,rfl⟩:=FU.1 h;rw[aN,i8];exact FM _ (FO _ (FU.2 ⟨k,u,rfl⟩))
    ·simp at h
   ·rw[aN];exact FN _ (eU h)
  |_=>(simp only[bE]at h;rw[aN];exact FN _ (eU h))
theorem jV:∀ {ls:List Leaf} {x:Nat×Nat},x∈ck st ls->x.1∈ax ls
 |[],_,h=>by simp[ck]at h
 |l::ls,x,h=>by
  cases l with
  |al r j v =>
   simp only[ck,FK]at h;rcases h with h|h
   ·split at h
    ·simp at h;subst h;simp[ax]
    ·simp at h
   ·rw[aN];exact FN _ (jV h)
  |_=>(simp only[ck]at h;rw[aN];exact FN _ (jV h))
theorem iM:∀ {ls:List Leaf} {x:Nat×Nat},x∈dL st ls->x.1∈ax ls
 |[],_,h=>by simp[dL]at h
 |l::ls,x,h=>by
  cases l with
  |nal p H ep u E e I =>
   cases u with
   |none =>
    simp only[dL,FK]at h;rcases h with h|h
    ·split at h
     ·obtain⟨k,z,rfl⟩:=FU.1 h;rw[aN,i8];exact FM _ (FO _ (FU.2 ⟨k,z,rfl⟩))
     ·simp at h
    ·rw[aN];exact FN _ (iM h)
   |some y=>(simp only[dL]at h;rw[aN];exact FN _ (iM h))
  |_=>(simp only[dL]at h;rw[aN];exact FN _ (iM h))
theorem i9:∀ {ks:List (Nat×Nat)},(∀ x∈ks,st' x.1=st x.1)->aP st' ks=aP st ks
 |[],_=>rfl
 |(r,j)::ks,h=>by
  simp only[aP,i9 (ks:=ks) (λx u=>h x (FO _ u)),bq (h (r,j) (FP ..))]
theorem kU:∀ {ks:List (Nat×Nat)},(∀ x∈ks,st' x.1=st x.1)->aI st' ks=aI st ks
 |[],_=>rfl
 |(r,j)::ks,h=>by
  simp only[aI,kU (ks:=ks) (λx u=>h x (FO _ u)),bq (h (r,j) (FP ..))]
theorem uV {ls:List Leaf}(h:∀ q∈ax ls,st' q=st q):mvU st' ls=mvU st ls:=by
 unfold mvU;rw[r8 h,qf h,kU (λx u=>h _ (iM u))];simp only;rw[i9 (λx u=>bq (h _ (jV u)) _)]
theorem r9 {ls:List Leaf}(h:∀ q∈ax ls,st' q=st q):iN st' ls=iN st ls:=by
 unfold iN;rw[r8 h,qf h]
theorem jW:∀ (a:Ty) (ls:List Leaf),(∀ q∈ax ls,st' q=st q)->take st' a ls=take st a ls
 |.int k,ls,h=>by simp only[take,ij (.int k) ls h]
 |.bool,ls,h=>by simp only[take,ij .bool ls h]
 |.str,ls,h=>by simp only[take,ij .str ls h]
 |.unit,ls,h=>rfl
 |.hdr,ls,h=>by simp only[take,ij .hdr ls h]
 |.pair a b,ls,h=>by
  simp only[take,jW a ls h];cases z:take st a ls with
  |none=>rfl
  |some x =>
   have H:=kT.take_rest a ls x z;simp only;rw[jW b x.rest (λq y=>h q (gj a.cells ls q (by rw[<- H];exact y)))]
 |.list m E e,ls,h=>by
  cases ls with
  |nil=>rfl
  |cons l ls =>
   have u:∀ q∈ax [l],st' q=st q:=λq y=>h q (by rw[aN];exact FM _ y)
   simp only[take,cA u,jU u];congr 1;split
   ·rename_i r j v;rw[cA u]
   ·rfl
   ·rfl
theorem iz {a:Ty}{ls:List Leaf}(h:∀ q∈ax ls,st' q=st q):cr st' a ls=cr st a ls:=by
 unfold cr;rw[jW a ls h]
theorem pb:∀ (a:Ty) (ls:List Leaf) (t:cU a.den),take st a ls=some t->(∀ z∈t.frz,z.1∈ax ls)/\∀ z∈t.kill,z.1∈ax ls
 |.int k,ls,t,h=>by simp only[take,FR]at h;obtain⟨_,_,rfl⟩:=h;exact⟨by simp,by simp⟩
 |.bool,ls,t,h=>by simp only[take,FR]at h;obtain⟨_,_,rfl⟩:=h;exact⟨by simp,by simp⟩
 |.str,ls,t,h=>by simp only[take,FR]at h;obtain⟨_,_,rfl⟩:=h;exact⟨by simp,by simp⟩
 |.hdr,ls,t,h=>by simp only[take,FR]at h;obtain⟨_,_,rfl⟩:=h;exact⟨by simp,by simp⟩
 |.unit,ls,t,h=>by simp only[take,FJ]at h;subst h;exact⟨by simp,by simp⟩
 |.pair a b,ls,t,h=>by
  simp only[take]at h;split at h
  ·rename_i x M;split at h
   ·rename_i y hy;simp only[FJ]at h;subst h;have Z:=kT.take_rest a ls x M;obtain⟨O,X⟩:=pb a ls x M;obtain⟨H,I⟩:=pb b x.rest y hy;rw[Z]at H I;exact⟨λz u=>(FK.1 u).elim (O z) (λu=>gj _ _ _ (H z u)),λz u=>(FK.1 u).elim (X z) (λu=>gj _ _ _ (I z u))⟩
   ·cases h
  ·cases h
 |.list m E e,ls,t,h=>by
  cases ls with
  |nil=>simp[take]at h
  |cons l ls =>
   have J:∀ q∈ax [l],q∈ax (l::ls):=λq Y=>by rw[aN];exact FM _ Y
   cases m with
   |false =>
    simp only[take,cond_false]at h;split at h
    ·simp only[FJ]at h;subst h;exact⟨λz u=>J _ (eU u),by simp⟩
    ·cases h
   |true =>
    simp only[take,cond_true]at h;split at h
    ·split at h
     ·simp only[FR]at h;obtain⟨_,_,rfl⟩:=h;exact⟨by simp,λz u=>by simp at u;subst u;exact J _ (by simp[ax])⟩
     ·cases h
    ·simp only[FJ]at h;subst h;exact⟨by simp,by simp⟩
    ·cases h
theorem jF {a:Ty}{ls:List Leaf}{t:cU a.den}(h:cr st a ls=some t):(∀ z∈t.frz,z.1∈ax ls)/\∀ z∈t.kill,z.1∈ax ls:=by
 unfold cr at h;split at h
 ·rename_i p x f k u;simp only[FJ]at h;subst h;exact pb a ls _ u
 ·cases h
theorem kM:∀ {off n:Nat} (a:Ty) (pos:Nat) (x:a.den) (ls:List Leaf) (t:cU a.den),dq st off n a pos x ls=some t->∃ k,t.rest=ls.drop k
 |off,n,.pair a b,pos,x,ls,t,h=>by
  simp only[dq]at h;split at h
  ·rename_i u H;split at h
   ·rename_i v I;simp only[FJ]at h;subst h;obtain⟨J,y⟩:=kM a pos x.1 ls u H;obtain⟨M,z⟩:=kM b (pos+a.cells) x.2 u.rest v I;exact⟨J+M,by show v.rest=_;rw[z,y,Gr]⟩
   ·cases h
  ·cases h
 |off,n,.unit,pos,x,ls,t,h=>by simp only[dq,FJ]at h;subst h;exact⟨0,rfl⟩
 |off,n,.hdr,pos,x,ls,t,h=>by simp[dq]at h
 |off,n,.int k,pos,x,ls,t,h=>sc (a:=.int k) h
 |off,n,.bool,pos,x,ls,t,h=>sc (a:=.bool) h
 |off,n,.str,pos,x,ls,t,h=>sc (a:=.str) h
 |off,n,.list m E e,pos,x,ls,t,h=>sc (a:=.list m E e) h
where
 sc {a:Ty} {b:Bool} {x:a.den} {ls:List Leaf} {t:cU a.den} (h:(bif b then take st a ls else some ⟨false,x,[],[],ls⟩)=some t):∃ k,t.rest=ls.drop k:=by
  cases b with
  |true=>exact⟨_,kT.take_rest a ls t h⟩
  |false=>simp only[cond_false,FJ]at h;subst h;exact⟨0,rfl⟩
theorem qh:∀ {off n:Nat} (a:Ty) (pos:Nat) (x:a.den) (ls:List Leaf),(∀ q∈ax ls,st' q=st q)->dq st' off n a pos x ls=dq st off n a pos x ls
 |off,n,.pair a b,pos,x,ls,h=>by
  simp only[dq,qh a pos x.1 ls h];cases z:dq st off n a pos x.1 ls with
  |none=>rfl
  |some u =>
   obtain⟨k,e⟩:=kM a pos x.1 ls u z;simp only;rw[qh b (pos+a.cells) x.2 u.rest (λq y=>h q (gj k ls q (by rw[<- e];exact y)))]
 |off,n,.unit,pos,x,ls,h=>rfl
 |off,n,.hdr,pos,x,ls,h=>rfl
 |off,n,.int k,pos,x,ls,h=>by simp only[dq,jW (.int k) ls h]
 |off,n,.bool,pos,x,ls,h=>by simp only[dq,jW .bool ls h]
 |off,n,.str,pos,x,ls,h=>by simp only[dq,jW .str ls h]
 |off,n,.list m E e,pos,x,ls,h=>by simp only[dq,jW (.list m E e) ls h]
theorem qi:∀ {off n:Nat} (a:Ty) (pos:Nat) (x:a.den) (ls:List Leaf) (t:cU a.den),dq st off n a pos x ls=some t->(∀ z∈t.frz,z.1∈ax ls)/\∀ z∈t.kill,z.1∈ax ls
 |off,n,.pair a b,pos,x,ls,t,h=>by
  simp only[dq]at h;split at h
  ·rename_i u J;split at h
   ·rename_i v X;simp only[FJ]at h;subst h;obtain⟨k,e⟩:=kM a pos x.1 ls u J;obtain⟨M,O⟩:=qi a pos x.1 ls u J;obtain⟨H,I⟩:=qi b (pos+a.cells) x.2 u.rest v X;rw[e]at H I;exact⟨λz y=>(FK.1 y).elim (M z) (λy=>gj _ _ _ (H z y)),λz y=>(FK.1 y).elim (O z) (λy=>gj _ _ _ (I z y))⟩
   ·cases h
  ·cases h
 |off,n,.unit,pos,x,ls,t,h=>by simp only[dq,FJ]at h;subst h;exact⟨by simp,by simp⟩
 |off,n,.hdr,pos,x,ls,t,h=>by simp[dq]at h
 |off,n,.int k,pos,x,ls,t,h=>sc (a:=.int k) h
 |off,n,.bool,pos,x,ls,t,h=>sc (a:=.bool) h
 |off,n,.str,pos,x,ls,t,h=>sc (a:=.str) h
 |off,n,.list m E e,pos,x,ls,t,h=>sc (a:=.list m E e) h
where
 sc {a:Ty} {b:Bool} {x:a.den} {ls:List Leaf} {t:cU a.den} (h:(bif b then take st a ls else some ⟨false,x,[],[],ls⟩)=some t):(∀ z∈t.frz,z.1∈ax ls)/\∀ z∈t.kill,z.1∈ax ls:=by
  cases b with
  |true=>exact pb a ls t h
  |false=>simp only[cond_false,FJ]at h;subst h;exact⟨by simp,by simp⟩
theorem wG {U:Upd}{d:Nat}{sh:aK}{ls:List Leaf}(h:st' d=st d):cB st' U d sh ls=cB st U d sh ls:=by
 simp only[cB,bq h]
theorem sS:∀ {xs:List Operand} {t:Nat},Operand.tmp t∈xs->t∈je xs
 |[],_,h=>by simp at h
 |x::xs,t,h=>by
  rcases FX.1 h with rfl|h
  ·simp[je]
  ·have u:=sS h;cases x <;> simp[je,u]
theorem oF (t n:Nat):∀ (j:Nat) (ls:List Leaf) (q:Nat),q∈ax (bL t n j ls)->q=t\/q∈ax ls
 |_,[],_,h=>by simp[bL,ax]at h
 |j,l::ls,q,h=>by
  simp only[bL]at h;rw[aN,FK]at h;rw[aN,FK];rcases h with h|h
  ·cases l with
   |own p u E e y=>simp[mA,ax]at h;exact .inl h
   |_=>exact .inr (.inl h)
  ·exact (oF t n (j+1) ls q h).imp id .inr
theorem lX:∀ (u y:List Leaf),aB (u++y)=aB u++aB y
 |[],_=>rfl
 |l::u,y=>by cases l <;> simp[aB,lX u y]
theorem dJ (l:Leaf)(ls:List Leaf):aB (l::ls)=aB [l]++aB ls:=lX [l] ls
theorem gl:∀ {ls:List Leaf} {q:Nat},q∈ax ls->q∈aB ls
 |[],_,h=>by simp[ax]at h
 |l::ls,q,h=>by
  rw[aN,FK]at h;rw[dJ,FK];rcases h with h|h
  ·left;cases l with
   |nal p u ep y E e z=>simp[ax]at h;simpa[aB]using h
   |np p u ep a x off=>simp[ax]at h;simpa[aB]using h
   |_=>simp[ax]at h <;> simp[aB,h]
  ·exact .inr (gl h)
theorem oG (t n:Nat):∀ (j:Nat) (ls:List Leaf) (q:Nat),q∈aB (bL t n j ls)->q=t\/q∈aB ls
 |_,[],_,h=>by simp[bL,aB]at h
 |j,l::ls,q,h=>by
  simp only[bL]at h;rw[dJ,FK]at h;rw[dJ,FK];rcases h with h|h
  ·cases l with
   |own p u E e y=>simp[mA,aB]at h;exact .inl h
   |_=>exact .inr (.inl h)
  ·exact (oG t n (j+1) ls q h).imp id .inr
theorem sU {x:Operand}{q:Nat}(h:q∈ax (au st x).2):∃ t,x=.tmp t/\(q=t\/q∈ax (st t).ls):=by
 cases x with
 |tmp t =>
  simp only[au]at h;cases y:Gm t GH with
  |false=>simp[y,ax]at h
  |true=>simp only[y,cond_true]at h;exact⟨t,rfl,oF _ _ _ _ _ h⟩
 |const v =>
  simp only[au]at h;split at h
  ·rename_i l u;unfold jb at u;split at u <;> simp at u <;> subst u <;> simp[ax]at h
  ·simp[ax]at h
 |func f=>simp[au,ax]at h
 |global g=>simp[au,ax]at h
theorem sW {x:Operand}{q:Nat}(h:q∈aB (au st x).2):∃ t,x=.tmp t/\(q=t\/q∈aB (st t).ls):=by
 cases x with
 |tmp t =>
  simp only[au]at h;cases y:Gm t GH with
  |false=>simp[y,aB]at h
  |true=>simp only[y,cond_true]at h;exact⟨t,rfl,oG _ _ _ _ _ h⟩
 |const v =>
  simp only[au]at h;split at h
  ·rename_i l u;unfold jb at u;split at u <;> simp at u <;> subst u <;> simp[aB]at h
  ·simp[aB]at h
 |func f=>simp[au,aB]at h
 |global g=>simp[au,aB]at h
theorem sa {x:Operand}{l:Leaf}(h:one st x=l)(u:l≠.dead):(au st x).2=[l]:=by
 unfold one at h;split at h
 ·rename_i z y;rw[y,h]
 ·exact absurd h.symm u
theorem jX {x:Operand}{q:Nat}(h:q∈ax [one st x]):q∈ax (au st x).2:=by
 by_cases u:one st x=.dead
 ·rw[u]at h;simp[ax]at h
 ·rw[sa rfl u];exact h
theorem uW {x:Operand}{q:Nat}(h:q∈aB [one st x]):q∈aB (au st x).2:=by
 by_cases u:one st x=.dead
 ·rw[u]at h;simp[aB]at h
 ·rw[sa rfl u];exact h
def kc:Leaf->Bool×Leaf
 |.own _ _ _ e u=>(true,.ep 0 0 0 e.cells u.length 0)
 |l=>(false,l)
def bR (c:b7):Nat×aK×List (Bool×Leaf):=(c.ver,c.sh,c.ls.map kc)
theorem uX {l l':Leaf}(h:kc l'=kc l):l'=l\/∃ (p p':Bool) (z y:Option (Nat×Nat)) (E E':TypeId) (e e':Ty) (xs:List e.den) (u:List e'.den),l=.own p z E e xs/\l'=.own p' y E' e' u/\e'.cells=e.cells/\u.length=xs.length:=by
 cases l <;> cases l' <;> simp only[kc,F1,Gb,reduceCtorEq,false_and,and_false,true_and,Leaf.ep.injEq,Bool.true_eq_false]at h <;>
  first
  |exact .inr ⟨_,_,_,_,_,_,_,_,_,_,rfl,rfl,h.1,h.2.1⟩
  |exact .inr ⟨_,_,_,_,_,_,_,_,_,_,rfl,rfl,h.1,h.2⟩
  |exact .inl rfl
  |exact .inl (by rw[h])
  |exact .inl h
  |(obtain⟨rfl,rfl,rfl,rfl,rfl,rfl⟩:=h;exact .inl rfl)
theorem ri (t n:Nat):∀ (j:Nat) (ls u:List Leaf),u.map kc=ls.map kc->bL t n j u=bL t n j ls
 |_,[],[],_=>rfl
 |_,[],_::_,h=>by simp at h
 |_,_::_,[],h=>by simp at h
 |j,l::ls,X::u,h=>by
  simp only[F7,Gn]at h;simp only[bL,ri t n (j+1) ls u h.2];rcases uX h.1 with e|⟨p,Y,O,H,E,J,e,M,Z,I,y,z,_,_⟩
  ·rw[e]
  ·rw[y,z];rfl
theorem zx {x:Operand}(h:∀ t,x=.tmp t->bR (st' t)=bR (st t)):au st' x=au st x:=by
 cases x with
 |tmp t =>
  have:=h t rfl;simp only[bR,F1]at this;simp only[au,this.1,this.2.1,ri _ _ _ _ _ this.2.2]
 |_=>rfl
theorem Bj {x:Operand}(h:∀ t,x=.tmp t->bR (st' t)=bR (st t)):one st' x=one st x:=by
 unfold one;rw[zx h]
theorem zy {c u:b7}(h:bR u=bR c)(j:Nat):kc (u.ls.getD j .dead)=kc (c.ls.getD j .dead):=by
 simp only[bR,F1]at h;have:=congrArg (λl=>l[j]?) h.2.2;simp only[G5]at this;rw[FY,FY];generalize u.ls[j]?=a at this;generalize c.ls[j]?=b at this
 match a,b,this with
 |none,none,_=>rfl
 |some x,some y,h=>exact HD h
theorem sX (l:Leaf):mb l=(kc l).1:=by cases l <;> rfl
theorem AK {ks:List (Nat×Nat×Nat)}{ep:Nat}(h:∀ q∈EPO::ks.map (·.1),bR (st' q)=bR (st q)):bu st' ks ep=bu st ks ep:=by
 unfold bu;have z:=h EPO (FP ..);simp only[bR,F1]at z;rw[z.1];congr 1;induction ks with
 |nil=>rfl
 |cons k ks I =>
  have y:=h k.1 (by simp);have H:(st' k.1).ver=(st k.1).ver:=by simp only[bR,F1]at y;exact y.1
  rw[Gi,Gi,I (λq u=>h q (by simp at u ⊢;rcases u with u|u;exact .inl u;exact .inr (.inr u))),sX,sX,zy y,H]
end
section
variable {P:Program} {V:Env} {Γ:List Ctr} {T:TypeId->TI} {st st':St} {o:Oper} {R:Type} {κ:Upd->Option R} {r:R}
theorem uY {d:Nat}(u:o.dst=some d)(h:∀ q∈fP st o,st' q=st q):st' d=st d/\st' (B0+d)=st (B0+d):=by
 refine⟨h d ?_,h (B0+d) ?_⟩ <;> simp[fP,AV,u]
theorem lY {ls:List Leaf}(h:∀ q∈ax ls,st' q=st q):∀ x∈bE st ls,st' x.1=st x.1:=λx u=>h _ (eU u)
theorem rj {u:List (Nat×Nat×Bool)}:∀ (ps:List (Nat×Operand)) (ls:List Leaf),(∀ x∈ps,∀ t,x.2=.tmp t->st' t=st t)->fO st' u ps ls=fO st u ps ls
 |[],_,_=>rfl
 |(i,x)::ps,ls,h=>by
  simp only[fO,ee (h (i,x) (FP ..))];split
  ·rw[rj ps _ (λy z=>h y (FO _ z))]
  ·rfl
theorem pG {e:Ty}:∀ (ps:List (Nat×Operand)) (k:Nat),(∀ x∈ps,(∀ t,x.2=.tmp t->st' t=st t)/\∀ q∈ax (au st x.2).2,st' q=st q)->eV st' e k ps=eV st e k ps
 |[],_,_=>rfl
 |(i,x)::ps,k,h=>by
  have u:=h (i,x) (FP ..);simp only[eV,ee u.1,iz u.2,pG ps (k+1) (λy z=>h y (FO _ z))]
theorem pH {e:Ty}:∀ (ps:List (Nat×Operand)) (k:Nat) (u:cU (List e.den)),eV st e k ps=some u->∀ z,z∈u.frz\/z∈u.kill->∃ x∈ps,z.1∈ax (au st x.2).2
 |[],_,_,h=>by simp only[eV,FJ]at h;subst h;simp
 |(i,x)::ps,k,u,h=>by
  simp only[eV]at h;cases O:FS i k&&decide ((au st x).1=bk e.isAgg) with
  |false=>simp[O]at h
  |true =>
   simp only[O,cond_true]at h;split at h
   ·rename_i t1 M Y J;simp only[FJ]at h;subst h;intro z H;obtain⟨p1,p2⟩:=jF Y;have I:(z∈t1.frz\/z∈t1.kill)\/(z∈M.frz\/z∈M.kill):=by
     rcases H with H|H <;> rcases FK.1 H with H|H
     ·exact .inl (.inl H)
     ·exact .inr (.inl H)
     ·exact .inl (.inr H)
     ·exact .inr (.inr H)
    rcases I with H|H
    ·exact⟨(i,x),FP ..,H.elim (p1 z) (p2 z)⟩
    ·obtain⟨y,Z,X⟩:=pH ps (k+1) M J z H;exact⟨y,FO _ Z,X⟩
   ·cases h
theorem oH {x:Option Operand}{n:Int}(h:∀ y,x=some y->∀ t,y=.tmp t->st' t=st t):dx st' x n=dx st x n:=by
 cases x with
 |none=>rfl
 |some y=>simp only[dx,dP (h y rfl)]
theorem wH:∀ (xs:List Operand) (u:Option (List Nat)),(∀ x∈xs,∀ t,x=.tmp t->st' t=st t) ->
  xs.foldl (λ (u:Option (List Nat)) x=>u.bind λl=>match one st' x with|.bp b 0=>some (l++[b])|_=>none) u =
  xs.foldl (λ (u:Option (List Nat)) x=>u.bind λl=>match one st x with|.bp b 0=>some (l++[b])|_=>none) u
 |[],_,_=>rfl
 |x::xs,u,h=>by
  simp only[HE,dP (h x (FP ..))];exact wH xs _ (λy z=>h y (FO _ z))
theorem rl {l:Leaf}(z:st' TMP=st TMP)(y:st' EPO=st EPO)(h:∀ q∈ax [l],st' q=st q):cC st' l=cC st l:=by
 cases l with
 |nal p I ep u E e M =>
  rw[i8]at h;simp only[cC,kn h,z,y];congr 1
  match I,u,h with
  |[(r,j,n)],some (i,J,off),h =>
   have H:=h r (by simp);simp only[H]
  |[(r,j,n)],none,_=>rfl
  |[],_,_=>rfl
  |_::_::_,_,_=>rfl
 |_=>rfl
theorem pI {l l':Leaf}{U:Upd}(h:cC st l=some (U,l')):∃ n,l'=.al TMP 0 n/\∀ q,q≠TMP->∀ z∈aB (ac U st q).ls,z∈aB (st q).ls:=by
 cases l with
 |nal p ks ep a0 E e xs =>
  simp only[cC]at h;cases H:bu st ks ep with
  |false=>simp[H]at h
  |true =>
   rw[H]at h;simp only[cond_true]at h;split at h
   ·rename_i r j n0 i sz off;split at h
    ·rename_i Z E' J O hg;cases Y:!FS r TMP&&!FS r EPO&&FS sz J.cells with
     |false=>simp[Y]at h
     |true =>
      rw[Y]at h;simp only[cond_true]at h;split at h
      ·split at h
       ·rename_i y _ _ _ _ _;simp only[FJ,F1]at h;obtain⟨rfl,rfl⟩:=h;refine⟨_,rfl,λq hq z u=>?_⟩;rw[aR]at u;rcases an r q ⟨(st r).ver,(st r).sh,aV (st r).ls j (.own Z (some (i,off)) E' J O)⟩ (ac [(TMP,⟨(st TMP).ver+1,.one,[.own (Z&&J.shy) none _ _ _]⟩),(EPO,ca (st EPO))] st) with ⟨rfl,M⟩|⟨_,M⟩
        ·rw[M]at u;exact refs_set u
        ·rw[M,aR,aL hq]at u;rcases an EPO q (ca (st EPO)) st with ⟨rfl,X⟩|⟨_,X⟩ <;> rw[X]at u <;> exact u
       ·cases h
      ·cases h
    ·cases h
   ·cases h
 |_=>simp[cC]at h
where
 refs_set {I:List Leaf} {j z:Nat} {p:Bool} {hh:Option (Nat×Nat)} {E:TypeId} {e:Ty} {xs:List e.den} (h:z∈aB (aV I j (.own p hh E e xs))):z∈aB I:=by
  unfold aV at h;induction I generalizing j with
  |nil=>simpa using h
  |cons l I ih =>
   cases j with
   |zero =>
    rw[List.set_cons_zero,dJ,FK]at h;rw[dJ,FK];rcases h with h|h
    ·simp[aB]at h
    ·exact .inr h
   |succ j =>
    rw[G1,dJ,FK]at h;rw[dJ,FK];exact h.imp id ih
theorem vW {l l':Leaf}{U:Upd}(h:cC st l=some (U,l')):aB (ac U st TMP).ls=[]:=by
 cases l with
 |nal p I ep J E e xs =>
  simp only[cC]at h;cases u:bu st I ep with
  |false=>simp[u]at h
  |true =>
   rw[u]at h;simp only[cond_true]at h;split at h
   ·rename_i r j Z i M off;split at h
    ·rename_i p' X H O Y;cases y:!FS r TMP&&!FS r EPO&&FS M H.cells with
     |false=>simp[y]at h
     |true =>
      rw[y]at h;simp only[cond_true]at h;have z:TMP≠r:=λe=>by subst e;simp at y
      split at h
      ·split at h
       ·simp only[FJ,F1]at h;obtain⟨rfl,rfl⟩:=h;rw[aR,aL z,aR,bm];rfl
       ·cases h
      ·cases h
    ·cases h
   ·cases h
 |_=>simp[cC]at h
theorem xQ {E:TypeId}{e:Ty}{y:Leaf}(u:∀ q∈ax [y],st' q=st q):gA st' E e y=gA st E e y:=by
 unfold gA;rw[cA u,jU u,iz u]
theorem xR {E:TypeId}{e:Ty}{y:Leaf}{t:cU (List e.den)}(h:gA st E e y=some t):(∀ z∈t.frz,z.1∈ax [y])/\∀ z∈t.kill,z.1∈ax [y]:=by
 unfold gA at h;cases u:e.flat with
 |true =>
  rw[u]at h;simp only[cond_true,FR]at h;obtain⟨_,_,rfl⟩:=h;exact⟨by simp,by simp⟩
 |false =>
  rw[u]at h;simp only[cond_false]at h;cases H:decide (e.sh=e) with
  |true =>
   rw[H]at h;simp only[cond_true,FR]at h;obtain⟨_,_,rfl⟩:=h;exact⟨λz J=>eU J,by simp⟩
  |false =>
   rw[H]at h;simp only[cond_false,FR]at h;obtain⟨M,I,rfl⟩:=h;exact jF I
theorem lZ {u:Upd}{d:Nat}{E:TypeId}{e:Ty}{H:Nat}{p:Bool}{xs:List e.den}{ks:List (Nat×Nat)}{y:Leaf}(M:∀ z∈ks,st' z.1=st z.1)(O:∀ q∈ax [y],st' q=st q)(Z:st' d=st d) :
  eh st' (ac u st') u d E e H p xs ks y κ=eh st (ac u st) u d E e H p xs ks y κ:=by
 unfold eh;have J:∀ q,st' q=st q->ac u st' q=ac u st q:=λq h=>bq h u
 rw[xQ (st:=ac u st) (st':=ac u st') (λq hq=>J q (O q hq))];split
 ·rename_i t ht;obtain⟨p1,p2⟩:=xR ht;have X:aI (ac u st') t.frz=aI (ac u st) t.frz:=kU (λz I=>J _ (O _ (p1 z I)));have Y:∀ U:Upd,aP (ac U (ac u st')) (t.kill++ks)=aP (ac U (ac u st)) (t.kill++ks):=λU=>i9 (λz I=>bq (J _ ((FK.1 I).elim (λI=>O _ (p2 z I)) (M z))) U)
  simp only[X,Y,wG Z]
 ·rfl
theorem xS {H:Upd}{d:Nat}{E:TypeId}{e:Ty}{u:Nat}{x y:Leaf}(J:∀ q∈ax [x],st' q=st q)(M:∀ q∈ax [y],st' q=st q)(I:st' d=st d):eR st' H d E e u x y κ=eR st H d E e u x y κ:=by
 unfold eR;cases x with
 |al r j v =>
  have Y:st' r=st r:=J r (by simp[ax]);simp only;rw[cA (st:=ac H st) (st':=ac H st') (l:=.al r j v) (λq X=>bq (J q X) H)];split
  ·rw[lZ (λz O=>by simp at O;subst O;exact Y) M I]
  ·rfl
 |nil=>exact lZ (by simp) M I
 |_=>rfl
theorem xT {d:Nat}{E:TypeId}{e:Ty}{H:Nat}{x y:Leaf}(I:st' TMP=st TMP)(M:∀ q∈ax [x],st' q=st q)(X:∀ q∈ax [y],st' q=st q)(O:st' d=st d):jd st' d E e H x y κ=jd st d E e H x y κ:=by
 unfold jd;rw[xS M X O,iI,iI];cases hn:jZ x with
 |false=>rfl
 |true =>
  simp only[cond_true];have hE:st' EPO=st EPO:=by
   cases x with
   |nal p ks ep a0 E e xs=>exact M EPO (by rw[i8];exact FP ..)
   |_=>simp[jZ]at hn
  rw[rl I hE M];cases hu:cC st x with
  |none=>rfl
  |some u =>
   obtain⟨n,Z,_⟩:=pI (U:=u.1) (l':=u.2) hu;simp only[GM];rw[Z];unfold eR;simp only;have e2:∀ q,q=TMP->ac u.1 st' q=ac u.1 st q:=λq J=>by rw[J];exact bq I u.1
   rw[cA (st:=ac u.1 st) (st':=ac u.1 st') (l:=.al TMP 0 n) (λq J=>e2 q (by simpa[ax]using J))];split
   ·rw[lZ (λz Y=>by simp at Y;subst Y;exact I) X O]
   ·rfl
structure fk (st st':St) (ls:List Leaf):Prop where
 d1:∀ q∈aB ls,st' q=st q
 d2:∀ r∈aB ls,∀ q∈aB (st r).ls,st' q=st q
 d3:∀ r∈aB ls,∀ r2∈aB (st r).ls,∀ q∈aB (st r2).ls,st' q=st q
theorem lk (p:Bool):∀ (a:Ty) (x:a.den),aB (cS p a x)=[]
 |.int _,_=>rfl
 |.bool,_=>rfl
 |.str,_=>rfl
 |.unit,_=>rfl
 |.hdr,_=>rfl
 |.pair a b,x=>by simp[cS,lX,lk p a,lk p b]
 |.list _ _ _,_=>rfl
theorem sY {l:Leaf}(h:∀ q∈aB [l],st' q=st q):target st' l=target st l:=by
 unfold target;cases l with
 |bp b off =>
  have u:=h b (by simp[aB]);cases off with
  |zero=>simp only[u]
  |succ n=>rfl
 |rp p a x off=>cases off <;> rfl
 |_=>rfl
theorem l6 {l:Leaf}{ls:List Leaf}(h:target st l=some ls):∀ q∈aB ls,q∈aB [l]\/∃ r∈aB [l],q∈aB (st r).ls:=by
 unfold target at h;split at h
 ·rename_i b;cases y:decide ((st b).sh=.agg) with
  |false=>simp[y]at h
  |true =>
   simp only[y,cond_true,FJ]at h;subst h;intro q u;rcases oG _ _ _ _ _ u with rfl|u
   ·exact .inl (by simp[aB])
   ·exact .inr ⟨b,by simp[aB],u⟩
 ·simp only[FJ]at h;subst h;intro q u;rw[lk]at u;simp at u
 ·simp only[FJ]at h;subst h;intro q u;simp[aB]at u
 ·cases h
theorem jG {x:aK×List Leaf}{q:Nat}(h:q∈aB [cD x]):q∈aB x.2:=by
 unfold cD at h;split at h
 ·exact h
 ·simp[aB]at h
theorem fk.target {l:Leaf}{ls:List Leaf}(h:fk st st' [l])(H:Go.Proofs.YtmibehbhnkeaiaaGreatEv.target st l=some ls):(∀ q∈aB ls,st' q=st q)/\∀ r∈aB ls,∀ q∈aB (st r).ls,st' q=st q:=by
 constructor
 ·intro q y;rcases l6 H q y with u|⟨r,u,z⟩
  ·exact h.d1 q u
  ·exact h.d2 r u q z
 ·intro r I q y;rcases l6 H r I with u|⟨J,u,z⟩
  ·exact h.d2 r u q y
  ·exact h.d3 J u r z q y
theorem fk.one {x:aK×List Leaf}(h:fk st st' x.2):fk st st' [cD x] :=
 ⟨λq y=>h.d1 q (jG y),λr u=>h.d2 r (jG u),λr u=>h.d3 r (jG u)⟩
def oI {α:Type}(st st':St)(g:Got α):Prop:=(∀ z∈g.frz,st' z.1=st z.1)/\(∀ z∈g.kill,st' z.1=st z.1)
theorem oJ {c:Bool×Ty}{l:Leaf}(X:fk st st' [l]):fN st' c l=fN st c l/\∀ g,fN st c l=some g->oI st st' g:=by
 unfold fN;rw[sY X.d1];cases J:target st l with
 |none=>cases c.1 <;> exact⟨rfl,by simp⟩
 |some Y =>
  have y:=X.target J;cases hc:c.1 with
  |false =>
   have u:∀ q∈ax Y,st' q=st q:=λq I=>y.1 q (gl I)
   simp only[cond_false,fa u,jU u,true_and];intro g z;simp only[FR]at z;obtain⟨_,_,rfl⟩:=z;exact⟨lY u,by simp[Got.ofRd]⟩
  |true =>
   simp only[cond_true]
   match Y,y,J with
   |[],_,_=>exact⟨rfl,by simp⟩
   |_::_::_,_,_=>exact⟨rfl,by simp⟩
   |[l'],y,J =>
    simp only[sY y.1];cases M:target st l' with
    |none=>exact⟨rfl,by simp⟩
    |some O =>
     have u:∀ q∈ax O,st' q=st q:=by
      intro q I;rcases l6 M q (gl I) with H|⟨r,H,Z⟩
      ·exact y.1 q H
      ·exact y.2 r H q Z
     simp only[fa u,jU u,true_and];intro g z;simp only[FR]at z;obtain⟨_,_,rfl⟩:=z;exact⟨lY u,by simp[Got.ofRd]⟩
theorem nr:∀ (cs:List (Bool×Ty)) (ls:List Leaf),(∀ l∈ls,fk st st' [l])->cM st' cs ls=cM st cs ls/\∀ g,cM st cs ls=some g->oI st st' g
 |[],[],_=>⟨rfl,λg u=>by simp only[cM,FJ]at u;subst u;exact⟨by simp,by simp⟩⟩
 |[],_::_,_=>⟨rfl,λg u=>by simp[cM]at u⟩
 |_::_,[],_=>⟨rfl,λg u=>by simp[cM]at u⟩
 |c::cs,l::ls,h=>by
  obtain⟨O,X⟩:=oJ (c:=c) (h l (FP ..));obtain⟨Y,Z⟩:=nr cs ls (λy hy=>h y (FO _ hy));simp only[cM,O,Y,true_and];intro g u;split at u
  ·rename_i J H;split at u
   ·rename_i M I;simp only[FJ]at u;subst u;exact⟨λz hz=>(FK.1 hz).elim ((X J H).1 z) ((Z M I).1 z),by simp⟩
   ·cases u
  ·cases u
theorem pJ {c:Nat}{q:Nat}:∀ {ls:List Leaf} {c:Nat},q∈ax (aV ls c .nil)->q∈ax ls
 |[],_,h=>h
 |l::ls,0,h=>by
  rw[show aV (l::ls) 0 .nil=.nil::ls from rfl,aN,FK]at h;rw[aN,FK];rcases h with h|h
  ·simp[ax]at h
  ·exact .inr h
 |l::ls,c+1,h=>by
  rw[show aV (l::ls) (c+1) .nil=l::aV ls c .nil from rfl,aN,FK]at h;rw[aN,FK];exact h.imp id (pJ (c:=c))
theorem qj {caps:List Nat}{f:FuncId}(H:fk st st' [.clo f caps]):∀ l∈caps.map (λb=>Leaf.bp b 0),fk st st' [l]:=by
 intro l J;obtain⟨b,I,rfl⟩:=FU.1 J;have u:b∈aB [Leaf.clo f caps]:=by simp[aB,I]
 have y:∀ r∈aB [Leaf.bp b 0],r=b:=λr z=>by simpa[aB]using z
 exact⟨λq M=>H.d1 q (by rw[y q M];exact u),λr z=>H.d2 r (by rw[y r z];exact u),λr z=>H.d3 r (by rw[y r z];exact u)⟩
theorem oK {caps:List (Bool×Bool×(a:Ty)×a.den)}:∀ l∈caps.map fm,fk st st' [l]:=by
 intro l z;obtain⟨c,H,rfl⟩:=FU.1 z;have:∀ q,q∉aB [fm c]:=by
  intro q u;unfold fm at u;cases y:c.2.1 <;> rw[y]at u <;> simp[aB]at u
 exact⟨λq u=>absurd u (this q),λq u=>absurd u (this q),λq u=>absurd u (this q)⟩
theorem eQ {pk:PK}{x:aK×List Leaf}(h:fk st st' x.2):bj st' pk x=bj st pk x/\∀ g,bj st pk x=some g->oI st st' g:=by
 have Z:∀ q∈ax x.2,st' q=st q:=λq O=>h.d1 q (gl O)
 have h1:=h.one;have H:∀ {b:Bool} {a:Ty} {g:Got a.den},(bif b then (cr st a x.2).map (λt=>(⟨t.p,t.val,t.frz,t.kill,[],[]⟩:Got a.den)) else none)=some g->oI st st' g:=by
  intro b a g u;cases b with
  |false=>simp at u
  |true =>
   simp only[cond_true,FR]at u;obtain⟨t,ht,rfl⟩:=u;obtain⟨p1,p2⟩:=jF ht;exact⟨λz J=>Z _ (p1 z J),λz J=>Z _ (p2 z J)⟩
 cases pk with
 |rd a =>
  simp only[bj,fa Z,jU Z,true_and];intro g u;cases M:decide (x.1=bk a.isAgg) with
  |false=>simp[M]at u
  |true =>
   simp only[M,cond_true,FR]at u;obtain⟨y,_,rfl⟩:=u;exact⟨lY Z,by simp[Got.ofRd]⟩
 |own a =>
  simp only[bj,iz Z,true_and];exact λg u=>H u
 |io a =>
  simp only[bj,iz Z,true_and];exact λg u=>H u
 |rref a=>exact oJ (c:=(false,a)) h1
 |rref2 a=>exact oJ (c:=(true,a)) h1
 |iop a =>
  simp only[bj];split
  ·rename_i b Y;rw[Y]at h1;have M:=h1.d1 b (by simp[aB]);have h3:∀ q∈ax (bL b (st b).ver 0 (st b).ls),st' q=st q:=by
    intro q O;rcases oF _ _ _ _ _ O with rfl|O
    ·exact M
    ·exact h1.d2 b (by simp[aB]) q (gl O)
   simp only[M,iz h3,true_and];intro g u;cases a0:decide ((st b).sh=.agg) with
   |false=>simp[a0]at u
   |true =>
    simp only[a0,cond_true,FR]at u;obtain⟨t,ht,rfl⟩:=u;obtain⟨p1,p2⟩:=jF ht;exact⟨λz J=>h3 _ (p1 z J),λz J=>h3 _ (p2 z J)⟩
  ·exact⟨rfl,by simp⟩
 |fn As B =>
  simp only[bj,true_and];intro g u;split at u
  ·split at u
   ·simp only[FJ]at u;subst u;exact⟨by simp,by simp⟩
   ·cases u
  ·cases u
 |clo f cs =>
  simp only[bj];split
  ·rename_i f' caps Y;rw[Y]at h1;have:=nr cs _ (qj h1);rw[this.1];refine⟨rfl,λg u=>?_⟩;cases M:FS f' f with
   |false=>simp[M]at u
   |true=>rw[M]at u;exact this.2 g u
  ·rename_i f' caps Y;have:=nr (st:=st) (st':=st') cs _ (oK (caps:=caps));rw[this.1];refine⟨rfl,λg u=>?_⟩;cases M:FS f' f with
   |false=>simp[M]at u
   |true=>rw[M]at u;exact this.2 g u
  ·exact⟨rfl,by simp⟩
 |hol a c off =>
  simp only[bj];have X:∀ q∈ax (aV x.2 c .nil),st' q=st q:=λq O=>Z q (pJ (c:=c) O)
  rw[iz X];cases M:decide (x.1=bk a.isAgg) with
  |false=>exact⟨rfl,by simp⟩
  |true =>
   simp only[cond_true];split
   ·rename_i r j v I;have a2:x.2[c]?=some (.al r j v):=by
     rw[FY]at I;cases O:x.2[c]? with
     |none=>rw[O]at I;simp at I
     |some l0=>rw[O]at I;simp at I;rw[I]
    have hr:=λq O=>Z q (rZ a2 q O)
    rw[cA hr];refine⟨rfl,λg u=>?_⟩;split at u
    ·rename_i p i o' E e xs _;cases a1:FS o' off with
     |false=>simp[a1]at u
     |true =>
      rw[a1]at u;simp only[cond_true]at u;split at u
      ·rename_i t ht;split at u
       ·simp only[FJ]at u;subst u;obtain⟨p1,p2⟩:=jF ht;refine⟨λz J=>X _ (p1 z J),λz J=>?_⟩;rcases FX.1 J with rfl|J
        ·exact hr r (by simp[ax])
        ·exact X _ (p2 z J)
       ·cases u
      ·cases u
    ·cases u
   ·exact⟨rfl,by simp⟩
theorem ll {ga ga':(pk:PK)->aK×List Leaf->Option (Got pk.den)}:∀ (ps:List PK) (xs:List (aK×List Leaf)),
  (∀ x∈xs,∀ pk,ga' pk x=ga pk x/\∀ g,ga pk x=some g->oI st st' g) ->
  bf ga' ps xs=bf ga ps xs/\∀ g,bf ga ps xs=some g->oI st st' g
 |[],[],_=>⟨rfl,λg u=>by simp only[bf,FJ]at u;subst u;exact⟨by simp,by simp⟩⟩
 |[],_::_,_=>⟨rfl,λg u=>by simp[bf]at u⟩
 |_::_,[],_=>⟨rfl,λg u=>by simp[bf]at u⟩
 |p::ps,x::xs,h=>by
  obtain⟨Z,X⟩:=h x (FP ..) p;obtain⟨h3,Y⟩:=ll ps xs (λy hy=>h y (FO _ hy));simp only[bf,Z,h3,true_and];intro g u;split at u
  ·rename_i M H;split at u
   ·rename_i O I;simp only[FJ]at u;subst u;exact⟨λz J=>(FK.1 J).elim ((X M H).1 z) ((Y O I).1 z),λz J=>(FK.1 J).elim ((X M H).2 z) ((Y O I).2 z)⟩
   ·cases u
  ·cases u
theorem uZ {H:List Ty}{B:Ty}{f:FuncId}{ls:List Leaf}(h:∀ l∈ls,fk st st' [l]):lm Γ st' H B f ls=lm Γ st H B f ls/\∀ g,lm Γ st H B f ls=some g->oI st st' g:=by
 have u:=λ (q:List PK)=>ll (st:=st) (st':=st') (ga:=bj st) (ga':=bj st') q (ls.map λl=>(aK.one,[l])) (λy O Y=>by
  obtain⟨l,M,rfl⟩:=FU.1 O;exact eQ (h l M))
 unfold lm;split
 ·rename_i c X;unfold tu;simp only[wa,(u _).1,true_and];intro g z;split at z
  ·cases J:(c.ps.drop H.length).all PK.reads&&B.flat&&c.fresh with
   |false=>simp[J]at z
   |true =>
    simp only[J,cond_true]at z;split at z
    ·rename_i g0 I;simp only[FJ]at z;subst z;exact⟨((u _).2 g0 I).1,by simp⟩
    ·cases z
  ·cases z
 ·exact⟨rfl,by simp⟩
theorem xU {pk:PK}{x:aK×List Leaf}(h:fk st st' x.2):co Γ st' pk x=co Γ st pk x/\∀ g,co Γ st pk x=some g->oI st st' g:=by
 cases pk with
 |fn O B =>
  simp only[co];split
  ·rename_i z y;have H:(∃ u,cD x=.clo z.1 u/\z.2=u.map λb=>Leaf.bp b 0)\/∃ u,cD x=.clr z.1 u/\z.2=u.map fm:=by
    generalize cD x=l at y;cases l <;> simp only[wQ,FJ,reduceCtorEq]at y
    ·subst y;exact .inl ⟨_,rfl,rfl⟩
    ·subst y;exact .inr ⟨_,rfl,rfl⟩
   have J:=h.one;rcases H with ⟨u,H,I⟩|⟨u,H,I⟩
   ·rw[H]at J;rw[I];exact uZ (qj J)
   ·rw[I];exact uZ oK
  ·exact eQ h
 |rd a=>exact eQ (pk:=.rd a) h
 |own a=>exact eQ (pk:=.own a) h
 |io a=>exact eQ (pk:=.io a) h
 |rref a=>exact eQ (pk:=.rref a) h
 |rref2 a=>exact eQ (pk:=.rref2 a) h
 |iop a=>exact eQ (pk:=.iop a) h
 |clo f M=>exact eQ (pk:=.clo f M) h
 |hol a c off=>exact eQ (pk:=.hol a c off) h
theorem u5:∀ (u ls:List Leaf),st' EPO=st EPO->(∀ q∈aB u,st' q=st q)->cl st' u ls=cl st u ls
 |[],_,_,_=>by simp[cl]
 |x::u,[],_,_=>by cases x <;> simp[cl]
 |x::u,l::ls,y,h=>by
  have z:=u5 u ls y (λq H=>h q (by rw[dJ];exact FN _ H));cases x with
  |al r j v =>
   have I:st' r=st r:=h r (by simp[aB]);simp only[cl,z,bq I,bq y]
  |_=>simp only[cl,z]
theorem rm {p:Bool}:∀ (ps:List PK) (xs:List (aK×List Leaf)) (y:ag ps),st' EPO=st EPO->(∀ x∈xs,∀ q∈aB x.2,st' q=st q)->aJ st' p ps xs y=aJ st p ps xs y
 |[],_,_,_,_=>by simp[aJ]
 |J::ps,[],y,_,h=>by cases J <;> simp[aJ]
 |J::ps,x::xs,y,M,h=>by
  have I:=λ (y:ag ps)=>rm (p:=p) ps xs y M (λz Y=>h z (FO _ Y))
  have X:=h x (FP ..);cases J with
  |io a =>
   simp only[aJ,I];rw[u5 x.2 _ (bq M _) (λq H=>bq (X q H) _)]
  |iop a =>
   simp only[aJ,I];have O:∀ q∈aB [cD x],st' q=st q:=λq H=>X q (jG H)
   congr 1;split
   ·rename_i b v u;rw[u]at O;rw[bq (O b (by simp[aB]))]
   ·rfl
  |_=>exact I _
theorem rq {n q:Nat}:∀ {ls:List Leaf} {k:Nat},q∈aB (aV ls k (.al TMP 0 n))->q∈aB ls\/q=TMP
 |[],_,h=>.inl h
 |l::ls,0,h=>by
  rw[show aV (l::ls) 0 (.al TMP 0 n)=.al TMP 0 n::ls from rfl,dJ,FK]at h;rw[dJ,FK];rcases h with h|h
  ·simp[aB]at h;exact .inr h
  ·exact .inl (.inr h)
 |l::ls,k+1,h=>by
  rw[show aV (l::ls) (k+1) (.al TMP 0 n)=l::aV ls k (.al TMP 0 n) from rfl,dJ,FK]at h;rw[dJ,FK];rcases h with h|h
  ·exact .inl (.inl h)
  ·exact (rq h).imp .inr id
theorem qk {U:Upd}{X ls:List Leaf}(hT:st' TMP=st TMP)(u:∀ q,q≠TMP->∀ z∈aB (ac U st q).ls,z∈aB (st q).ls)(O:aB (ac U st TMP).ls=[])(hx:fk st st' X)(y:∀ q∈aB ls,q∈aB X\/q=TMP) :
  fk (ac U st) (ac U st') ls:=by
 have H:∀ r z,z∈aB (ac U st r).ls->r≠TMP:=λr z hz e=>by subst e;rw[O]at hz;simp at hz
 refine⟨λq I=>?_,λr Z q I=>?_,λr Z Y M q I=>?_⟩
 ·rcases y q I with h|h
  ·exact bq (hx.d1 q h) U
  ·subst h;exact bq hT U
 ·have J:=H r q I;exact bq (hx.d2 r ((y r Z).resolve_right J) q (u r J q I)) U
 ·have J:=H r Y M;have h2:=H Y q I;exact bq (hx.d3 r ((y r Z).resolve_right J) Y (u r J Y M) q (u Y h2 q I)) U
theorem pK (Y:st' TMP=st TMP)(hE:st' EPO=st EPO):∀ (ps:List PK) (xs:List (aK×List Leaf)),(∀ x∈xs,fk st st' x.2)->dj st' ps xs=dj st ps xs /\
  ∀ (U:Upd) (X:List (aK×List Leaf)) (b:Option (Bool×Nat×Nat)),dj st ps xs=some (U,X,b)->(∀ y∈X,fk (ac U st) (ac U st') y.2)/\(∀ f r j,b=some (f,r,j)->st' r=st r)/\∀ ls,fk st st' ls->fk (ac U st) (ac U st') ls
 |[],xs,h=>⟨rfl,λU X b z=>by
   simp only[dj,FJ,F1]at z;obtain⟨rfl,rfl,rfl⟩:=z;exact⟨h,(λ_ _ _ h=>by cases h),λ_ h=>h⟩⟩
 |_::_,[],h=>⟨rfl,λU X b z=>by
   simp only[dj,FJ,F1]at z;obtain⟨rfl,rfl,rfl⟩:=z;exact⟨h,(λ_ _ _ h=>by cases h),λ_ h=>h⟩⟩
 |p::ps,x::xs,h=>by
  have hx:=h x (FP ..);obtain⟨i1,i2⟩:=pK Y hE ps xs (λy M=>h y (FO _ M));simp only[dj];cases hk:p.nest x.2 with
  |none =>
   simp only[i1,true_and];intro U X b z;simp only[FR]at z;obtain⟨u,O,z⟩:=z;simp only[F1]at z;obtain⟨rfl,rfl,rfl⟩:=z;obtain⟨j1,j2,j3⟩:=i2 u.1 u.2.1 u.2.2 O;refine⟨λy M=>?_,j2,j3⟩;rcases FX.1 M with rfl|M
   ·exact j3 _ hx
   ·exact j1 y M
  |some k =>
   obtain⟨l,a0,a1⟩:=sO hk;have hg:x.2.getD k .dead=l:=by rw[FY,a0];rfl
   have Z:∀ q∈ax [l],st' q=st q:=λq J=>hx.d1 q (gl (rZ a0 q J))
   simp only[hg,rl Y hE Z,true_and];intro U X b z;simp only[FR]at z;obtain⟨u,O,z⟩:=z;simp only[F1]at z;obtain⟨rfl,rfl,rfl⟩:=z;obtain⟨n,e1,H⟩:=pI (U:=u.1) (l':=u.2) O;have I:=vW (U:=u.1) (l':=u.2) O;refine⟨λy M=>?_,λf r j hb=>?_,λls a2=>qk Y H I a2 (λq J=>.inl J)⟩
   ·rcases FX.1 M with rfl|M
    ·refine qk Y H I hx λq J=>?_
     have J:q∈aB (aV x.2 k u.2):=J;rw[e1]at J;exact rq J
    ·exact qk Y H I (h y (FO _ M)) (λq J=>.inl J)
   ·simp only[FJ,F1]at hb;have hr:r=(kP l).1:=by rw[hb.2]
    rw[hr];refine Z _ ?_;cases l with
    |nal p ks ep a3 E e xs =>
     cases ks with
     |nil =>
      exfalso;simp only[cC]at O;cases hv:bu st [] ep <;> simp[hv]at O
     |cons k ks=>rw[i8];simp[kP]
    |_=>simp[jZ]at a1
theorem AL {b:Option (Bool×Nat×Nat)}{U:Upd}(y:st' TMP=st TMP)(u:st' EPO=st EPO)(z:∀ f r j,b=some (f,r,j)->st' r=st r):kD st' b U κ=kD st b U κ:=by
 unfold kD;split
 ·rename_i r j;rw[bq (z true r j rfl),bq y,bq u]
 ·rfl
theorem u6 {d:Nat}{f:FuncId}{xs:List (aK×List Leaf)}(hT:st' TMP=st TMP)(X:st' EPO=st EPO)(hx:∀ x∈xs,fk st st' x.2)(hd:st' d=st d)(hB:st' (B0+d)=st (B0+d)):j0 Γ st' d f xs κ=j0 Γ st d f xs κ:=by
 unfold j0;split
 ·rename_i c hc;obtain⟨n1,n2⟩:=pK hT X c.ps xs hx;rw[ig,ig,n1];cases hn:dj st c.ps xs with
  |none=>rfl
  |some u =>
   obtain⟨H,O,b⟩:=u;obtain⟨m1,m2,_⟩:=n2 H O b hn;simp only[GM];have hg:=ll (st:=ac H st) (st':=ac H st') (ga:=co Γ (ac H st)) (ga':=co Γ (ac H st')) c.ps O (λx I pk=>xU (m1 x I));simp only[pP,hg.1];split
   ·rename_i g a2;obtain⟨h1,h2⟩:=hg.2 g a2;have J:il st' d c.rs=il st d c.rs:=by
     unfold il;split
     ·rw[hB]
     ·rfl
    have hL:∀ q,ac H st' q=ac H st q->∀ U,ac (U++H) st' q=ac (U++H) st q:=λq h U=>by rw[bH,bH];exact bq h U
    have a1:(bif c.fresh then [] else aI (ac H st') g.frz)=(bif c.fresh then [] else aI (ac H st) g.frz):=by rw[kU h1]
    have hk:∀ (U:Upd),aP (ac U (ac H st')) g.kill=aP (ac U (ac H st)) g.kill:=λU=>i9 (λz hz=>bq (h2 z hz) U)
    have ho:∀ (U:Upd) (p:Bool) (y:ag c.ps),aJ (ac (U++H) st') p c.ps O y=aJ (ac (U++H) st) p c.ps O y:=λU p y =>
     rm c.ps O y (hL _ (bq X H) U) (λx I q hq=>hL _ ((m1 x I).d1 q hq) U)
    have M:∀ (U:Upd),(g.frz.map λk=>(k.1,k.2,(ac (U++H) st' k.1).ver))=g.frz.map λk=>(k.1,k.2,(ac (U++H) st k.1).ver):=λU=>Gv λz hz=>by rw[hL _ (h1 z hz) U]
    have a0:∀ U,ac U st' d=ac U st d:=λU=>bq hd U
    have Y:∀ U,ac U st' (B0+d)=ac U st (B0+d):=λU=>bq hB U
    have Z:∀ U,ac U st' EPO=ac U st EPO:=λU=>bq X U
    simp only[J,a1,hk,ho,a0,Y,Z,<- GD,M,AL hT X m2]
   ·rfl
 ·rfl
theorem sZ:∀ (u:List Ty) (xs:List (aK×List Leaf)),(∀ x∈xs,∀ q∈ax x.2,st' q=st q)->js st' u xs=js st u xs
 |[],[],_=>rfl
 |[],_::_,_=>rfl
 |_::_,[],_=>rfl
 |a::u,x::xs,h=>by
  simp only[js,fa (h x (FP ..)),sZ u xs (λy z=>h y (FO _ z))]
theorem xV {r j i off n:Nat}{p:Bool}{E:TypeId}{e:Ty}{xs:List e.den}{h:Option (Nat×Nat)}{ls:List Leaf}(O:st' r=st r)(M:st' EPO=st EPO)(y:∀ q∈ax ls,st' q=st q):im st' r j i off n p E e xs h ls κ=im st r j i off n p E e xs h ls κ:=by
 unfold im;congr 1;funext u;rw[qh e 0 u ls y];split
 ·rename_i t X;obtain⟨Y,Z⟩:=qi e 0 u ls t X;have I:aI st' t.frz=aI st t.frz:=kU (λz H=>y _ (Y z H));have J:∀ U:Upd,aP (ac U st') t.kill=aP (ac U st) t.kill:=λU=>i9 (λz H=>bq (y _ (Z z H)) U)
  simp only[I,J,O,bq M]
 ·rfl
end
section
variable {P:Program} {V:Env} {Γ:List Ctr} {T:TypeId->TI} {st st':St} {o:Oper} {R:Type} {κ:Upd->Option R} {r:R}
theorem dK {H:List Nat}(h:∀ q∈H++H.flatMap (λt=>ax (st t).ls),st' q=st q){x:Operand}(z:∀ t,x=.tmp t->t∈H):(∀ t,x=.tmp t->st' t=st t)/\∀ q∈ax (au st x).2,st' q=st q:=by
 refine⟨λt y=>h t (FM _ (z t y)),λq u=>?_⟩;obtain⟨t,y,u⟩:=sU u;rcases u with rfl|u
 ·exact h q (FM _ (z q y))
 ·exact h q (FN _ (F2.2 ⟨t,z t y,u⟩))
theorem oL {H:List Nat}(h:∀ q∈H++H.flatMap (λt=>aB (st t).ls),st' q=st q){x:Operand}(z:∀ t,x=.tmp t->t∈H):(∀ t,x=.tmp t->st' t=st t)/\∀ q∈aB (au st x).2,st' q=st q:=by
 refine⟨λt y=>h t (FM _ (z t y)),λq u=>?_⟩;obtain⟨t,y,u⟩:=sW u;rcases u with rfl|u
 ·exact h q (FM _ (z q y))
 ·exact h q (FN _ (F2.2 ⟨t,z t y,u⟩))
theorem rr {y:List Nat}(h:∀ q∈lp st y,st' q=st q){x:Operand}(Z:∀ t,x=.tmp t->t∈y):fk st st' (au st x).2:=by
 have J:∀ q,q∈y->st' q=st q:=λq u=>h q (by simp[lp];exact .inl u)
 have O:∀ q,q∈y.flatMap (λt=>aB (st t).ls)->st' q=st q:=λq u=>h q (by
  unfold lp;exact FM _ (FM _ (FN _ u)))
 have X:∀ q,q∈(y.flatMap (λt=>aB (st t).ls)).flatMap (λt=>aB (st t).ls)->st' q=st q:=λq u=>h q (by
  unfold lp;exact FM _ (FN _ u))
 have hc:∀ q,q∈((y.flatMap (λt=>aB (st t).ls)).flatMap (λt=>aB (st t).ls)).flatMap (λt=>aB (st t).ls)->st' q=st q:=λq u=>h q (by
  unfold lp;exact FN _ u)
 have l1:∀ r∈aB (au st x).2,r∈y\/r∈y.flatMap (λt=>aB (st t).ls):=by
  intro r H;obtain⟨t,Y,u⟩:=sW H;rcases u with rfl|u
  ·exact .inl (Z r Y)
  ·exact .inr (F2.2 ⟨t,Z t Y,u⟩)
 have l2:∀ r∈aB (au st x).2,∀ q∈aB (st r).ls,q∈y.flatMap (λt=>aB (st t).ls)\/q∈(y.flatMap (λt=>aB (st t).ls)).flatMap (λt=>aB (st t).ls):=by
  intro r H q u;rcases l1 r H with z|z
  ·exact .inl (F2.2 ⟨r,z,u⟩)
  ·exact .inr (F2.2 ⟨r,z,u⟩)
 refine⟨λq u=>(l1 q u).elim (J q) (O q),λr H q u=>(l2 r H q u).elim (O q) (X q),λr H M I q u=>?_⟩;rcases l2 r H M I with z|z
 ·exact X q (F2.2 ⟨M,z,u⟩)
 ·exact hc q (F2.2 ⟨M,z,u⟩)
theorem bi {xs:Array Operand}{x:Operand}(h:x∈xs):∀ t,x=.tmp t->t∈je xs.toList:=λt e=>sS (by rw[<- e];simpa using h)
theorem op_fr (h:∀ q∈fP st o,st' q=st q)(H:∀ x,o.op≠.move x)(z:∀ t x i,o.op≠.indexAddr t x i):∀ q∈cE st o.op,st' q=st q:=λq y=>h q (by
 unfold fP;refine FM _ ?_;cases u:o.op with
 |move x=>exact absurd u (H x)
 |indexAddr t x i=>exact absurd u (z t x i)
 |_=>rw[u]at y;exact y)
theorem Cb {α β:Type}{xs:List α}{n:Int}{K:Option β}:((idx xs n).bind λ_=>K)=if 0<=n/\n<xs.length then K else none:=by
 unfold idx;by_cases u:n<0
 ·rw[if_pos u,if_neg (by omega)];rfl
 ·rw[if_neg u];by_cases y:n.toNat<xs.length
  ·rw[F0 y,if_pos (by omega)];rfl
  ·rw[Gp (by omega),if_neg (by omega)];rfl
theorem CY (h:∀ q∈fP st o,st' q=st q)(hh:∀ q∈fA st o.op,bR (st' q)=bR (st q)):act Γ T o st' κ=act Γ T o st κ:=by
 have M:=op_fr h;have a0:∀ (U:Upd) (d:Nat) (sh:aK) (ls:List Leaf),o.dst=some d->cB st' U d sh ls=cB st U d sh ls:=λU d sh ls hd=>wG (uY hd h).1
 have hB:∀ d,o.dst=some d->st' (B0+d)=st (B0+d):=λd hd=>(uY hd h).2
 have hw:∀ (sh:aK) (ls:List Leaf),wrU o st' κ sh ls=wrU o st κ sh ls:=by
  intro sh ls;unfold wrU;split
  ·rename_i d hd;rw[a0 _ _ _ _ hd]
  ·rfl
 cases I:o.op with
 |move x =>
  simp only[I,fA]at hh;have e:au st' x=au st x:=zx λt Y=>hh t (bi (by simp[Op.operands]) t Y)
  simp only[act,I,e,hw]
 |assign x =>
  have H:=M (by simp[I]) (by simp[I]);simp only[I,cE]at H;have J:=dK H (x:=x) (bi (by simp[Op.operands]));have e:au st' x=au st x:=ee J.1;simp only[act,I,e,r9 J.2,qg J.2,uV J.2];split
  ·rename_i d hd;rw[a0 _ _ _ _ hd]
  ·rfl
 |pick c x y =>
  have H:=M (by simp[I]) (by simp[I]);simp only[I,cE]at H;have e1:one st' c=one st c:=dP λt Y=>H t (bi (by simp[Op.operands]) t Y)
  have e2:au st' x=au st x:=ee λt Y=>H t (bi (by simp[Op.operands]) t Y)
  have e3:au st' y=au st y:=ee λt Y=>H t (bi (by simp[Op.operands]) t Y)
  simp only[act,I,e1,e2,e3,hw]
 |alloc t =>
  simp only[act,I];split
  ·rename_i d hd;rw[a0 _ _ _ _ hd,hB d hd]
  ·rfl
 |box t x =>
  have H:=M (by simp[I]) (by simp[I]);simp only[I,cE]at H;have J:=dK H (x:=x) (bi (by simp[Op.operands]));have e:au st' x=au st x:=ee J.1;have ad:tI st' x=tI st x:=by cases x <;> first|rfl|(simp only[tI];rw[J.1 _ rfl])
  simp only[act,I,e,r9 J.2,qg J.2,uV J.2,ad];split
  ·rename_i d hd;simp only[a0 _ _ _ _ hd,hB d hd,bq (hB d hd)]
  ·rfl
 |build t a2 =>
  have H:=M (by simp[I]) (by simp[I]);simp only[I,cE]at H;have hb:∀ a5 ls,fO st' a5 a2.toList ls=fO st a5 a2.toList ls:=λa5 ls=>rj _ _ (λx J t Y=>H t (bi (by simp only[Op.operands,G8,FU];exact⟨x,J,rfl⟩) t Y))
  simp only[act,I,hw,hb]
 |buildSlice t n a2 =>
  have H:=M (by simp[I]) (by simp[I]);simp only[I,cE]at H;have J:∀ x∈a2.toList,(∀ t,x.2=.tmp t->st' t=st t)/\∀ q∈ax (au st x.2).2,st' q=st q:=λx J =>
   dK H (bi (by simp only[Op.operands,G8,FU];exact⟨x,J,rfl⟩))
  simp only[act,I];split
  ·rw[pG _ _ J];split
   ·rename_i u b1;have b6:=pH _ _ _ b1;have b0:∀ z,z∈u.frz\/z∈u.kill->st' z.1=st z.1:=λz hz=>by
     obtain⟨x,bb,bl⟩:=b6 z hz;exact (J x bb).2 _ bl
    have e1:aI st' u.frz=aI st u.frz:=kU λz hz=>b0 z (.inl hz)
    have e2:∀ U:Upd,aP (ac U st') u.kill=aP (ac U st) u.kill:=λU=>i9 (λz hz=>bq (b0 z (.inr hz)) U)
    simp only[e1,e2];congr 1;split
    ·rename_i d hd;rw[a0 _ _ _ _ hd]
    ·rfl
   ·rfl
  ·rfl
 |load t x =>
  have H:=M (by simp[I]) (by simp[I]);simp only[I,cE]at H;have J:=oL H (x:=x) (bi (by simp[Op.operands]));have e:one st' x=one st x:=dP J.1;have X:∀ q∈aB [one st x],st' q=st q:=λq O=>J.2 q (uW O)
  simp only[act,I,e,hw];congr 1;split
  ·rfl
  ·rename_i b off Z;rw[Z]at X;rw[X b (by simp[aB])]
  ·rfl
  ·rename_i p ks ep a y off Z;rw[Z]at X;rw[kn (λq O=>X q (by simpa[aB]using O))]
  ·rename_i r j v i sz off Z;rw[Z]at X;rw[cA (l:=.al r j v) (λq O=>X q (by simp[ax]at O;simp[aB,O])),X EPO (by simp[aB])]
  ·rfl
 |store t x y =>
  have H:=M (by simp[I]) (by simp[I]);simp only[I,cE]at H;have J:=oL H (x:=x) (bi (by simp[Op.operands]));have hy:=oL H (x:=y) (bi (by simp[Op.operands]));have e:one st' x=one st x:=dP J.1;have e2:au st' y=au st y:=ee hy.1;have X:∀ q∈aB [one st x],st' q=st q:=λq O=>J.2 q (uW O)
  have a8:∀ q∈ax (au st y).2,st' q=st q:=λq O=>hy.2 q (gl O)
  simp only[act,I,e,e2,r9 a8,qg a8,uV a8];split
  ·rfl
  ·congr 1;split
   ·rename_i b off Z;rw[Z]at X;have hb:=X b (by simp[aB]);simp only[hb,bq hb]
   ·rename_i r j v i sz off Z;rw[Z]at X;have b9:=X r (by simp[aB]);rw[cA (l:=.al r j v) (λq O=>X q (by simp[ax]at O;simp[aB,O]))];split
    ·rw[xV b9 (X EPO (by simp[aB])) a8]
    ·rfl
   ·rfl
 |nilCheck x =>
  have H:=M (by simp[I]) (by simp[I]);simp only[I,cE]at H;have J:=dK H (x:=x) (bi (by simp[Op.operands]));have e:one st' x=one st x:=dP J.1;have X:∀ q∈ax [one st x],st' q=st q:=λq O=>J.2 q (jX O)
  simp only[act,I,e,hw];split
  ·rfl
  ·rfl
  ·rename_i r j v i sz off Z;rw[Z]at X;rw[X r (by simp[ax])]
  ·rfl
  ·rename_i p ks ep a y off Z;rw[Z,wF]at X;rw[kn X]
  ·rfl
 |binOp op t x y t' =>
  have H:=M (by simp[I]) (by simp[I]);simp only[I,cE]at H;have J:=dK H (x:=x) (bi (by simp[Op.operands]));have hy:=dK H (x:=y) (bi (by simp[Op.operands]));have e1:one st' x=one st x:=dP J.1;have e2:one st' y=one st y:=dP hy.1;have e3:au st' x=au st x:=ee J.1;have e4:au st' y=au st y:=ee hy.1;simp only[act,I,e1,e2,e3,e4,hw,fa J.2,fa hy.2]
 |unOp op t x =>
  have H:=M (by simp[I]) (by simp[I]);simp only[I,cE]at H;have e1:one st' x=one st x:=dP λt Y=>H t (bi (by simp[Op.operands]) t Y)
  simp only[act,I,e1,hw]
 |convert s t x =>
  have H:=M (by simp[I]) (by simp[I]);simp only[I,cE]at H;have J:=dK H (x:=x) (bi (by simp[Op.operands]));have e1:one st' x=one st x:=dP J.1;have X:∀ q∈ax [one st x],st' q=st q:=λq O=>J.2 q (jX O)
  simp only[act,I,e1,hw];split
  ·rfl
  ·rw[cA X]
  ·rfl
  ·rfl
 |makeSlice t n c =>
  have H:=M (by simp[I]) (by simp[I]);simp only[I,cE]at H;have e1:one st' n=one st n:=dP λt Y=>H t (bi (by simp[Op.operands]) t Y)
  have e2:one st' c=one st c:=dP λt Y=>H t (bi (by simp[Op.operands]) t Y)
  simp only[act,I,e1,e2,hw]
 |slice t x lo hi mx =>
  have H:=M (by simp[I]) (by simp[I]);simp only[I,cE]at H;have hE:=H EPO (FP ..);have H:=λq O=>H q (FO _ O)
  have J:=dK H (x:=x) (bi (by simp[Op.operands]));have b4:∀ n,dx st' lo n=dx st lo n:=λn=>oH λy hy t Y=>H t (FM _ (bi (by simp[Op.operands,hy]) t Y))
  have b3:∀ n,dx st' hi n=dx st hi n:=λn=>oH λy hy t Y=>H t (FM _ (bi (by simp[Op.operands,hy]) t Y))
  have e:one st' x=one st x:=dP J.1;have X:∀ q∈ax [one st x],st' q=st q:=λq O=>J.2 q (jX O)
  have b5:∀ m,mx=some m->dx st' (some m) 0=dx st (some m) 0:=λm hm=>oH λy hy t Y=>H t (FM _ (bi (by simp[Op.operands,hm,HD hy]) t Y))
  simp only[act,I,e,b4,b3,cA X,hE];cases hd:o.dst with
  |none=>cases mx <;> rfl
  |some d =>
   cases mx with
   |none=>simp only[a0 _ _ _ _ hd]
   |some m =>
    simp only[b5 m rfl];split
    ·rename_i r j v _ Z _;rw[Z]at X;rw[cA X,i9 (st:=st) (st':=st') (λz hz=>by simp at hz;subst hz;exact X _ (by simp[ax]))];simp only[a0 _ _ _ _ hd]
    ·rfl
 |fieldAddr t x f =>
  have H:=M (by simp[I]) (by simp[I]);simp only[I,cE]at H;have J:=dK H (x:=x) (bi (by simp[Op.operands]));have e:one st' x=one st x:=dP J.1;have X:∀ q∈ax [one st x],st' q=st q:=λq O=>J.2 q (jX O)
  simp only[act,I,e,hw];split
  ·split
   ·split
    ·rfl
    ·rfl
    ·rename_i r j v i sz off Z;rw[Z]at X;rw[X r (by simp[ax])]
    ·rename_i p ks ep a y o' Z;rw[Z,wF]at X;rw[kn X]
    ·rfl
   ·rfl
  ·rfl
 |field t x f =>
  have H:=M (by simp[I]) (by simp[I]);simp only[I,cE]at H;have e1:au st' x=au st x:=ee λt Y=>H t (bi (by simp[Op.operands]) t Y)
  simp only[act,I,e1,hw]
 |indexAddr t x i =>
  simp only[I,fA]at hh;have az:∀ y∈(Op.indexAddr t x i).operands,∀ t,y=.tmp t->bR (st' t)=bR (st t):=λy hy t Y=>hh t (FM _ (bi hy t Y))
  have e:one st' x=one st x:=Bj (az x (by simp[Op.operands]));have e2:one st' i=one st i:=Bj (az i (by simp[Op.operands]));have X:∀ q∈ax [one st x],bR (st' q)=bR (st q):=λq O=>by
   obtain⟨t',ba,O⟩:=sU (jX O);have a6:=bi (xs:=(Op.indexAddr t x i).operands) (x:=x) (by simp[Op.operands]) t' ba;rcases O with rfl|O
   ·exact hh q (FM _ a6)
   ·exact hh q (FN _ (F2.2 ⟨t',a6,O⟩))
  simp only[act,I,e,e2,hw];split
  ·split
   ·rfl
   ·split
    ·rename_i r j v Z;rw[Z]at X;have O:=X r (by simp[ax]);have hv:(st' r).ver=(st r).ver:=by simp only[bR,F1]at O;exact O.1
     simp only[aH,hv];cases FS (st r).ver v with
     |false=>rfl
     |true =>
      simp only[cond_true];rcases uX (zy O j) with e3|⟨p,p',h1,h2,E1,E2,e',bn,xs,bx,e3,e4,e5,e6⟩
      ·rw[e3]
      ·rw[e3,e4];simp only[qw,e5,Cb,e6]
    ·rfl
    ·rename_i p ks ep bo E' e' xs Z;rw[Z,i8]at X;rw[AK X]
    ·rfl
   ·rfl
  ·rfl
 |index t x i =>
  have H:=M (by simp[I]) (by simp[I]);simp only[I,cE]at H;have J:=dK H (x:=x) (bi (by simp[Op.operands]));have e1:one st' x=one st x:=dP J.1;have e2:one st' i=one st i:=dP (dK H (x:=i) (bi (by simp[Op.operands]))).1;have e3:au st' x=au st x:=ee J.1;simp only[act,I,e1,e2,e3,hw,λe n=>oE (e:=e) n _ J.2]
 |extract x i =>
  have H:=M (by simp[I]) (by simp[I]);simp only[I,cE]at H;have e1:au st' x=au st x:=ee λt Y=>H t (bi (by simp[Op.operands]) t Y)
  simp only[act,I,e1,hw]
 |makeFunc fn first a3 =>
  have H:=M (by simp[I]) (by simp[I]);simp only[I,cE]at H;cases fn with
  |func f =>
   have:tK st' a3.toList=tK st a3.toList:=wH (st:=st) (st':=st') a3.toList (some []) (λx J t Y=>H t (bi (by simp[Op.operands];exact .inr (by simpa using J)) t Y));simp only[act,I,hw,this]
  |_=>simp only[act,I]
 |call c =>
  have H:=M (by simp[I]) (by simp[I]);simp only[I,cE]at H;simp only[act,I];split
  ·rfl
  ·rename_i d hd;obtain⟨a9,aw⟩:=uY hd h;cases hc:c.callee with
   |value f =>
    simp only[hc]at H;have hT:=H TMP (FP ..);have hE:=H EPO (FO _ (FP ..));have H:=λq O=>H q (FO _ (FO _ O))
    have ay:f∈(Op.call c).operands:=by simp[Op.operands,Call.operands,hc]
    have a7:∀ x∈c.args.toList,x∈(Op.call c).operands:=λx J=>by
     simp only[Op.operands,Call.operands,hc,G9];exact .inr (by simpa using J)
    have a6:∀ x∈(Op.call c).operands,∀ t,x=.tmp t->st' t=st t:=λx J t Y=>H t (by
     unfold lp;exact FM _ (FM _ (FM _ (bi J t Y))))
    have e1:one st' f=one st f:=dP (a6 f ay);have e2:c.args.toList.map (au st')=c.args.toList.map (au st):=Gv λx J=>ee (a6 x (a7 x J))
    have a4:∀ x∈c.args.toList.map (au st),fk st st' x.2:=by
     intro x J;obtain⟨y,hy,rfl⟩:=FU.1 J;exact rr H (bi (a7 y hy))
    simp only[e1,e2];split
    ·rename_i g a3 Z;refine u6 hT hE ?_ a9 aw;intro x J;rcases FK.1 J with J|J
     ·exact a4 x J
     ·obtain⟨b,hb,rfl⟩:=FU.1 J;have hf:=rr H (bi ay);rw[sa Z (by simp)]at hf;exact qj hf _ (FU.2 ⟨b,hb,rfl⟩)
    ·rename_i g a3 Z;refine u6 hT hE ?_ a9 aw;intro x J;rcases FK.1 J with J|J
     ·exact a4 x J
     ·obtain⟨cp,b2,rfl⟩:=FU.1 J;exact oK _ (FU.2 ⟨cp,b2,rfl⟩)
    ·rename_i As B φ Z;rw[sZ As _ (λx J q O=>(a4 x J).d1 q (gl O))];simp only[hw]
    ·rfl
   |builtin b =>
    simp only[hc]at H;have hT:=H TMP (FP ..);have H:=λq O=>H q (FO _ O)
    have a7:∀ x∈c.args.toList,x∈(Op.call c).operands:=λx J=>by
     simp only[Op.operands,Call.operands,hc,G9];exact .inr (by simpa using J)
    have J:∀ x∈c.args.toList,one st' x=one st x/\∀ q∈ax [one st x],st' q=st q:=λx J=>by
     have:=dK H (bi (a7 x J));exact⟨dP this.1,λq O=>this.2 q (jX O)⟩
    cases b with
    |len =>
     dsimp only;split
     ·rename_i x a1;have h1:=J x (by rw[a1];simp);simp only[h1.1,cA h1.2,hw]
     ·rfl
    |append =>
     dsimp only;split
     ·rename_i x y t u a1 _;have h1:=J x (by rw[a1];simp);have h2:=J y (by rw[a1];simp);split
      ·rw[h1.1,h2.1,xT hT h1.2 h2.2 a9]
      ·rfl
     ·rfl
    |min =>
     dsimp only;split
     ·rename_i x y a1;rw[(J x (by rw[a1];simp)).1,(J y (by rw[a1];simp)).1];simp only[hw]
     ·rfl
    |max =>
     dsimp only;split
     ·rename_i x y a1;rw[(J x (by rw[a1];simp)).1,(J y (by rw[a1];simp)).1];simp only[hw]
     ·rfl
    |_=>rfl
   |invoke x n=>rfl
 |_=>simp only[act,I]
end
section
variable {P:Program} {V:Env} {Γ:List Ctr} {T:TypeId->TI} {st st':St} {o:Oper} {R:Type} {all:Array Oper}
def nu (Γ:List Ctr)(T:TypeId->TI)(all:Array Oper)(o:Oper)(st:St)(U:Upd):Prop :=
 match o.guard with
 |none=>act Γ T o st some=some U
 |some (j,r)=>∃ t,(all[j]?).bind (·.dst)=some t /\
  ((∃ b,(st t).sh=.one/\(st t).ls=[.bool b]/\((b=r/\act Γ T o st some=some U)\/(b≠r/\U=fe st o)))\/((st t).sh=.und/\U=fe st o))
def ko (Γ:List Ctr)(T:TypeId->TI)(all:Array Oper)(o:Oper)(st:St)(U:Upd)(t:cV):Prop :=
 ((∀ q∈U.map (·.1),q∈t.wr\/q∈t.cw)/\(∀ q∈t.wr,q∈U.map (·.1))/\∀ q,q∈U.map (·.1)->q∉t.wr->bR (ac U st q)=bR (st q))/\match o.guard with
 |none=>act Γ T o st some=some U/\(∀ q∈fP st o,q∈t.rd)/\∀ q∈fA st o.op,q∈t.hd
 |some (j,r)=>∃ s,(all[j]?).bind (·.dst)=some s/\s∈t.rd /\
  ((∃ b,(st s).sh=.one/\(st s).ls=[.bool b]/\((b=r/\act Γ T o st some=some U/\(∀ q∈fP st o,q∈t.rd)/\∀ q∈fA st o.op,q∈t.hd)\/(b≠r/\U=fe st o/\∀ d,o.dst=some d->d∈t.wr))) \/
   ((st s).sh=.und/\U=fe st o/\∀ d,o.dst=some d->d∈t.wr))
theorem u7 {α:Type}:∀ {l:List α} {j:Nat} {x:α},l[j]?=some x->l.set j x=l
 |[],_,_,h=>by simp at h
 |y::l,0,x,h=>by simp at h;subst h;rfl
 |y::l,j+1,x,h=>by rw[G1,u7 (by simpa using h)]
theorem Cc {U:Upd}(h:act Γ T o st some=some U):∀ q∈ew st o,bR (ac U st q)=bR (st q):=by
  intro q u;unfold ew at u;split at u
  · rename_i t x y J
    split at u
    · rename_i r j a1 i sz off hx
      simp only[GG]at u;subst u;simp only[act,wrU,J]at h;split at h
      · cases h
      · cases Y:FS (au st y).2.length (T t).cells&&decide ((au st y).1=bk (T t).agg)&&!decide ((T t).cells=0) with
        |false=>simp[Y]at h
        |true =>
          simp only[Y,cond_true,hx]at h;split at h
          · rename_i p hh E e xs hd
            cases Z:FS sz e.cells&&decide (off+(au st y).2.length<=e.cells)&&tv q with
            |false=>simp[Z]at h
            |true =>
              simp only[Z,cond_true]at h;obtain⟨_,hl⟩:=fH hd (by simp);have z:∀ (p':Bool) (I:Option (Nat×Nat)) (v:e.den) (X:Upd),bR (ac ((q,⟨(st q).ver,(st q).sh,aV (st q).ls j (.own p' I E e (xs.set i v))⟩)::X) st q)=bR (st q):=by
                intro p' I v X;rw[aR,bm];simp only[bR,aV];rw[List.map_set,u7];rw[G5,hl];simp[kc]
              unfold im at h;obtain⟨a0,_,h⟩:=GE.1 h;split at h
              · rename_i t _
                cases H:t.rest.isEmpty&&bc t.kill&&dO t.frz t.kill&&!((t.kill++t.frz).any λk=>FS k.1 q) with
                |false=>rw[H]at h;cases h
                |true =>
                  simp only[H,cond_true]at h;cases hh with
                  |none =>
                    simp only[FJ]at h;rw[<- h];exact z _ _ _ _
                  |some hp =>
                    obtain⟨hi,ho⟩:=hp;simp only at h;cases M:Gu off ho&&Gm ho (off+(au st y).2.length) with
                    |false =>
                      rw[M]at h;simp only[cond_false,FJ]at h;rw[<- h];exact z _ _ _ _
                    |true =>
                      rw[M]at h;simp only[cond_true]at h;cases O:FS i hi with
                      |false=>rw[O]at h;cases h
                      |true =>
                        rw[O]at h;simp only[cond_true,FJ]at h;rw[<- h];exact z _ _ _ _
              · cases h
          · cases h
    · simp at u
  · simp at u
theorem ql {t:Nat}{b:Bool}(r:(st t).sh=.one)(u:(st t).ls=[.bool b]):lit st t b=st:=by
 funext q;unfold lit;rcases an t q ⟨(st t).ver,.one,[.bool b]⟩ st with ⟨rfl,e⟩|⟨_,e⟩
 ·rw[e,<- r,<- u]
 ·exact e
theorem xW {U:Upd}(h:act Γ T o st some=some U):(∀ q∈U.map (·.1),q∈(U.map (·.1)).filter (λq=>!((ew st o).any (FS q)))\/q∈ew st o)/\(∀ q∈(U.map (·.1)).filter (λq=>!((ew st o).any (FS q))),q∈U.map (·.1)) /\
  ∀ q,q∈U.map (·.1)->q∉(U.map (·.1)).filter (λq=>!((ew st o).any (FS q)))->bR (ac U st q)=bR (st q):=by
 have r:∀ q,(ew st o).any (FS q)=true->q∈ew st o:=λq u=>by
  obtain⟨x,I,z⟩:=GX.1 u;rw[FQ z];exact I
 refine⟨λq u=>?_,λq u=>(GS.1 u).1,λq u H=>?_⟩
 ·cases y:(ew st o).any (FS q) with
  |true=>exact .inr (r q y)
  |false=>exact .inl (GS.2 ⟨u,by rw[y];rfl⟩)
 ·refine Cc h q (r q ?_);cases y:(ew st o).any (FS q) with
  |true=>rfl
  |false=>exact absurd (GS.2 ⟨u,by rw[y];rfl⟩) H
theorem Cd {κ:St->cV->Option R}{r:R}(h:opK Γ T all o st κ=some r):∃ U t,ko Γ T all o st U t/\κ (ac U st) t=some r:=by
 have Y:∀ (J:List Nat),act Γ T o st (λU=>κ (ac U st) ⟨J++fP st o,fA st o.op,(U.map (·.1)).filter (λq=>!((ew st o).any (FS q))),ew st o⟩)=some r ->
   ∃ U,act Γ T o st some=some U/\κ (ac U st) ⟨J++fP st o,fA st o.op,(U.map (·.1)).filter (λq=>!((ew st o).any (FS q))),ew st o⟩=some r:=by
  intro J h;rw[uU]at h;obtain⟨U,M,X⟩:=GE.1 h;exact⟨U,M,X⟩
 have y:((∀ q∈(fe st o).map (·.1),q∈o.dst.toList\/q∈([]:List Nat))/\(∀ q∈o.dst.toList,q∈(fe st o).map (·.1))/\∀ q,q∈(fe st o).map (·.1)->q∉o.dst.toList->bR (ac (fe st o) st q)=bR (st q)):=by
  unfold fe;cases o.dst with
  |none=>simp
  |some d=>simp
 unfold opK at h;unfold ko;cases hg:o.guard with
 |none =>
  simp only[hg]at h;obtain⟨U,M,X⟩:=Y [] h;exact⟨U,_,⟨xW M,M,λq I=>by simpa using I,λq I=>I⟩,X⟩
 |some jw =>
  obtain⟨j,O⟩:=jw;simp only[hg]at h;split at h
  ·rename_i t Z;have z:∀ d,o.dst=some d->d∈o.dst.toList:=λd hd=>by simp[hd]
   split at h
   ·rename_i b u H;have hl:∀ b',b'=b->lit st t b'=st:=λb' e=>ql u (by rw[H,e])
    cases b with
    |true =>
     simp only[cond_true,hl true rfl]at h;cases O with
     |true =>
      simp only[cond_true]at h;obtain⟨U,M,X⟩:=Y [t] h;exact⟨U,_,⟨xW M,t,Z,by simp,.inl ⟨true,u,H,.inl ⟨rfl,M,λq I=>FN _ I,λq I=>I⟩⟩⟩,X⟩
     |false =>
      simp only[cond_false]at h;exact⟨fe st o,_,⟨y,t,Z,by simp,.inl ⟨true,u,H,.inr ⟨by simp,rfl,z⟩⟩⟩,h⟩
    |false =>
     simp only[cond_false,hl false rfl]at h;cases O with
     |true =>
      simp only[cond_true]at h;exact⟨fe st o,_,⟨y,t,Z,by simp,.inl ⟨false,u,H,.inr ⟨by simp,rfl,z⟩⟩⟩,h⟩
     |false =>
      simp only[cond_false]at h;obtain⟨U,M,X⟩:=Y [t] h;exact⟨U,_,⟨xW M,t,Z,by simp,.inl ⟨false,u,H,.inl ⟨rfl,M,λq I=>FN _ I,λq I=>I⟩⟩⟩,X⟩
   ·rename_i u;exact⟨fe st o,_,⟨y,t,Z,by simp,.inr ⟨u,rfl,z⟩⟩,h⟩
   ·cases h
  ·cases h
theorem wI {U:Upd}(e:U=fe st o)(u:∀ d,o.dst=some d->st' d=st d):U=fe st' o:=by
 rw[e];unfold fe;cases r:o.dst with
 |none=>rfl
 |some d=>simp only[u d r]
theorem ko.frame {U:Upd}{t:cV}(h:ko Γ T all o st U t)(u:∀ q,q∈t.rd\/q∈t.wr->st' q=st q)(hh:∀ q∈t.hd,bR (st' q)=bR (st q)):nu Γ T all o st' U:=by
 obtain⟨_,h⟩:=h;have r:act Γ T o st some=some U->(∀ q∈fP st o,q∈t.rd)->(∀ q∈fA st o.op,q∈t.hd)->act Γ T o st' some=some U:=by
  intro y H I;rw[CY (λq hq=>u q (.inl (H q hq))) (λq hq=>hh q (I q hq))];exact y
 unfold nu;cases hg:o.guard with
 |none =>
  rw[hg]at h;exact r h.1 h.2.1 h.2.2
 |some jw =>
  obtain⟨j,a1⟩:=jw;rw[hg]at h;obtain⟨s,y,H,I⟩:=h;have a0:=u s (.inl H);refine⟨s,y,?_⟩;rw[a0];rcases I with ⟨b,J,M,O⟩|⟨J,M,O⟩
  ·refine .inl ⟨b,J,M,?_⟩;rcases O with ⟨X,Y,Z,z⟩|⟨X,Y,Z⟩
   ·exact .inl ⟨X,r Y Z z⟩
   ·exact .inr ⟨X,wI Y (λd hd=>u d (.inr (Z d hd)))⟩
  ·exact .inr ⟨J,wI M (λd hd=>u d (.inr (O d hd)))⟩
theorem xX (hV:aA V)(hT:TOk P T)(hΓ:∀ c∈Γ,bI P c){ops:Array Oper}{i:Nat}(hi:ops[i]?=some o)(M:bU V o)(z:∀ j u,o.guard=some (j,u)->∀ s,(ops[j]?).bind (·.dst)=some s->s<V.nt)
  {U:Upd} (h:nu Γ T ops o st U) {a:Act} {w:World} (H:Rel P V st a w) {K:Act->World->Prop} {Q:Exit->Act->World->Prop} (hK:∀ a' w',Rel P V (ac U st) a' w'->K a' w'):wpOp P ops Q i K a w:=by
 obtain⟨W,H⟩:=H;unfold wpOp;simp only[hi];have Z:act Γ T o st some=some U->o.wp P a w K Q:=by
  intro X;obtain⟨U',h2,Y⟩:=CX hV hT hΓ M X;cases h2;exact Y W a w H K Q hK
 have y:U=fe st o->K (a.put o.dst undef) w:=by
  intro e;refine hK _ _ ?_;subst e;unfold fe;cases hd:o.dst with
  |none=>exact⟨W,H⟩
  |some d=>exact H.putLs hV d (M d hd).1 (M d hd).2 _ .und [] undef [] (GQ _) ⟨rfl,rfl⟩ trivial
 unfold nu at h;cases J:o.guard with
 |none =>
  rw[J]at h;have O:Region.wanted o (yielded ops a.tmps)=true:=by simp[Region.wanted,J]
  rw[if_pos O];exact .inl (Z h)
 |some jw =>
  obtain⟨j,u⟩:=jw;rw[J]at h;obtain⟨s,X,h2⟩:=h;have a1:=z j u J s X;have a2:s<GH:=G3 a1 hV.nt;have r:=H.slots s a2;have a3:s<a.tmps.size:=by rw[H.nt];exact a1
  have I:a.tmps[s]?=some (a.tmps.getD s undef):=by
   rw[FW,FV a3];rfl
  rcases h2 with ⟨b,Y,h4,h5⟩|⟨Y,h5⟩
  ·have a0:=H.len s;rw[h4]at a0;rw[Y]at r;have r:W.cs s=[a.tmps.getD s undef]:=r;have hv:=H.leaf s 0 (.bool b) (a.tmps.getD s undef) (by rw[h4];rfl) (by rw[r];rfl);have hv:a.tmps.getD s undef=.bool b:=hv;have hy:yielded ops a.tmps j=some b:=by simp[yielded,X,I,hv]
   rcases h5 with ⟨rfl,h6⟩|⟨h6,h7⟩
   ·have O:Region.wanted o (yielded ops a.tmps)=true:=by simp[Region.wanted,J,hy]
    rw[if_pos O];exact .inl (Z h6)
   ·have O:Region.wanted o (yielded ops a.tmps)=false:=by
     simp only[Region.wanted,J,hy];cases b <;> cases u <;> simp at h6 <;> rfl
    rw[O];exact y h7
  ·rw[Y]at r;obtain⟨hv,_⟩:=r;have hy:yielded ops a.tmps j=none:=by
    unfold yielded;rw[X,GM,I,hv];rfl
   have O:Region.wanted o (yielded ops a.tmps)=false:=by simp[Region.wanted,J,hy]
   rw[O];exact y h5
def Run (Γ:List Ctr)(T:TypeId->TI)(all:Array Oper):St->List Oper->List Upd->List cV->St->Prop
 |st,[],[],[],st'=>st'=st
 |st,o::r,U::y,t::u,st'=>ko Γ T all o st U t/\Run Γ T all (ac U st) r y u st'
 |_,_,_,_,_=>False
theorem qm:∀ (H:List Oper) (st:St) (y:List cV) (z:St->List cV->Option R) (r:R),rA Γ T all H st y z=some r ->
  ∃ I u st',Run Γ T all st H I u st'/\z st' (y++u)=some r
 |[],st,y,z,r,h=>⟨[],[],st,rfl,by simpa[rA]using h⟩
 |o::H,st,y,z,r,h=>by
  simp only[rA]at h;obtain⟨U,t,M,O⟩:=Cd h;obtain⟨I,u,st',X,J⟩:=qm H (ac U st) (y++[t]) z r O;exact⟨U::I,t::u,st',⟨M,X⟩,by rw[GD]at J;exact J⟩
theorem ko.res {U:Upd}{t:cV}(h:ko Γ T all o st U t):nu Γ T all o st U:=h.frame (λ_ _=>rfl) (λ_ _=>rfl)
theorem wJ (Y:aA V)(X:TOk P T)(hΓ:∀ c∈Γ,bI P c){ops:Array Oper}(u:∀ (i:Nat) (o:Oper),ops[i]?=some o->bU V o)
  (r:∀ (i:Nat) (o:Oper),ops[i]?=some o->∀ j z,o.guard=some (j,z)->∀ s,(ops[j]?).bind (·.dst)=some s->s<V.nt) {Q:Exit->Act->World->Prop} :
  ∀ (y:List Oper) (k:Nat) (st:St) (us:List Upd) (O:List cV) (st':St),ops.toList.drop k=y->Run Γ T ops st y us O st'->(∀ a w,Rel P V st' a w->Q .normal a w) ->
   ∀ a w,Rel P V st a w->wpOps P ops Q (List.range' k y.length) a w
 |[],k,st,[],[],st',_,h,H,a,w,J=>by
  have h:st'=st:=h;subst h;exact H a w J
 |o::y,k,st,U::us,t::O,st',Z,h,H,a,w,J=>by
  obtain⟨h1,h2⟩:=h;have I:ops[k]?=some o:=by
   have:(ops.toList.drop k)[0]?=some o:=by rw[Z];rfl
   rw[List.getElem?_drop]at this;simpa using this
  rw[GN,List.range'_succ,wpOps_cons];refine xX Y X hΓ I (u k o I) (r k o I) h1.res J (λa' w' M=>?_);exact wJ Y X hΓ u r y (k+1) (ac U st) us O st' (by rw[<- Gr,Z];rfl) h2 H a' w' M
end
section
variable {P:Program} {V:Env} {Γ:List Ctr} {T:TypeId->TI} {st st':St} {o:Oper} {R:Type} {all:Array Oper}
def dv (D:Nat->Bool):List Upd->St->St
 |[],st=>st
 |U::r,st=>dv (λj=>D (j+1)) r (bif D 0 then ac U st else st)
theorem jY {q:Nat}:∀ {U:Upd} (s u:St),q∈U.map (·.1)->ac U s q=ac U u q
 |[],_,_,h=>by simp at h
 |(r,c)::U,s,u,h=>by
  simp only[ac];cases y:FS q r with
  |true=>rfl
  |false =>
   simp only[cond_false];refine jY s u ?_;simp only[F7,FX]at h;rcases h with rfl|h
   ·simp at y
   ·exact h
theorem fb {q:Nat}:∀ {U:Upd} (s:St),q∉U.map (·.1)->ac U s q=s q
 |[],_,_=>rfl
 |(r,c)::U,s,h=>by
  simp only[F7,FX,not_or]at h;have u:FS q r=false:=by
   cases u:FS q r with
   |false=>rfl
   |true=>exact absurd (FQ u) h.1
  simp only[ac,u,cond_false];exact fb s h.2
theorem zz {U r:Upd}(h:∀ q,q∈U.map (·.1)->q∉r.map (·.1))(s:St):ac r (ac U s)=ac U (ac r s):=by
 funext q;by_cases u:q∈U.map (·.1)
 ·rw[fb _ (h q u)];exact jY _ _ u
 ·rw[fb (U:=U) _ u];by_cases y:q∈r.map (·.1)
  ·exact jY _ _ y
  ·rw[fb _ y,fb _ y,fb _ u]
theorem nv:∀ {us:List Upd} {D D':Nat->Bool} {s:St},(∀ j,j<us.length->D j=D' j)->dv D us s=dv D' us s
 |[],_,_,_,_=>rfl
 |U::us,D,D',s,h=>by
  simp only[dv];rw[h 0 (by simp)];exact nv (λj r=>h (j+1) (by simpa using r))
theorem oM:∀ {us:List Upd} {D:Nat->Bool} {s:St},(∀ j,D j=false)->dv D us s=s
 |[],_,_,_=>rfl
 |U::us,D,s,h=>by
  simp only[dv,h 0,cond_false];exact oM (λj=>h (j+1))
theorem nz {q:Nat}:∀ {us:List Upd} {D D':Nat->Bool} {s r:St},s q=r q->(∀ (j:Nat) (U:Upd),us[j]?=some U->q∈U.map (·.1)->D j=D' j)->dv D us s q=dv D' us r q
 |[],_,_,_,_,h,_=>h
 |U::us,D,D',s,r,h,H=>by
  simp only[dv];refine nz ?_ (λj y J M=>H (j+1) y (by simpa using J) M);by_cases u:q∈U.map (·.1)
  ·rw[H 0 U rfl u];cases D' 0 with
   |true=>exact jY _ _ u
   |false=>exact h
  ·have z:∀ b:Bool,(bif b then ac U s else s) q=s q:=by intro b;cases b <;> simp[fb _ u]
   have I:∀ b:Bool,(bif b then ac U r else r) q=r q:=by intro b;cases b <;> simp[fb _ u]
   rw[z,I,h]
theorem oN {U:Upd}:∀ {us:List Upd} {D:Nat->Bool} {s:St},(∀ (j:Nat) (u:Upd),us[j]?=some u->D j=true->∀ q,q∈U.map (·.1)->q∉u.map (·.1))->dv D us (ac U s)=ac U (dv D us s)
 |[],_,_,_=>rfl
 |u::us,D,s,h=>by
  simp only[dv];cases H:D 0 with
  |true =>
   simp only[cond_true];rw[zz (h 0 u rfl H)];exact oN (λj r y z=>h (j+1) r (by simpa using y) z)
  |false =>
   simp only[cond_false];exact oN (λj r y z=>h (j+1) r (by simpa using y) z)
theorem pL {U:Upd}:∀ {us:List Upd} {i:Nat} {D D':Nat->Bool} {s:St},us[i]?=some U->D i=false->(∀ j,D' j=(D j||FS j i)) ->
  (∀ (j:Nat) (u:Upd),us[j]?=some u->i<j->D j=true->∀ q,q∈U.map (·.1)->q∉u.map (·.1))->dv D' us s=ac U (dv D us s)
 |[],i,_,_,_,h,_,_,_=>by simp at h
 |V::us,0,D,D',s,h,I,r,H=>by
  simp at h;subst h;simp only[dv];have y:D' 0=true:=by rw[r 0];simp
  rw[y,I];simp only[cond_true,cond_false];have e:dv (λj=>D' (j+1)) us (ac V s)=dv (λj=>D (j+1)) us (ac V s):=nv (λj _=>by rw[r (j+1)];simp[FS]);rw[e];exact oN (λj u z J=>H (j+1) u (by simpa using z) (by omega) J)
 |V::us,i+1,D,D',s,h,I,r,H=>by
  simp only[dv];have y:D' 0=D 0:=by rw[r 0];simp[FS]
  rw[y];exact pL (i:=i) (by simpa using h) I (λj=>by rw[r (j+1)];simp[FS]) (λj u z J M=>H (j+1) u (by simpa using z) (by omega) M)
theorem sb:∀ {r:List Oper} {us:List Upd} {y:List cV} {s H:St},Run Γ T all s r us y H->∀ (i:Nat) (o:Oper),r[i]?=some o ->
  ∃ U t,us[i]?=some U/\y[i]?=some t/\ko Γ T all o (dv (λj=>decide (j<i)) us s) U t
 |[],_,_,_,_,_,i,o,h=>by simp at h
 |z::r,[],_,_,_,h,_,_,_=>h.elim
 |z::r,_::_,[],_,_,h,_,_,_=>h.elim
 |z::r,U::us,t::y,s,H,h,0,o,u=>by
  simp at u;subst u;exact⟨U,t,rfl,rfl,by rw[oM (λj=>by simp)];exact h.1⟩
 |z::r,U::us,t::y,s,H,h,i+1,o,u=>by
  obtain⟨I,X,J,M,O⟩:=sb h.2 i o (by simpa using u);refine⟨I,X,by simpa using J,by simpa using M,?_⟩;simp only[dv];have e:(λj=>decide (j+1<i+1))=λj=>decide (j<i):=by funext j;simp
  rw[e];simpa using O
theorem wK:∀ {r:List Oper} {us:List Upd} {y:List cV} {s u:St},Run Γ T all s r us y u->us.length=r.length/\y.length=r.length/\u=dv (λ_=>true) us s
 |[],[],[],_,_,h=>⟨rfl,rfl,h⟩
 |[],_::_,_,_,_,h=>h.elim
 |[],[],_::_,_,_,h=>h.elim
 |_::_,[],_,_,_,h=>h.elim
 |_::_,_::_,[],_,_,h=>h.elim
 |o::r,U::us,t::y,s,u,h=>by
  obtain⟨z,H,I⟩:=wK h.2;exact⟨by simp[z],by simp[H],by simpa[dv]using I⟩
theorem sd {q:Nat}:∀ {os:List Oper} {us:List Upd} {O:List cV} {M s':St} {D:Nat->Bool} {F:Nat->Bool} {s sF:St} {B:Prop},Run Γ T all M os us O s'->(∀ (j:Nat) (t:cV),O[j]?=some t->F j=decide (q∈t.wr)) ->
  bR (s q)=bR (sF q)->(B->bR (sF q)=bR (M q)) ->
  (∀ (j:Nat) (t:cV) (U:Upd),O[j]?=some t->us[j]?=some U->D j=true->q∉t.wr->q∈U.map (·.1)->B/\∀ (k:Nat) (t':cV),k<j->O[k]?=some t'->q∈t'.wr->D k=true) ->
  bR (dv D us s q)=bR (dv (λj=>D j&&F j) us sF q)
 |[],[],[],_,_,_,_,_,_,_,_,_,z,_,_=>z
 |[],_::_,_,_,_,_,_,_,_,_,h,_,_,_,_=>h.elim
 |[],[],_::_,_,_,_,_,_,_,_,h,_,_,_,_=>h.elim
 |_::_,[],_,_,_,_,_,_,_,_,h,_,_,_,_=>h.elim
 |_::_,_::_,[],_,_,_,_,_,_,_,h,_,_,_,_=>h.elim
 |o::os,U::us,t::O,M,s',D,F,s,sF,B,h,hF,z,X,I=>by
  obtain⟨⟨⟨k1,k2,k3⟩,_⟩,J⟩:=h;have y:=hF 0 t rfl;simp only[dv];refine sd (F:=λj=>F (j+1)) (B:=B/\(q∈t.wr->D 0=true)) J (λj t' Y=>hF (j+1) t' (by simpa using Y)) ?_ ?_ ?_
  ·by_cases r:q∈U.map (·.1)
   ·by_cases u:q∈t.wr
    ·rw[y,decide_eq_true u,Gj];cases D 0 with
     |true=>simp only[cond_true];rw[jY s sF r]
     |false=>exact z
    ·rw[y,decide_eq_false u,Gc];simp only[cond_false];cases H:D 0 with
     |true =>
      simp only[cond_true];rw[jY s M r,k3 q r u];exact (X (I 0 t U rfl rfl H u r).1).symm
     |false=>exact z
   ·have e:∀ (b:Bool) (x:St),(bif b then ac U x else x) q=x q:=by intro b x;cases b <;> simp[fb _ r]
    rw[e,e];exact z
  ·rintro⟨hB,H⟩;by_cases r:q∈U.map (·.1)
   ·by_cases u:q∈t.wr
    ·rw[y,decide_eq_true u,Gj,H u];simp only[cond_true];rw[jY sF M r]
    ·rw[y,decide_eq_false u,Gc];simp only[cond_false];rw[k3 q r u];exact X hB
   ·have e:∀ (b:Bool) (x:St),(bif b then ac U x else x) q=x q:=by intro b x;cases b <;> simp[fb _ r]
    rw[e,fb _ r];exact X hB
  ·intro j t' U' Y hU H u r;obtain⟨g1,g2⟩:=I (j+1) t' U' (by simpa using Y) (by simpa using hU) H u r;exact⟨⟨g1,λa0=>g2 0 t (by omega) rfl a0⟩,λk t2 hk Z a1=>g2 (k+1) t2 (by omega) (by simpa using Z) a1⟩
theorem ta {f:Nat->Nat}{i:Nat}:∀ (l:List Edge) (s:Nat),(l.foldl (λs e=>bif Region.binds .any e then s ||| 2 ^ e.on ||| f e.on else s) s).testBit i=true ->
  s.testBit i=true\/∃ e∈l,Region.binds .any e=true/\(i=e.on\/(f e.on).testBit i=true)
 |[],s,h=>.inl h
 |e::l,s,h=>by
  simp only[HE]at h;rcases ta l _ h with h|⟨u,y,z⟩
  ·cases r:Region.binds .any e with
   |false=>rw[r]at h;exact .inl h
   |true =>
    rw[r]at h;simp only[cond_true,Nat.testBit_or,GY]at h;rcases h with (h|h)|h
    ·exact .inl h
    ·refine .inr ⟨e,FP ..,r,.inl ?_⟩;rw[Nat.testBit_two_pow]at h;exact (of_decide_eq_true h).symm
    ·exact .inr ⟨e,FP ..,r,.inr h⟩
  ·exact .inr ⟨u,FO _ y,z⟩
theorem u9:∀ (z:List Oper) (r:List Nat),(∀ j,j<r.length->(kp z r).getD j 0=r.getD j 0) /\
  ∀ (k:Nat) (o:Oper),z[k]?=some o->∃ u:List Nat,u.length=r.length+k/\(∀ j,j<u.length->u.getD j 0=(kp z r).getD j 0) /\
   (kp z r).getD (r.length+k) 0=o.after.toList.foldl (λs e=>bif Region.binds .any e then s ||| 2 ^ e.on ||| u.getD e.on 0 else s) 0
 |[],r=>⟨λ_ _=>rfl,λk o h=>by simp at h⟩
 |o::z,r=>by
  obtain⟨I,J⟩:=u9 z (r++[o.after.toList.foldl (λs e=>bif Region.binds .any e then s ||| 2 ^ e.on ||| r.getD e.on 0 else s) 0]);have y:∀ j,j<r.length->(kp (o::z) r).getD j 0=r.getD j 0:=by
   intro j H;simp only[kp];rw[I j (by simp;omega)];simp[FY,GA H]
  refine⟨y,λk Y h=>?_⟩;cases k with
  |zero =>
   simp at h;subst h;refine⟨r,rfl,λj H=>(y j H).symm,?_⟩;simp only[kp];rw[Nat.add_zero,I r.length (by simp)];simp[FY]
  |succ k =>
   obtain⟨u,M,O,X⟩:=J k Y (by simpa using h);refine⟨u,by simp at M;omega,λj H=>O j H,?_⟩;simp only[kp];have e:r.length+(k+1)=(r++[o.after.toList.foldl (λs e=>bif Region.binds .any e then s ||| 2 ^ e.on ||| r.getD e.on 0 else s) 0]).length+k:=by simp;omega
   rw[e];exact X
theorem kd {ops:Array Oper}{D:Nat->Prop}(z:∀ (j:Nat) (o:Oper),ops[j]?=some o->D j->∀ e∈o.after.toList,Region.binds .any e=true->D e.on) :
  ∀ (n j:Nat),j<n->∀ (o:Oper),ops[j]?=some o->(∀ e∈o.after.toList,Region.binds .any e=true->D e.on)->∀ i,((kp ops.toList []).getD j 0).testBit i=true->D i
 |0,_,h,_,_,_,_,_=>by omega
 |n+1,j,hj,o,Y,O,i,X=>by
  obtain⟨r,Z,h2,I⟩:=(u9 ops.toList []).2 j o (by simpa using Y);simp only[List.length_nil,GR]at Z I;rw[I]at X;rcases ta (f:=λk=>r.getD k 0) _ _ X with h|⟨e,J,M,y⟩
  ·simp at h
  ·rcases y with rfl|y
   ·exact O e J M
   ·have H:e.on<r.length:=by
     apply GB;intro hn;have:r.getD e.on 0=0:=by
      rw[FY,Gp (by omega)];rfl
     rw[this]at y;simp at y
    rw[h2 _ H]at y;have hD:=O e J M;have u:e.on<ops.size:=by
     have:=(Gd.1 Y).1;omega
    exact kd z n e.on (by omega) ops[e.on] (FV u) (z e.on _ (FV u) hD) i y
theorem gE {a b:List Nat}(h:mG a b=false){q:Nat}(r:q∈a):q∉b:=by
 intro u;unfold mG at h;rw[Gh]at h;have:=h q r;simp only[GX,not_exists,not_and]at this;exact this q u (by simp)
theorem l7 {r:List Nat}{z:List cV}(h:qz r z=true){i j:Nat}(u:i<j){x y:cV}(O:z[i]?=some x)(J:z[j]?=some y):(r.getD j 0).testBit i=true\/x.apart y=true:=by
 unfold qz at h;rw[F6]at h;have M:=(FT.1 J).1;have H:=h j (by simpa using M);rw[F6]at H;have I:=H i (by simpa using u);simp only[O,J,GY]at I;exact I
theorem ru {p p':Nat->Bool}{i:Nat}(I:p i=true)(r:p' i=false)(h:∀ j,j≠i->p' j=p j):∀ (l:List Nat),l.Nodup->i∈l->l.countP p'+1=l.countP p
 |[],_,u=>by simp at u
 |x::l,z,u=>by
  rw[GI]at z;by_cases H:x=i
  ·subst H;have e:l.countP p'=l.countP p:=by
    apply List.countP_congr;intro y J;rw[h y (λe=>z.1 (e ▸ J))]
   simp[I,r,e]
  ·have M:=ru I r h l z.2 ((FX.1 u).resolve_left (λe=>H e.symm));simp only[HA,h x H];omega
theorem CZ (hV:aA V)(hT:TOk P T)(hΓ:∀ c∈Γ,bI P c){ops:Array Oper}(d2:∀ (i:Nat) (o:Oper),ops[i]?=some o->bU V o)
  (b1:∀ (i:Nat) (o:Oper),ops[i]?=some o->∀ j cp,o.guard=some (j,cp)->∀ s,(ops[j]?).bind (·.dst)=some s->s<V.nt) {Q:Exit->Act->World->Prop}
  {us:List Upd} {ts:List cV} {s0 s1:St} (a3:Run Γ T ops s0 ops.toList us ts s1) (a5:oT ops=true) (bn:qz (kp ops.toList []) ts=true) (hQ:∀ a w,Rel P V s1 a w->Q .normal a w) :
  ∀ (a0:Nat) (r:Array Bool) (a:Act) (w:World),r.size=ops.size->(HG ops.size).countP (λi=>!r.getD i true)=a0 ->
   (∀ (j:Nat) (o:Oper),ops[j]?=some o->r.getD j false=true->∀ e∈o.after.toList,Region.binds .any e=true->r.getD e.on false=true) ->
   Rel P V (dv (λj=>r.getD j false) us s0) a w->wpAny P .any ops Q a0 r a w:=by
 obtain⟨e0,dd,c2⟩:=wK a3;have dc:ops.toList.length=ops.size:=Gw;have b4:∀ (r:Array Bool),r.size=ops.size->Region.ready .any ops r=[]->∀ i,i<ops.size->r.getD i false=true:=by
  intro r a2 hr i;induction i using HF with
  |ind i ih =>
   intro hi;cases hl:r.getD i false with
   |true=>rfl
   |false =>
    exfalso;have d1:r.getD i true=false:=by
     rw[FW,FV (by omega)]at hl ⊢;exact hl
    have ho:ops[i]?=some ops[i]:=FV hi;have b6:i∈Region.ready .any ops r:=by
     unfold Region.ready;rw[GS];refine⟨by simpa using hi,?_⟩;rw[d1,ho];simp only[HH,G0,F9,HB];rw[GU];intro e he;cases cu:Region.binds .any e with
     |false=>rfl
     |true =>
      simp only[Bool.not_true,Bool.false_or];have b2:e.on<i:=by
       unfold oT at a5;rw[F6]at a5;have:=a5 i (by simpa using hi);simp only[ho]at this;rw[F6]at this;have:=this e (by simpa using he);simpa[cu]using this
      exact ih e.on b2 (by omega)
    rw[hr]at b6;simp at b6
 have b5:∀ (r:Array Bool) (a:Act) (w:World),r.size=ops.size->Rel P V (dv (λj=>r.getD j false) us s0) a w->Region.ready .any ops r=[]->Q .normal a w:=by
  intro r a w a2 hr b3;refine hQ a w ?_;rw[c2];have:dv (λ_=>true) us s0=dv (λj=>r.getD j false) us s0:=nv (λj J=>(b4 r a2 b3 j (by omega)).symm);rw[this];exact hr
 intro a0;induction a0 with
 |zero =>
  intro r a w a2 O a8 hr;have b3:Region.ready .any ops r=[]:=by
   unfold Region.ready;rw[List.filter_eq_nil_iff];intro i hi hc;rw[Gx]at O;have:=O i hi;simp only[FL]at hc;exact this hc.1
  exact⟨b3,b5 r a w a2 hr b3⟩
 |succ a0 ih =>
  intro r a w a2 O a8 hr;refine⟨b5 r a w a2 hr,λi hi=>?_⟩;unfold Region.ready at hi;rw[GS]at hi;obtain⟨aw,ba⟩:=hi;have aw:i<ops.size:=by simpa using aw
  have ho:ops[i]?=some ops[i]:=FV aw;rw[ho]at ba;simp only[FL,GL,F9,HB]at ba;obtain⟨b0,a6⟩:=ba;rw[GU]at a6;have Y:r.getD i false=false:=by
   rw[FW,FV (by omega)]at b0 ⊢;exact b0
  have c0:∀ e∈(ops[i]).after.toList,Region.binds .any e=true->r.getD e.on false=true:=by
   intro e he hb;have:=a6 e (by simpa using he);simpa[hb]using this
  obtain⟨U,t,hU,ht,ad⟩:=sb a3 i ops[i] (by simp);have a9:∀ (j:Nat) (o:Oper),ops[j]?=some o->(λk=>r.getD k false=true) j->∀ e∈o.after.toList,Region.binds .any e=true->(λk=>r.getD k false=true) e.on:=a8;obtain⟨d5,_,_⟩:=ad.1;have X:∀ (j:Nat) (M:Upd),us[j]?=some M->∃ H,ts[j]?=some H/\(∀ q∈M.map (·.1),q∈H.wr\/q∈H.cw)/\∀ q∈H.wr,q∈M.map (·.1):=by
   intro j M J;have a4:j<ops.size:=by
    have:=(FT.1 J).1;omega
   obtain⟨U2,t2,h1,Z,h3⟩:=sb a3 j ops[j] (by simp[a4]);rw[J]at h1;cases h1;exact⟨t2,Z,h3.1.1,h3.1.2.1⟩
  have bx:∀ (j:Nat) (M:Upd),us[j]?=some M->j≠i->r.getD j false≠decide (j<i)->∃ H,ts[j]?=some H/\(∀ q∈M.map (·.1),q∈H.wr\/q∈H.cw)/\(H.apart t=true\/t.apart H=true):=by
   intro j M J ay u;obtain⟨H,h1,Z,_⟩:=X j M J;refine⟨H,h1,Z,?_⟩;rcases Nat.lt_or_gt_of_ne ay with b2|cy
   ·have hl:r.getD j false=false:=by
     cases hl:r.getD j false with
     |false=>rfl
     |true=>rw[hl]at u;simp[b2]at u
    rcases l7 bn b2 h1 ht with h3|h3
    ·have:=kd a9 (i+1) i (GQ _) ops[i] ho c0 j h3;rw[hl]at this;cases this
    ·exact .inl h3
   ·have hl:r.getD j false=true:=by
     cases hl:r.getD j false with
     |true=>rfl
     |false=>rw[hl]at u;simp at u;omega
    have a4:j<ops.size:=by
     have:=(FT.1 J).1;omega
    have az:ops[j]?=some ops[j]:=FV a4;rcases l7 bn cy ht h1 with h3|h3
    ·have:=kd a9 (j+1) j (GQ _) ops[j] az (a8 j _ az hl) i h3;rw[Y]at this;cases this
    ·exact .inr h3
  have a1:∀ (x y:cV),x.apart y=true->(∀ q,q∈x.wr\/q∈x.cw->(q∉y.wr/\q∉y.cw)/\q∉y.rd)/\(∀ q,q∈y.wr\/q∈y.cw->(q∉x.wr/\q∉x.cw)/\q∉x.rd)/\(∀ q∈x.wr,q∉y.hd)/\∀ q∈y.wr,q∉x.hd:=by
   intro x y h;unfold cV.apart at h;simp only[FL,GL]at h;obtain⟨⟨⟨⟨h1,Z⟩,h3⟩,h4⟩,h5⟩:=h;refine⟨λq I=>?_,λq I=>?_,λq I=>gE h4 I,λq I hx=>gE h5 hx I⟩
   ·have I:=FK.2 I;have:=gE h1 I;simp only[FK,not_or]at this;exact⟨this,gE Z I⟩
   ·have I:=FK.2 I;have:q∉x.wr++x.cw:=λhx=>gE h1 hx I
    simp only[FK,not_or]at this;exact⟨this,λhx=>gE h3 hx I⟩
  have b9:∀ (j:Nat) (M:Upd),us[j]?=some M->j≠i->r.getD j false≠decide (j<i)->∀ q∈M.map (·.1),(q∉t.wr/\q∉t.cw)/\q∉t.rd:=by
   intro j M J ay u q I;obtain⟨H,_,h1,Z⟩:=bx j M J ay u;rcases Z with Z|Z
   ·exact (a1 _ _ Z).1 q (h1 q I)
   ·exact (a1 _ _ Z).2.1 q (h1 q I)
  have bl:∀ (j:Nat) (H:cV),ts[j]?=some H->j≠i->r.getD j false≠decide (j<i)->∀ q∈H.wr,q∉t.hd:=by
   intro j H J ay u q I;have a4:j<us.length:=by
    have:=(FT.1 J).1;omega
   obtain⟨t2,h0,_,Z⟩:=bx j us[j] (F0 a4) ay u;rw[J]at h0;cases h0;rcases Z with Z|Z
   ·exact (a1 _ _ Z).2.2.1 q I
   ·exact (a1 _ _ Z).2.2.2 q I
  have c6:nu Γ T ops ops[i] (dv (λj=>r.getD j false) us s0) U:=by
   refine ad.frame (λq I=>?_) (λq I=>?_)
   ·refine nz rfl λj M J c4=>?_
    by_cases z:j=i
    ·subst z;rw[Y];simp
    ·apply GB;intro u;have:=b9 j M J z u q c4;rcases I with I|I
     ·exact this.2 I
     ·exact this.1.1 I
   ·have bo:∀ (j:Nat) (H:cV),ts[j]?=some H->(λj=>match ts[j]? with|some H=>decide (q∈H.wr)|none=>false) j=decide (q∈H.wr):=λj H h=>by simp only[h]
    have e1:=sd (q:=q) (D:=λj=>r.getD j false) (F:=λj=>match ts[j]? with|some H=>decide (q∈H.wr)|none=>false) (s:=s0) (sF:=s0) (B:=True) a3 bo rfl (λ_=>rfl) (λj H M J hU hD hw c5=>by
     refine⟨trivial,λk t2 hk cb cc=>?_⟩;obtain⟨t3,h3,h4,_⟩:=X j M hU;rw[J]at h3;cases h3;have cx:=(h4 q c5).resolve_left hw;have a4:j<ops.size:=by
      have:=(FT.1 hU).1;omega
     have az:ops[j]?=some ops[j]:=FV a4;rcases l7 bn hk cb J with h5|h5
     ·exact kd a9 (j+1) j (GQ _) ops[j] az (a8 j _ az hD) k h5
     ·exact absurd cx ((a1 _ _ h5).1 q (.inl cc)).1.2)
    have e2:=sd (q:=q) (D:=λj=>decide (j<i)) (F:=λj=>match ts[j]? with|some H=>decide (q∈H.wr)|none=>false) (s:=s0) (sF:=s0) (B:=True) a3 bo rfl (λ_=>rfl) (λj H M J hU hD hw c5=>by
     refine⟨trivial,λk t2 hk cb cc=>?_⟩;have:=of_decide_eq_true hD;exact decide_eq_true (by omega))
    rw[e1,e2];congr 1;refine nz rfl λj M J c4=>?_
    obtain⟨H,h1,Z,_⟩:=X j M J;simp only[h1];by_cases hw:q∈H.wr
    ·rw[decide_eq_true hw,Gj,Gj];by_cases z:j=i
     ·subst z;rw[Y];simp
     ·apply GB;intro u;exact bl j H h1 z u q hw I
    ·rw[decide_eq_false hw,Gc,Gc]
  refine xX hV hT hΓ ho (d2 i _ ho) (b1 i _ ho) c6 hr λa' w' d4=>?_
  have a7:∀ (b:Bool) (j:Nat),(r.setIfInBounds i true).getD j b=if j=i then true else r.getD j b:=by
   intro b j;simp only[FW,Array.getElem?_setIfInBounds];by_cases z:j=i
   ·subst z;simp[a2,aw]
   ·rw[if_neg (λe=>z e.symm),if_neg z]
  refine ih _ a' w' (by simpa using a2) ?_ ?_ ?_
  ·have:=ru (p:=λj=>!r.getD j true) (p':=λj=>!(r.setIfInBounds i true).getD j true) (i:=i) (by simp[b0]) (by simp[a7]) (λj J=>by simp[a7,J]) (HG ops.size) List.nodup_range (by simpa using aw);omega
  ·intro j o' J bb e he hb;rw[a7]at bb ⊢;by_cases c1:e.on=i
   ·rw[if_pos c1]
   ·rw[if_neg c1];by_cases z:j=i
    ·subst z;rw[ho]at J;cases J;exact c0 e he hb
    ·rw[if_neg z]at bb;exact a8 j o' J bb e he hb
  ·have c3:=pL (U:=U) (us:=us) (i:=i) (D:=λj=>r.getD j false) (D':=λj=>(r.setIfInBounds i true).getD j false) (s:=s0) hU Y (λj=>by
     simp only[a7];by_cases z:j=i
     ·subst z;simp
     ·have:FS j i=false:=by
       cases hb:FS j i with
       |false=>rfl
       |true=>exact absurd (FQ hb) z
      simp[z,this])
    (λj M J d6 hD q I d3=>by
     have:=b9 j M J (by omega) (by rw[hD];simp;omega) q d3;exact (d5 q I).elim this.1.1 this.1.2)
   rw[c3];exact d4
theorem C0 (Z:aA V)(hT:TOk P T)(hΓ:∀ c∈Γ,bI P c)(M:P.follows .mixedOrders=true){id:Nat}{ops:Array Oper}{y:Bool}(O:∀ (i:Nat) (o:Oper),ops[i]?=some o->bU V o)
  (u:∀ (i:Nat) (o:Oper),ops[i]?=some o->∀ j X,o.guard=some (j,X)->∀ s,(ops[j]?).bind (·.dst)=some s->s<V.nt) {Q:Exit->Act->World->Prop} {κ:St->Option R} {r:R}
  (h:regK Γ T ops y st κ=some r) (hκ:∀ H,κ H=some r->∀ a w,Rel P V H a w->Q .normal a w) {a:Act} {w:World} (Y:Rel P V st a w):(Code.region id ops y).wp P Q a w:=by
 unfold regK at h;cases y with
 |true =>
  simp only[cond_true]at h;obtain⟨us,ts,H,z,I⟩:=qm _ _ _ _ _ h;simp only[GF]at I;cases J:oT ops&&qz (kp ops.toList []) ts with
  |false=>simp[J]at I
  |true =>
   simp only[J,cond_true]at I;simp only[FL]at J;refine wp_region_any M ?_;have hD:∀ j,(GJ ops.size false).getD j false=false:=by
    intro j;simp only[FW,Gk];split <;> rfl
   refine CZ Z hT hΓ O u z J.1 J.2 (hκ H I) ops.size (GJ ops.size false) a _ (by simp) ?_ ?_ ?_
   ·rw[List.countP_eq_length.2]
    ·simp
    ·intro i hi;have hi:i<ops.size:=by simpa using hi
     simp[FW,Gk,hi]
   ·intro j o' _ hl;rw[hD]at hl;cases hl
   ·rw[oM (λj=>hD j)];obtain⟨W,Y⟩:=Y;exact⟨W,Y.world Z (w':={ w with drawn:=w.drawn+1 }) (Gs _) rfl rfl rfl (λ_ _=>rfl)⟩
 |false =>
  simp only[cond_false]at h;obtain⟨us,ts,H,z,I⟩:=qm _ _ _ _ _ h;refine wp_region ?_;have:=wJ Z hT hΓ O u ops.toList 0 st us ts H (by simp) z (hκ H I) a w Y;rw[Gw,<- List.range_eq_range']at this;exact this
end
section
variable {P:Program} {V:Env} {Γ:List Ctr} {T:TypeId->TI} {st st':St} {o:Oper} {R:Type} {all:Array Oper}
theorem lG (live:List Nat):∀ (cs:List Coe) (ls:List Leaf),(dl st live cs ls).length=ls.length
 |[],[]=>rfl
 |_::_,[]=>rfl
 |[],_::ls=>by simp[dl,lG live [] ls]
 |_::cs,_::ls=>by simp[dl,lG live cs ls]
theorem qn (live:List Nat):∀ (cs:List Coe) (ls:List Leaf) (j:Nat) (l:Leaf),(dl st live cs ls)[j]?=some l->∃ r,ls[j]?=some r/\(l=.dead\/∃ c,l=bC st live c r)
 |[],[],j,l,h=>by simp[dl]at h
 |_::_,[],j,l,h=>by simp[dl]at h
 |[],r::ls,0,l,h=>by simp[dl]at h;exact⟨r,rfl,.inl h.symm⟩
 |c::cs,r::ls,0,l,h=>by simp[dl]at h;exact⟨r,rfl,.inr ⟨c,h.symm⟩⟩
 |[],r::ls,j+1,l,h=>by
  simp only[dl,Gl]at h;obtain⟨z,u,y⟩:=qn live [] ls j l h;exact⟨z,by simpa using u,y⟩
 |c::cs,r::ls,j+1,l,h=>by
  simp only[dl,Gl]at h;obtain⟨z,u,y⟩:=qn live cs ls j l h;exact⟨z,by simpa using u,y⟩
theorem Ce (live:List (Nat×List Coe))(q:Nat):mH live st q=b7.none/\q∉live.map (·.1)\/∃ y,mH live st q=⟨0,(st q).sh,dl st (live.map (·.1)) y (st q).ls⟩/\q∈live.map (·.1):=by
 have M:∀ (u:List Nat) (l:List (Nat×List Coe)),(av (l.map λr=>(r.1,⟨0,(st r.1).sh,dl st u r.2 (st r.1).ls⟩)) q=b7.none/\q∉l.map (·.1)) \/
   ∃ y,av (l.map λr=>(r.1,⟨0,(st r.1).sh,dl st u r.2 (st r.1).ls⟩)) q=⟨0,(st q).sh,dl st u y (st q).ls⟩/\q∈l.map (·.1):=by
  intro u l;induction l with
  |nil=>exact .inl ⟨rfl,by simp⟩
  |cons x l O =>
   obtain⟨r,y⟩:=x;by_cases h:q=r
   ·subst h;exact .inr ⟨y,by simp[av,ac],by simp⟩
   ·have z:FS q r=false:=by
     cases z:FS q r with
     |false=>rfl
     |true=>exact absurd (FQ z) h
    rcases O with ⟨I,J⟩|⟨H,I,J⟩
    ·refine .inl ⟨?_,by simpa[h]using J⟩;rw[<- I];simp[av,ac,z]
    ·refine .inr ⟨H,?_,by simp only[F7,FX];exact .inr J⟩;rw[<- I];simp[av,ac,z]
 exact M (live.map (·.1)) live
theorem zA {keys:List Nat}{c:Coe}{r:Leaf}(h:ao (bC st keys c r)):ao r\/r=.nil:=by
 cases r with
 |own p u E e y=>exact .inl trivial
 |nil=>exact .inr rfl
 |_ =>
  exfalso;revert h;cases c <;> simp only[bC] <;> first
   |exact id
   |(cases (!_||_:Bool) <;> first | exact id | (split <;> exact id))
   |(cases (_&&_:Bool) <;> exact id)
   |(cases (List.any _ _:Bool) <;> exact id)
   |(cases (List.all _ _:Bool) <;> exact id)
theorem jt.nw {W W':Wit}{w:World}{c:Bool×Bool×(a:Ty)×a.den}{u:Value}(r:∀ k,W.nw k->W'.nw k)(h:jt V W w c u):jt V W' w c u:=by
 have z:∀ (p:Bool) k,gd V W p k->gd V W' p k:=λp k hk=>hk.imp (r k) id
 unfold jt at h ⊢;split at h
 ·rename_i I;rw[if_pos I];obtain⟨b,ob,g,Z,H,Y,J,y,O,X,M⟩:=h;exact⟨b,ob,g,Z,H,Y,J.imp (r b) id,y,O.imp (r g) id,Rd.mono (z _) X,M⟩
 ·rename_i I;rw[if_neg I];obtain⟨g,Z,H,Y,O,X,M⟩:=h;exact⟨g,Z,H,Y,O.imp (r g) id,Rd.mono (z _) X,M⟩
theorem xY {W W':Wit}{w:World}{keys:List Nat}{bs bs':List Nat}{c:Coe}{M:Leaf}{v:Value}(h:aM P V W st w bs M v)
  (J:∀ k,W.nw k->W'.nw k) (hβ:W'.β=W.β) (a5:∀ q,keys.any (FS q)=true->W'.cs q=W.cs q) (I:∀ b,keys.any (FS b)=true->(st b).sh=.agg->(st' b).sh=.agg)
  (a3:ao M->bs'=bs) (a2:M=.nil->bs'=[]) (a1:ao M->¬ ao (bC st keys c M)->(∃ p E e,c=.ro p E e)->∀ k∈bs,W'.nw k) :
  aM P V W' st' w bs' (bC st keys c M) v:=by
 have z:∀ (p q:Bool),(!q||p)=true->∀ k,gd V W q k->gd V W' p k:=by
  intro p q a7 k H;rcases H with H|⟨X,H⟩
  ·exact .inl (J k H)
  ·refine .inr ⟨?_,H⟩;subst X;simpa using a7
 cases c with
 |kill=>simp only[bC];trivial
 |keep =>
  cases M with
  |int k n=>exact h
  |bool b=>exact h
  |str s=>exact h
  |nil=>exact h
  |hdr n=>exact h
  |fn As B φ=>exact h
  |clr f O =>
   obtain⟨us,X,h2,h3⟩:=h;exact⟨us,X,h2,λi c u g1 g2=>(h3 i c u g1 g2).nw J⟩
  |al r j n =>
   simp only[bC];cases y:keys.any (FS r)&&FS (st r).ver n with
   |false=>trivial
   |true =>
    simp only[FL]at y;exact⟨HC _,λ_=>by rw[a5 r y.1];exact h.2 (FQ y.2)⟩
  |bp b off =>
   simp only[bC];cases y:keys.any (FS b) with
   |false=>trivial
   |true =>
    obtain⟨X,h2,h3⟩:=h;exact⟨X,I b y h2,by rw[hβ];exact h3⟩
  |clo f O =>
   simp only[bC];cases y:O.all (λb=>keys.any (FS b)) with
   |false=>trivial
   |true =>
    obtain⟨X,h2⟩:=h;rw[F6]at y;exact⟨by rw[hβ];exact X,λb Y=>⟨(h2 b Y).1,I b (y b Y) (h2 b Y).2⟩⟩
  |_=>simp only[bC];trivial
 |own p E e =>
  cases M with
  |nil =>
   have hv:v=.slice none 0 0:=h;subst hv;rw[a2 rfl];exact OwH.nil w _ E e
  |own q hh E' e' xs =>
   cases hh with
   |some x=>simp only[bC];trivial
   |none =>
    simp only[bC];cases y:(!q||p) with
    |false=>trivial
    |true =>
     rw[a3 trivial];exact OwH.carry h (z p q y) (λ_ _=>rfl) (λ_ _=>rfl)
  |_=>simp only[bC];trivial
 |ro p E e =>
  cases M with
  |nil =>
   have hv:v=.slice none 0 0:=h;subst hv;exact Rd.nil w _ false E e
  |ro q E' e' xs =>
   simp only[bC];cases y:(!q||p) with
   |false=>trivial
   |true =>
    simp only[cond_true];split
    ·rename_i ys Z;exact Rd.castSh (m:=false) (m':=false) (E:=E) Z (Rd.mono (z p q y) h)
    ·trivial
  |own q hh E' e' xs =>
   cases hh with
   |some x=>simp only[bC];trivial
   |none =>
    have a6:=a1 trivial (by
     simp only[bC];cases (!q||p) with
     |false=>exact id
     |true=>simp only[cond_true];split <;> exact id) ⟨p,E,e,rfl⟩
    simp only[bC];cases y:(!q||p) with
    |false=>trivial
    |true =>
     simp only[cond_true];split
     ·rename_i ys Z;refine Rd.castSh (m:=false) (m':=false) (E:=E) (E':=E') Z (Rd.mono (λk H=>?_) (OwH.rd (m:=false) (E':=E') h));rcases H with H|H
      ·exact z p q y k H
      ·exact .inl (a6 k H)
     ·trivial
  |_=>simp only[bC];trivial
 |rp p =>
  cases M with
  |rpp q a x =>
   simp only[bC];cases y:(!q||p) with
   |false=>trivial
   |true =>
    obtain⟨b,ob,g,o',c,hv,a4,a0,hg,hr,Z⟩:=h;exact⟨b,ob,g,o',c,hv,a4.imp (J b) id,a0,hg.imp (J g) id,Rd.mono (z p q y) hr,Z⟩
  |rp q a x off =>
   simp only[bC];cases y:(!q||p) with
   |false=>trivial
   |true =>
    obtain⟨g,o',c,hv,hg,hr,Z⟩:=h;exact⟨g,o',c,hv,hg.imp (J g) id,Rd.mono (z p q y) hr,Z⟩
  |_=>simp only[bC];trivial
open Classical in
theorem wL (_hV:aA V){a:Act}{w:World}(h:Rel P V st a w)(live:List (Nat×List Coe))(a9:∀ x∈V.fixb,x.1∈live.map (·.1)):Rel P V (mH live st) a w:=by
 obtain⟨W,h⟩:=h;have J:=Ce (st:=st) live;have Z:∀ b,Go.Proofs.YtmibehbhnkeaiaaGreatEv.live (mH live st) b->Go.Proofs.YtmibehbhnkeaiaaGreatEv.live st b:=by
  rintro b ⟨z,H⟩;rcases J b with ⟨e,_⟩|⟨cs,e,_⟩
  ·rw[e]at H;cases H
  ·rw[e]at H;exact⟨z,H⟩
 have a1:∀ (q j:Nat) (l:Leaf),(mH live st q).ls[j]?=some l->q∈live.map (·.1)/\∃ r,(st q).ls[j]?=some r/\(l=.dead\/∃ c,l=bC st (live.map (·.1)) c r):=by
  intro q j l Y;rcases J q with ⟨e,_⟩|⟨cs,e,I⟩
  ·rw[e]at Y;simp[b7.none]at Y
  ·rw[e]at Y;exact⟨I,qn _ _ _ _ _ Y⟩
 have b0:∀ (q j:Nat) (l:Leaf),(mH live st q).ls[j]?=some l->ao l->∃ r,(st q).ls[j]?=some r/\(ao r\/r=.nil):=by
  intro q j l Y ho;obtain⟨_,r,z,H⟩:=a1 q j l Y;rcases H with rfl|⟨c,rfl⟩
  ·exact ho.elim
  ·exact⟨r,z,zA ho⟩
 have a0:∀ b,(live.map (·.1)).any (FS b)=true->b∈live.map (·.1):=λb O=>by
  rw[GX]at O;obtain⟨x,hx,he⟩:=O;rw[FQ he];exact hx
 let y:Nat->Nat->List Nat:=λq j=>if (∃ r,(st q).ls[j]?=some r/\ao r) then W.bs q j else []
 let a2:Nat->Prop:=λk=>W.nw k\/∃ q j r l,(st q).ls[j]?=some r/\ao r/\(mH live st q).ls[j]?=some l/\¬ ao l/\k∈W.bs q j
 have X:∀ (q j k:Nat),k∈y q j->(∃ r,(st q).ls[j]?=some r/\ao r)/\k∈W.bs q j:=by
  intro q j k M;by_cases hc:∃ r,(st q).ls[j]?=some r/\ao r
  ·simp only[y,if_pos hc]at M;exact⟨hc,M⟩
  ·simp only[y,if_neg hc]at M;simp at M
 refine⟨{ β:=W.β,cs:=λq=>if q∈live.map (·.1) then W.cs q else [],bs:=y,nw:=a2 },?_⟩
 exact {
  nt:=h.nt,df:=h.df
  slots:=λt ht=>by
   rcases J t with ⟨e,I⟩|⟨cs,e,I⟩
   ·rw[e];simp[I,b7.none,eK]
   ·rw[e];simp only[I,if_true];exact h.slots t ht
  boxes:=λb O=>by
   rcases J b with ⟨e,I⟩|⟨cs,e,I⟩
   ·rw[e];exact .inl ⟨rfl,rfl⟩
   ·rw[e];rcases h.boxes b O with ⟨z,H⟩|⟨z,E,H⟩
    ·exact .inl ⟨z,by rw[H];exact List.eq_nil_of_length_eq_zero (by rw[lG];rfl)⟩
    ·exact .inr ⟨z,E,by simp only[I,if_true];exact H⟩
  len:=λq=>by
   rcases J q with ⟨e,I⟩|⟨cs,e,I⟩
   ·rw[e];simp[I,b7.none]
   ·rw[e];simp only[I,if_true,lG];exact h.len q
  one:=λq u hu=>by
   by_cases I:q∈live.map (·.1)
   ·simp only[I,if_true]at hu;exact h.one q u hu
   ·simp only[I,if_false]at hu;simp at hu
  leaf:=λq j l v Y hv=>by
   obtain⟨I,r,z,H⟩:=a1 q j l Y;simp only[I,if_true]at hv;have aw:=h.leaf q j r v z hv;rcases H with rfl|⟨c,rfl⟩
   ·trivial
   ·refine xY (st:=st) (W:=W) (W':={ β:=W.β,cs:=λq=>if q∈live.map (·.1) then W.cs q else [],bs:=y,nw:=a2 }) (keys:=live.map (·.1)) aw (λk M=>Or.inl M) rfl (λq hq=>if_pos (a0 q hq)) ?_ ?_ ?_ ?_
    ·intro b O a6;have a8:=a0 b O;rcases J b with ⟨_,ay⟩|⟨cs,e,_⟩
     ·exact absurd a8 ay
     ·rw[e];exact a6
    ·intro ho;show y q j=_;simp only[y,if_pos (⟨r,z,ho⟩:∃ r,(st q).ls[j]?=some r/\ao r)]
    ·intro e;show y q j=_;have hc:¬ ∃ r,(st q).ls[j]?=some r/\ao r:=by
      rintro⟨l1,h3,h4⟩;rw[z,e]at h3;cases h3;exact h4.elim
     simp only[y,if_neg hc]
    ·intro ho hn _ k M;exact .inr ⟨q,j,r,_,z,ho,Y,hn,M⟩
  ownb:=λq j l Y ho k M=>by
   obtain⟨⟨r,z,H⟩,h3⟩:=X q j k M;obtain⟨q1,q2,q3⟩:=h.ownb q j r z H k h3;refine⟨?_,q2,λb O=>q3 b (Z b O)⟩;rintro (hn|⟨q',j',l1,l2,h4,h5,h6,h7,h8⟩)
   ·exact q1 hn
   ·obtain⟨rfl,rfl⟩:=h.sep q j r q' j' l1 z H h4 h5 k h3 h8;rw[Y]at h6;cases h6;exact h7 ho
  sep:=λq j l q' j' l' _ _ _ _ k M ad=>by
   obtain⟨⟨r,z,H⟩,h3⟩:=X q j k M;obtain⟨⟨az,a3,a4⟩,a5⟩:=X q' j' k ad;exact h.sep q j r q' j' az z H a3 a4 k h3 a5
  box:=λb O=>by
   obtain⟨q1,q2⟩:=h.box b (Z b O);refine⟨?_,q2⟩;rintro (hn|⟨q',j',l1,l2,h4,h5,h6,h7,h8⟩)
   ·exact q1 hn
   ·exact (h.ownb q' j' l1 h4 h5 _ h8).2.2 b (Z b O) rfl
  inj:=λb b' O a7=>h.inj b b' (Z b O) (Z b' a7)
  nwlt:=λk M=>by
   rcases M with hn|⟨q',j',l1,l2,h4,h5,h6,h7,h8⟩
   ·exact h.nwlt k hn
   ·exact⟨h.own_lt h4 h5 k h8,(h.ownb q' j' l1 h4 h5 k h8).2.1⟩
  os:=h.os,tape:=h.tape,output:=h.output,size:=h.size,keep:=h.keep
  fixb:=λx hx=>by
   obtain⟨⟨z,H⟩,h3⟩:=h.fixb x hx;refine⟨⟨z,?_⟩,h3⟩;rcases J x.1 with ⟨_,I⟩|⟨cs,e,_⟩
   ·exact absurd (a9 x hx) I
   ·rw[e];exact H
  fixt:=h.fixt }
def exOf:Ex->Exit
 |.normal=>.normal
 |.exit id=>.exit id
 |.ret=>.ret
theorem nA {nt:Nat}{fix:List Nat}(u:V.nt=nt)(r:∀ x∈V.fixt,x.1∈fix)(h:mf nt fix all o=true):bU V o:=by
 intro d H;simp only[mf,H,FL,GL,Gh]at h;obtain⟨⟨y,z⟩,_⟩:=h;refine⟨by rw[u];simpa[GT]using y,λx I e=>?_⟩;exact z _ (r x I) (by simp[e])
end
section
variable {P:Program} {V:Env} {Γ:List Ctr} {T:TypeId->TI} {R:Type}
open Classical in
theorem va {Q:Exit->Act->World->Prop}{a:Act}{w:World}{c:Code}(J:Nat->Act->World->Prop)(h0:∃ n,J n a w)(hz:∀ a w,¬ J 0 a w)
  (y:∀ n a w,J (n+1) a w->c.wp P (Exit.then (J n) Q) a w):(Code.loop c).wp P Q a w:=by
 have u:∀ (a:Act) (w:World) (n:Nat),J n a w->∃ m,J m a w/\m<=n/\∀ k,J k a w->m<=k:=by
  intro a w n;induction n using HF with
  |ind n ih =>
   intro z;by_cases h:∃ k,k<n/\J k a w
   ·obtain⟨k,O,hJ⟩:=h;obtain⟨m,r,I,M⟩:=ih k O hJ;exact⟨m,r,by omega,M⟩
   ·refine⟨n,z,Gs _,λk O=>?_⟩;apply GB;intro a0;exact h ⟨k,by omega,O⟩
 let H:Act->World->Nat:=λa w=>if h:∃ m,J m a w/\∀ k,J k a w->m<=k then h.choose else 0
 have hμ:∀ a w n,J n a w->J (H a w) a w/\H a w<=n:=by
  intro a w n z;obtain⟨m,r,_,M⟩:=u a w n z;have h:∃ m,J m a w/\∀ k,J k a w->m<=k:=⟨m,r,M⟩;have e:H a w=h.choose:=by simp only[H];rw[dif_pos h]
  rw[e];exact⟨h.choose_spec.1,h.choose_spec.2 n z⟩
 refine wp_loop (λa w=>∃ n,J n a w) H h0 λa w ⟨n,z⟩=>?_
 obtain⟨r,_⟩:=hμ a w n z;cases Z:H a w with
 |zero=>rw[Z]at r;exact absurd r (hz a w)
 |succ m =>
  rw[Z]at r;refine wp_mono (y m a w r) λe X w' Y=>?_
  cases e with
  |normal =>
   have I:J m X w':=Y;exact⟨⟨m,I⟩,Nat.lt_succ_of_le (hμ X w' m I).2⟩
  |_=>exact Y
theorem AM {st:St}{a:Act}{w:World}(u:Rel P V st a w){t:Nat}(y:t<GH){b:Bool}(z:(st t).sh=.one)(H:(st t).ls=[.bool b]):a.eval (.tmp t)=.bool b:=by
 obtain⟨W,u⟩:=u;have r:=u.slots t y;rw[z]at r;have r:W.cs t=[a.tmps.getD t undef]:=r;have I:=u.leaf t 0 (.bool b) (a.tmps.getD t undef) (by rw[H];rfl) (by rw[r];rfl);exact I
theorem tH (hV:aA V)(hT:TOk P T)(hΓ:∀ c∈Γ,bI P c)(a3:P.follows .mixedOrders=true){fx:List Nat}(a5:∀ x∈V.fixb,x.1∈fx){nt:Nat}{fix:List Nat}(a1:V.nt=nt)(a2:∀ x∈V.fixt,x.1∈fix)
  {L:List (Nat×List (Nat×List Coe))} {O:Nat}:∀ (c:Code),d7 nt fix c=true->dD L fx c=true->∀ (st:St) (I:Ex->St->Option R) (r:R) (Q:Exit->Act->World->Prop),evK Γ T L O c st I=some r ->
   (∀ ex J,I ex J=some r->∀ a w,Rel P V J a w->Q (exOf ex) a w)->∀ a w,Rel P V st a w->c.wp P Q a w:=by
 intro c;induction c with
 |skip=>exact λ_ _ st I r Q h z a w u=>wp_skip (z .normal st h a w u)
 |region id a4 a6 =>
  intro hc hlp st I r Q h z a w u;simp only[d7,F6]at hc;have a0:∀ (i:Nat) (o:Oper),a4[i]?=some o->mf nt fix a4 o=true:=λi o hi=>hc o (by simpa using Gq hi)
  refine C0 hV hT hΓ a3 (λi o hi=>nA a1 a2 (a0 i o hi)) (λi o hi j a7 hg s hs=>?_) h (λJ H a w u=>z .normal J H a w u) u;have:=a0 i o hi;simp only[mf,hg,hs,FL]at this;rw[a1];simpa[GT]using this.2
 |seq x y Y Z =>
  intro hc hlp st I r Q h z a w u;simp only[d7,FL]at hc;simp only[dD,FL]at hlp;simp only[evK]at h;refine wp_seq (Y hc.1 hlp.1 st _ r _ h (λex J H a w u=>?_) a w u);cases ex with
  |normal=>exact Z hc.2 hlp.2 J I r Q H z a w u
  |exit id=>exact z (.exit id) J H a w u
  |ret=>exact z .ret J H a w u
 |cond t x y Y Z =>
  intro hc hlp st I r Q h z a w u;simp only[d7,FL]at hc;simp only[dD,FL]at hlp;simp only[evK]at h;unfold AW at h;split at h
  ·rename_i t;split at h
   ·rename_i b H h2;have hv:=AM u (G3 (by have:=hc.1.1;simp only[yd,GT]at this;rw[a1];exact this) hV.nt) H h2;cases b with
    |true =>
     simp only[cond_true]at h;rw[ql H h2]at h;exact wp_cond_true hv (Y hc.1.2 hlp.1 st I r Q h z a w u)
    |false =>
     simp only[cond_false]at h;rw[ql H h2]at h;exact wp_cond_false hv (Z hc.2 hlp.2 st I r Q h z a w u)
   ·cases h
  ·rename_i b;cases b with
   |true=>exact wp_cond_true rfl (Y hc.1.2 hlp.1 st I r Q h z a w u)
   |false=>exact wp_cond_false rfl (Z hc.2 hlp.2 st I r Q h z a w u)
  ·cases h
 |block id c ih =>
  intro hc hlp st I r Q h z a w u;simp only[d7]at hc;simp only[dD]at hlp;simp only[evK]at h;refine wp_block (ih hc hlp st _ r _ h (λex J H a w u=>?_) a w u);cases ex with
  |normal=>exact z .normal J H a w u
  |exit M =>
   simp only[tL]at H;show if M=id then Q .normal a w else Q (.exit M) a w
   by_cases e:M=id
   ·rw[if_pos e];subst e;simp only[Nat.beq_refl,cond_true]at H;exact z .normal J H a w u
   ·rw[if_neg e];have hb:FS M id=false:=by
     cases hb:FS M id with
     |false=>rfl
     |true=>exact absurd (FQ hb) e
    rw[hb]at H;exact z (.exit M) J H a w u
  |ret=>exact z .ret J H a w u
 |loop c ih =>
  intro hc hlp st I r Q h z a w u;simp only[d7]at hc;simp only[dD,FL,F6]at hlp;simp only[evK]at h;have X:∀ x∈V.fixb,x.1∈(md L (fq c)).map (·.1):=λx hx=>by
   obtain⟨r,u,he⟩:=GX.1 (hlp.1 x.1 (a5 x hx));exact FU.2 ⟨r,u,FQ he⟩
  refine va (λn a w=>∃ st,aY (md L (fq c)) (evK Γ T L O c) n st I=some r/\Rel P V st a w) ⟨O,_,h,wL hV u _ X⟩ ?_ ?_
  ·rintro a w ⟨st,H,_⟩;cases H
  ·rintro n a w ⟨st,H,u⟩;simp only[aY]at H;refine ih hc hlp.2 st _ r _ H (λex J h2 a w u=>?_) a w u;cases ex with
   |normal=>exact⟨_,h2,wL hV u _ X⟩
   |exit id=>exact z (.exit id) J h2 a w u
   |ret=>exact z .ret J h2 a w u
 |exit id=>exact λ_ _ st I r Q h z a w u=>wp_exit (z (.exit id) st h a w u)
 |ret=>exact λ_ _ st I r Q h z a w u=>wp_ret (z .ret st h a w u)
 |_=>intro _ _ st I r Q h;simp[evK]at h
end
section
variable {P:Program} {Γ:List Ctr} {T:TypeId->TI} {R:Type} {w:World} {ro pr:Nat->Prop}
theorem jH {G:Nat->Prop}{p:Bool}:∀ {b:Ty} {h:Option Nat} {pos:Nat} {x:b.den} {cs:List Value} {bs:List Nat},Mx w G b h pos x cs bs->bs.Nodup ->
  ∃ a2:Nat->List Nat,
   (∀ (V:Env) (W:Wit) (st:St),(∀ k,G k->gd V W p k)->∀ (j:Nat) (l:Leaf) (u:Value),h≠some (pos+j)->(aq p b x)[j]?=some l->cs[j]?=some u->aM P V W st w (a2 j) l u) /\
   (∀ (j:Nat) (l:Leaf),h≠some (pos+j)->(aq p b x)[j]?=some l->ao l->∀ k∈a2 j,k∈bs) /\
   (∀ (j J:Nat) (l l':Leaf),h≠some (pos+j)->h≠some (pos+J)->(aq p b x)[j]?=some l->ao l->(aq p b x)[J]?=some l'->ao l'->∀ k,k∈a2 j->k∈a2 J->j=J)
 |.int k,_,_,x,cs,bs,H,_=>by
  obtain⟨rfl,rfl⟩:=H;exact⟨λ_=>[],λV W st _ j l u _ y X=>by cases j with|zero=>simp[aq]at y X;subst y;subst X;rfl|succ j=>simp[aq]at y,λj l _ y _ k r=>by simp at r,λj J l l' _ _ _ _ _ _ k r=>by simp at r⟩
 |.bool,_,_,x,cs,bs,H,_=>by
  obtain⟨rfl,rfl⟩:=H;exact⟨λ_=>[],λV W st _ j l u _ y X=>by cases j with|zero=>simp[aq]at y X;subst y;subst X;rfl|succ j=>simp[aq]at y,λj l _ y _ k r=>by simp at r,λj J l l' _ _ _ _ _ _ k r=>by simp at r⟩
 |.str,_,_,x,cs,bs,H,_=>by
  obtain⟨rfl,rfl⟩:=H;exact⟨λ_=>[],λV W st _ j l u _ y X=>by cases j with|zero=>simp[aq]at y X;subst y;subst X;rfl|succ j=>simp[aq]at y,λj l _ y _ k r=>by simp at r,λj J l l' _ _ _ _ _ _ k r=>by simp at r⟩
 |.unit,_,_,x,cs,bs,H,_=>by
  obtain⟨rfl,rfl⟩:=H;exact⟨λ_=>[],λV W st _ j l u _ y X=>by simp[aq]at y,λj l _ y _ k r=>by simp at r,λj J l l' _ _ _ _ _ _ k r=>by simp at r⟩
 |.hdr,_,_,x,cs,bs,H,_=>by
  obtain⟨⟨A,a7,rfl⟩,rfl⟩:=H;exact⟨λ_=>[],λV W st _ j l u _ y X=>by cases j with|zero=>simp[aq]at y X;subst y;subst X;exact⟨A,a7,rfl⟩|succ j=>simp[aq]at y,λj l _ y _ k r=>by simp at r,λj J l l' _ _ _ _ _ _ k r=>by simp at r⟩
 |.pair b c,h,pos,x,cs,bs,⟨c1,c2,b1,b2,e1,e2,y,X⟩,Z=>by
  subst e1;subst e2;rw[GO]at Z;obtain⟨d1,f2,f3,f4⟩:=jH y Z.1;obtain⟨d2,g2,g3,g4⟩:=jH X Z.2.1;have a9:=cR p b x.1;have a8:=y.len;have I:∀ (j:Nat) (l:Leaf),(aq p b x.1++aq p c x.2)[j]?=some l->(j<b.cells/\(aq p b x.1)[j]?=some l)\/(b.cells<=j/\(aq p c x.2)[j-b.cells]?=some l):=by
   intro j l z;by_cases O:j<b.cells
   ·rw[GA (by omega)]at z;exact .inl ⟨O,z⟩
   ·rw[F8 (by omega),a9]at z;exact .inr ⟨by omega,z⟩
  have a1:∀ j,b.cells<=j->h≠some (pos+j)->h≠some (pos+b.cells+(j-b.cells)):=λj z hh=>by rwa [show pos+b.cells+(j-b.cells)=pos+j by omega]
  refine⟨λj=>if j<b.cells then d1 j else d2 (j-b.cells),λV W st hG j l u hh z hu=>?_,λj l hh z ho k r=>?_,λj J l l' hh a3 z ho Y a4 k r M=>?_⟩
  ·rcases I j l z with ⟨O,z⟩|⟨a0,z⟩
   ·rw[GA (by omega)]at hu;simp only[if_pos O];exact f2 V W st hG j l u hh z hu
   ·rw[F8 (by omega),a8]at hu;simp only[if_neg (show ¬ j<b.cells by omega)];exact g2 V W st hG _ l u (a1 j a0 hh) z hu
  ·rcases I j l z with ⟨O,z⟩|⟨a0,z⟩
   ·simp only[if_pos O]at r;exact FM _ (f3 j l hh z ho k r)
   ·simp only[if_neg (show ¬ j<b.cells by omega)]at r;exact FN _ (g3 _ l (a1 j a0 hh) z ho k r)
  ·rcases I j l z with ⟨O,z⟩|⟨a0,z⟩ <;> rcases I J l' Y with ⟨a6,Y⟩|⟨a5,Y⟩
   ·simp only[if_pos O]at r;simp only[if_pos a6]at M;exact f4 j J l l' hh a3 z ho Y a4 k r M
   ·simp only[if_pos O]at r;simp only[if_neg (show ¬ J<b.cells by omega)]at M;exact absurd rfl (Z.2.2 k (f3 j l hh z ho k r) k (g3 _ l' (a1 J a5 a3) Y a4 k M))
   ·simp only[if_neg (show ¬ j<b.cells by omega)]at r;simp only[if_pos a6]at M;exact absurd rfl (Z.2.2 k (f3 J l' a3 Y a4 k M) k (g3 _ l (a1 j a0 hh) z ho k r))
   ·simp only[if_neg (show ¬ j<b.cells by omega)]at r;simp only[if_neg (show ¬ J<b.cells by omega)]at M;have:=g4 _ _ l l' (a1 j a0 hh) (a1 J a5 a3) z ho Y a4 k r M;omega
 |.list m E e,h,pos,xs,cs,bs,H,Z=>by
  cases m with
  |false =>
   rw[cF]at H;obtain⟨rfl,A,a7,rfl,X,h3⟩:=H;refine⟨λ_=>[],λV W st hG j l u _ y h4=>?_,λj l _ y _ k r=>by simp at r,λj J l l' _ _ _ _ _ _ k r=>by simp at r⟩;cases j with
   |zero =>
    simp[aq]at y h4;subst y;subst h4;exact Rd.mono hG (⟨A,a7,rfl,X,h3⟩:Rd w G (.list false E e) xs _)
   |succ j=>simp[aq]at y
  |true =>
   refine⟨λ_=>bs,λV W st hG j l u hh y h4=>?_,λj l _ y _ k r=>r,λj J l l' _ _ y _ h3 _ k _ _=>?_⟩
   ·cases j with
    |zero =>
     rw[Nat.add_zero]at hh;rw[bF hh]at H;obtain⟨v,rfl,hO⟩:=H;simp[aq]at y h4;subst y;subst h4;exact⟨Z,OwB.shy (hO.carry hG (λ_ _=>rfl) (λ_ _=>rfl))⟩
    |succ j=>simp[aq]at y
   ·have h7:j<1:=by simpa[aq]using (FT.1 y).1
    have h8:J<1:=by simpa[aq]using (FT.1 h3).1
    omega
theorem nB {p:Bool}{off:Nat}:∀ {a:Ty} {pos:Nat} {x:a.den} {E:TypeId} {e:Ty} {xs:List e.den},bh off a pos x=some ⟨E,e,xs⟩->(aq p a x)[off-pos]?=some (.own (p&&e.shy) none E e xs)
 |.pair a b,pos,x,E,e,xs,h=>by
  have H:=cR p a x.1;simp only[bh]at h;simp only[aq];split at h
  ·rename_i u z;simp only[FJ]at h;subst h;have y:=ia z;rw[GA (by omega)];exact nB z
  ·have y:=ia h;rw[F8 (by omega),H,show off-pos-a.cells=off-(pos+a.cells) by omega];exact nB h
 |.list m I J,pos,M,E,e,xs,h=>by
  simp only[bh]at h;cases r:m&&FS pos off with
  |false=>simp[r]at h
  |true =>
   rw[r]at h;simp only[cond_true,FJ,Sigma.mk.injEq]at h;obtain⟨rfl,h⟩:=h;simp only[FL]at r;obtain⟨rfl,r⟩:=r;have r:=FQ r;subst r;rw[heq_eq_eq,Sigma.mk.injEq]at h;obtain⟨rfl,h⟩:=h;rw[heq_eq_eq]at h;subst h;simp[aq]
 |.int _,_,_,_,_,_,h=>by simp[bh]at h
 |.bool,_,_,_,_,_,h=>by simp[bh]at h
 |.str,_,_,_,_,_,h=>by simp[bh]at h
 |.unit,_,_,_,_,_,h=>by simp[bh]at h
 |.hdr,_,_,_,_,_,h=>by simp[bh]at h
theorem vd (V:Env)(W:Wit)(I:V.ro0=ro)(r:V.prot=pr):∀ {cs:List (Bool×Ty)} {x:mC cs} {us:List Value},km w ro pr cs x us->us.length=(kE true cs x).length /\
  ∀ (i:Nat) (c:Bool×Bool×(a:Ty)×a.den) (u:Value),(kE true cs x)[i]?=some c->us[i]?=some u->jt V W w c u
 |[],_,us,h=>by
  have h:us=[]:=h;subst h;exact⟨rfl,λi c u z _=>by simp[kE]at z⟩
 |c::cs,x,us,⟨u,a0,e,z,h2⟩=>by
  subst e;obtain⟨i1,i2⟩:=vd V W I r h2;refine⟨by simp[kE,i1],λi c' u' M O=>?_⟩;cases i with
  |succ i=>exact i2 i c' u' (by simpa[kE]using M) (by simpa using O)
  |zero =>
   simp[kE]at M O;subst M;subst O;have hG:∀ k,ro k->gd V W true k:=λk hk=>.inr ⟨rfl,by rw[I];exact hk⟩
   unfold jt;unfold iw at z;split at z
   ·rename_i H;simp only[H,if_true];obtain⟨b,ob,g,o,J,hv,X,y,Z,hr,Y⟩:=z;exact⟨b,ob,g,o,J,hv,.inr (by rw[r];exact X),y,.inr (by rw[r];exact Z),hr.mono hG,Y⟩
   ·rename_i H;have H:c.1=false:=by simpa using H
    simp only[H,Gb,if_false];obtain⟨g,o,J,hv,Z,hr,Y⟩:=z;exact⟨g,o,J,by rw[hv];rfl,.inr (by rw[r];exact Z),hr.mono hG,Y⟩
structure Ent where
 r:Nat
 c:b7
 cs:List Value
 bs:Nat->List Nat
 bl:List Nat
 g:Nat
structure rv (P:Program) (w:World) (ro pr:Nat->Prop) (bx:List (Nat×Nat)) (e:Ent):Prop where
 len:e.c.ls.length=e.cs.length
 one:∀ u∈e.cs,u.oneCell'=true
 leaf:∀ (V:Env) (W:Wit) (st:St),V.w0=w->V.ro0=ro->V.prot=pr->(∀ z∈bx,B0<=z.1/\(st z.1).sh=.agg/\W.β z.1=z.2)->∀ (j:Nat) (l:Leaf) (u:Value),e.c.ls[j]?=some l->e.cs[j]?=some u->aM P V W st w (e.bs j) l u
 own:∀ (j:Nat) (l:Leaf),e.c.ls[j]?=some l->ao l->∀ k∈e.bs j,k∈e.bl
 sep:∀ (j j':Nat) (l l':Leaf),e.c.ls[j]?=some l->ao l->e.c.ls[j']?=some l'->ao l'->∀ k,k∈e.bs j->k∈e.bs j'->j=j'
 box:B0<=e.r->e.c.sh=.agg/\e.g∈e.bl/\(∀ (j:Nat) (l:Leaf),e.c.ls[j]?=some l->ao l->e.g∉e.bs j)/\(∃ E,w.heap[e.g]?=some (.cells e.cs.toArray E (0,0)))/\(e.r,e.g)∈bx
theorem rv.mono {u r:List (Nat×Nat)}{e:Ent}(h:rv P w ro pr u e)(y:∀ z∈u,z∈r):rv P w ro pr r e :=
  { len:=h.len,one:=h.one,own:=h.own,sep:=h.sep
    leaf:=λV W st H I J M=>h.leaf V W st H I J (λz X=>M z (y z X))
    box:=λO=>by obtain⟨Y,Z,q3,q4,q5⟩:=h.box O;exact⟨Y,Z,q3,q4,y _ q5⟩ }
structure xZ (P:Program) (w:World) (ro pr:Nat->Prop) (t:Nat) (pk:PK) (v:Value) (b:List Nat) (bx:List (Nat×Nat)) (es:List Ent):Prop where
 bl:es.flatMap (·.bl)=b
 ok:∀ e∈es,rv P w ro pr bx e
 at_:∀ e∈es,e.r=t\/e.r=B0+t
 nod:(es.map (·.r)).Nodup
 slot:∃ e∈es,e.r=t/\eK e.c.sh v e.cs
 bxs:∀ z∈bx,z.1=B0+t/\(∃ e∈es,e.r=B0+t/\e.g=z.2)
theorem ve (t n:Nat){a:Ty}{x:a.den}{v:Value}{cs:List Value}{b:List Nat}(M:b.Nodup)(h1:dr a.isAgg v cs)(J:Mx w ro a none 0 x cs b)(a0:t<B0) :
    ∃ X,xZ P w ro pr t (.own a) v b [] X/\[((t,⟨n,bk a.isAgg,aq true a x⟩):Nat×b7)]=X.map (λe=>(e.r,e.c)):=by
  obtain⟨I,m1,m2,m3⟩:=jH (P:=P) (p:=true) J M;have H:∀ j,(none:Option Nat)≠some (0+j):=λj=>by simp
  refine⟨[⟨t,⟨n,bk a.isAgg,aq true a x⟩,cs,I,b,0⟩],⟨by simp,?_,by simp,by simp,⟨_,F4 _,rfl,kQ h1⟩,by simp⟩,rfl⟩;intro e Y;simp only[GG]at Y;subst Y
  exact { len := by show (aq true a x).length = _; rw [cR, J.len]
          one:=J.one
          leaf:=λV W st _ O _ _ j l u y z=>m1 V W st (λk hk=>.inr ⟨rfl,by rw[O];exact hk⟩) j l u (H j) y z
          own:=λj l y z=>m2 j l (H j) y z
          sep:=λj Z l l' y z h5 h6=>m3 j Z l l' (H j) (H Z) y z h5 h6
          box:=λhr=>absurd hr (by show ¬ B0<=t;omega) }
theorem pc (t:Nat){l:Leaf}{v:Value}{pk:PK}(a0:t<B0)(J:¬ ao l)(h1:v.oneCell'=true)(y:∀ (V:Env) (W:Wit) (st:St),V.w0=w->V.ro0=ro->V.prot=pr->aM P V W st w [] l v) :
    ∃ Z,xZ P w ro pr t pk v [] [] Z/\[((t,⟨0,.one,[l]⟩):Nat×b7)]=Z.map (λe=>(e.r,e.c)):=by
  refine⟨[⟨t,⟨0,.one,[l]⟩,[v],λ_=>[],[],0⟩],⟨by simp,?_,by simp,by simp,⟨_,F4 _,rfl,rfl⟩,by simp⟩,rfl⟩;intro e he;simp only[GG]at he;subst he;have M:∀ (j:Nat) (z:Leaf),[l][j]?=some z->j=0/\z=l:=λj z O=>by
    cases j with
    |zero=>simp at O;exact⟨rfl,O.symm⟩
    |succ j=>simp at O
  exact { len := rfl
          one:=λu hu=>by simp at hu;subst hu;exact h1
          leaf:=λV W st hw Y X _ j z u I H=>by
            obtain⟨rfl,rfl⟩:=M j z I;simp at H;subst H;exact y V W st hw Y X
          own:=λj z I H=>by obtain⟨_,rfl⟩:=M j z I;exact absurd H J
          sep:=λj j' l1 l2 I H=>by obtain⟨_,rfl⟩:=M j l1 I;exact absurd H J
          box:=λhr=>absurd hr (by show ¬ B0<=t;omega) }
def vf:Value->Nat
 |.pointer (some a)=>a.block
 |_=>0
def eG (t:Nat):List PK->List Value->List (Nat×Nat)
 |.iop _::r,v::u=>(B0+t,vf v)::eG (t+1) r u
 |_::r,_::u=>eG (t+1) r u
 |_,_=>[]
def eH (t:Nat):List PK->List Value->List (Nat×Value)
 |.io _::r,v::u=>(t,v)::eH (t+1) r u
 |.iop _::r,v::u=>(t,v)::eH (t+1) r u
 |_::r,_::u=>eH (t+1) r u
 |_,_=>[]
def PK.bx (t:Nat)(v:Value):PK->List (Nat×Nat)
 |.iop _=>[(B0+t,vf v)]
 |_=>[]
theorem C3 (t:Nat)(a1:t<B0){pk:PK}{ps:List PK}{x:ab (pk::ps)}{v:Value}{b:List Nat}(a0:b.Nodup)(h:o9 P w ro pr pk x.1 v b) :
    ∃ es,xZ P w ro pr t pk v b (pk.bx t v) es/\dy t (pk::ps) x=es.map (λe=>(e.r,e.c))++dy (t+1) ps x.2:=by
  cases pk with
  |rd a =>
    obtain⟨rfl,cs,h1,h2⟩:=h;refine⟨[⟨t,⟨0,bk a.isAgg,cS true a x.1⟩,cs,λ_=>[],[],0⟩],⟨by simp,?_,by simp,by simp,⟨_,F4 _,rfl,kQ h1⟩,by simp[PK.bx]⟩,rfl⟩;intro e he;simp only[GG]at he;subst he;have aw:∀ (V:Env) (W:Wit) (st:St),V.ro0=ro->aG P V W st w (cS true a x.1) cs:=λV W st J=>fC (G:=ro) (λk I=>.inr ⟨rfl,by rw[J];exact I⟩) h2
    have b2:∀ (j:Nat) (l:Leaf),(cS true a x.1)[j]?=some l->¬ ao l:=λj l M=>by
      have hl:=is true a x.1;have hc:=h2.len;have b6:=(FT.1 M).1;exact ((aw ⟨w,ro,[],0,[],[]⟩ ⟨λ_=>0,λ_=>[],λ_ _=>[],λ_=>False⟩ (λ_=>b7.none) rfl).at_ j l _ M (F0 (by omega))).2.1
    exact { len := by show (cS true a x.1).length = _; rw [is, h2.len]
            one:=h2.one
            leaf:=λV W st _ J _ _ j l u y H=>((aw V W st J).at_ j l u y H).1
            own:=λj l y H=>absurd H (b2 j l y)
            sep:=λj j' l l' y H=>absurd H (b2 j l y)
            box:=λhr=>absurd hr (by show ¬ B0<=t;omega) }
  |own a =>
    obtain⟨cs,h1,h2⟩:=h;obtain⟨es,y,H⟩:=ve (P:=P) (pr:=pr) t 0 a0 h1 h2 a1;exact⟨es,⟨y.bl,y.ok,y.at_,y.nod,y.slot,y.bxs⟩,by rw[<- H];rfl⟩
  |io a =>
    obtain⟨cs,h1,h2⟩:=h;obtain⟨es,y,H⟩:=ve (P:=P) (pr:=pr) t 7 a0 h1 h2 a1;exact⟨es,⟨y.bl,y.ok,y.at_,y.nod,y.slot,y.bxs⟩,by rw[<- H];rfl⟩
  |rref a =>
    obtain⟨rfl,h⟩:=h;unfold iw at h;rw[if_neg (by simp)]at h;obtain⟨g,o,c,hv,hg,hr,hc⟩:=h;subst hv;obtain⟨es,y,H⟩:=pc (P:=P) (w:=w) (ro:=ro) (pr:=pr) t (pk:=.rref a) (l:=.rp true a x.1 0) (v:=.pointer (some ⟨g,o,none⟩)) a1 id rfl (λV W st hw J X=>⟨g,o,c,rfl,.inr (by rw[X];exact hg),hr.mono (λk I=>.inr ⟨rfl,by rw[J];exact I⟩),hc⟩);exact⟨es,y,by rw[<- H];rfl⟩
  |rref2 a =>
    obtain⟨rfl,h⟩:=h;unfold iw at h;rw[if_pos rfl]at h;obtain⟨b,ob,g,o,c,hv,hb,a6,hg,hr,hc⟩:=h;subst hv;obtain⟨es,y,H⟩:=pc (P:=P) (w:=w) (ro:=ro) (pr:=pr) t (pk:=.rref2 a) (l:=.rpp true a x.1) (v:=.pointer (some ⟨b,ob,none⟩)) a1 id rfl (λV W st hw J X=>⟨b,ob,g,o,c,rfl,.inr (by rw[X];exact hb),a6,.inr (by rw[X];exact hg),hr.mono (λk I=>.inr ⟨rfl,by rw[J];exact I⟩),hc⟩);exact⟨es,y,by rw[<- H];rfl⟩
  |fn As B =>
    obtain⟨rfl,h⟩:=h;have b4:v.oneCell'=true:=by
      obtain⟨f,b5,e,_⟩:=h;rw[e];rfl
    obtain⟨es,y,H⟩:=pc (P:=P) (w:=w) (ro:=ro) (pr:=pr) t (pk:=.fn As B) (l:=.fn As B x.1) (v:=v) a1 id b4 (λV W st hw J X=>by
      show iQ P V.w0 V.prot As B x.1 v;rw[hw,X];exact h)
    exact⟨es,y,by rw[<- H];rfl⟩
  |clo f cs =>
    obtain⟨rfl,us,e,h⟩:=h;subst e;obtain⟨es,y,H⟩:=pc (P:=P) (w:=w) (ro:=ro) (pr:=pr) t (pk:=.clo f cs) (l:=.clr f (kE true cs x.1)) (v:=.func (.func f) #[] us.toArray) a1 id rfl (λV W st hw J X=>by
      obtain⟨i1,i2⟩:=vd V W J X h;exact⟨us,rfl,i1,i2⟩)
    exact⟨es,y,by rw[<- H];rfl⟩
  |iop a =>
    obtain⟨g,c,E,b0,hv,hg,hm,rfl⟩:=h;subst hv;rw[GI]at a0;obtain⟨a5,m1,m2,m3⟩:=jH (P:=P) (p:=true) hm a0.2;have hn:∀ j,(none:Option Nat)≠some (0+j):=λj=>by simp
    have Z:t≠B0+t:=by simp[B0]
    refine⟨[⟨t,⟨0,.one,[.bp (B0+t) 0]⟩,[.pointer (some ⟨g,0,none⟩)],λ_=>[],[],0⟩,⟨B0+t,⟨0,.agg,aq true a x.1⟩,c,a5,g::b0,g⟩],
      ⟨by simp,?_,λe he=>by simp at he;rcases he with rfl|rfl <;> simp,by rw[F7,F7,HI,GI];exact⟨by simpa using Z,by simp⟩,⟨_,FP ..,rfl,rfl⟩,λz hz=>?_⟩,rfl⟩
    · intro e he
      simp only[FX,List.not_mem_nil,or_false]at he;rcases he with rfl|rfl
      · have h0:∀ (j:Nat) (l':Leaf),[Leaf.bp (B0+t) 0][j]?=some l'->j=0/\l'=.bp (B0+t) 0:=λj l' M=>by
          cases j with
          |zero=>simp at M;exact⟨rfl,M.symm⟩
          |succ j=>simp at M
        exact { len := rfl
                one:=λu hu=>by simp at hu;subst hu;rfl
                leaf:=λV W st hw J X hb j l' u y H=>by
                  obtain⟨rfl,rfl⟩:=h0 j l' y;simp at H;subst H;obtain⟨q1,q2,q3⟩:=hb (B0+t,g) (F4 _);exact⟨q1,q2,by rw[q3]⟩
                own:=λj l' y H=>by obtain⟨_,rfl⟩:=h0 j l' y;exact H.elim
                sep:=λj j' l1 l2 y H=>by obtain⟨_,rfl⟩:=h0 j l1 y;exact H.elim
                box:=λhr=>absurd hr (by show ¬ B0<=t;omega) }
      · exact { len := by show (aq true a x.1).length = _; rw [cR, hm.len]
                one:=hm.one
                leaf:=λV W st _ J _ _ j l u y H=>m1 V W st (λk I=>.inr ⟨rfl,by rw[J];exact I⟩) j l u (hn j) y H
                own:=λj l y H k I=>FO _ (m2 j l (hn j) y H k I)
                sep:=λj j' l l' y H h5 h6=>m3 j j' l l' (hn j) (hn j') y H h5 h6
                box:=λ_=>⟨rfl,FP ..,λj l y H I=>a0.1 (m2 j l (hn j) y H g I),⟨E,hg⟩,F4 _⟩ }
    · simp only[PK.bx,GG]at hz
      subst hz;exact⟨rfl,_,FO _ (F4 _),rfl,rfl⟩
  |hol a c off =>
    obtain⟨cs,u,b0,b1,E,e,xs,h1,h2,y,H,h5,h6⟩:=h;have a2:=bB.1 a0;have ay:b0.Nodup:=bB.2 λk=>by have:=a2 k;have:=h6 k;omega
    have az:b1.Nodup:=bB.2 λk=>by have:=a2 k;have:=h6 k;omega
    have a4:∀ k,k∈b0->k∉b1:=λk I Y=>by
      have:=a2 k;have:=h6 k;have:=F5.2 I;have:=F5.2 Y;omega
    have a8:∀ k∈b0,k∈b:=λk I=>F5.1 (by have:=h6 k;have:=F5.2 I;omega)
    have a9:∀ k∈b1,k∈b:=λk I=>F5.1 (by have:=h6 k;have:=F5.2 I;omega)
    obtain⟨a5,m1,m2,m3⟩:=jH (P:=P) (p:=true) h2 ay;have Z:∀ j,j≠c->(some c:Option Nat)≠some (0+j):=λj M=>by simp;omega
    have ad:=nB (p:=true) H;rw[Nat.sub_zero]at ad;have b3:(aq true a x.1.1).getD c .dead=.own (true&&e.shy) none E e xs:=by rw[FY,ad];rfl
    refine⟨[⟨t,⟨0,bk a.isAgg,aV (aq true a x.1.1) c (.own (true&&e.shy) (some (x.1.2,off)) E e xs)⟩,cs,λj=>if j=c then b1 else a5 j,b,0⟩],
      ⟨by simp,?_,by simp,by simp,⟨_,F4 _,rfl,kQ h1⟩,by simp[PK.bx]⟩,?_⟩
    · intro en he
      simp only[GG]at he;subst he;have O:∀ (j:Nat) (l:Leaf),(aV (aq true a x.1.1) c (.own (true&&e.shy) (some (x.1.2,off)) E e xs))[j]?=some l->(j=c/\l=.own (true&&e.shy) (some (x.1.2,off)) E e xs)\/(j≠c/\(aq true a x.1.1)[j]?=some l):=by
        intro j l M;rcases aU _ _ _ _ _ M with ⟨q1,q2,_⟩|⟨q1,q2⟩
        · exact .inl ⟨q1,q2⟩
        · exact .inr ⟨q1,q2⟩
      exact { len := by show (aV (aq true a x.1.1) c _).length = _; simp only [aV, List.length_set]; rw [cR, h2.len]
              one:=h2.one
              leaf:=λV W st _ J _ _ j l u' h7 h8=>by
                have h8:cs[j]?=some u':=h8;rcases O j l h7 with ⟨rfl,rfl⟩|⟨M,h7⟩
                · rw[y]at h8
                  simp only[FJ]at h8;subst h8;simp only[if_true];exact⟨az,OwB.shy (p:=true) (h5.carry (λk I=>.inr ⟨rfl,by rw[J];exact I⟩) (λ_ _=>rfl) (λ_ _=>rfl))⟩
                · simp only[if_neg M]
                  exact m1 V W st (λk I=>.inr ⟨rfl,by rw[J];exact I⟩) j l u' (Z j M) h7 h8
              own:=λj l h7 h8 k I=>by
                rcases O j l h7 with ⟨rfl,rfl⟩|⟨M,h7⟩
                · simp only[if_true]at I;exact a9 k I
                · simp only[if_neg M]at I;exact a8 k (m2 j l (Z j M) h7 h8 k I)
              sep:=λj j' l l' h7 h8 h9 a7 k I Y=>by
                rcases O j l h7 with ⟨rfl,rfl⟩|⟨M,h7⟩ <;> rcases O j' l' h9 with ⟨rfl,rfl⟩|⟨a3,h9⟩
                · rfl
                · simp only[if_true]at I;simp only[if_neg a3]at Y
                  exact absurd I (a4 k (m2 j' l' (Z j' a3) h9 a7 k Y))
                · simp only[if_neg M]at I;simp only[if_true]at Y
                  exact absurd Y (a4 k (m2 j l (Z j M) h7 h8 k I))
                · simp only[if_neg M]at I;simp only[if_neg a3]at Y
                  exact m3 j j' l l' (Z j M) (Z j' a3) h7 h8 h9 a7 k I Y
              box:=λhr=>absurd hr (by show ¬ B0<=t;omega) }
    · show (t,(⟨0,bk a.isAgg,aV (aq true a x.1.1) c (wb x.1.2 off ((aq true a x.1.1).getD c .dead))⟩:b7))::dy (t+1) ps x.2=_
      rw[b3];rfl
theorem vg:∀ {ps:List PK} {x:ab ps} {u:List Value} {r:List (List Nat)},dp P w ro pr ps x u r->u.length=ps.length
 |[],_,_,_,h=>by rw[h.1];rfl
 |_::_,_,_,_,⟨_,_,_,_,e,_,_,h⟩=>by rw[e,GN,GN,vg h]
theorem wM:∀ (ps:List PK) (x:ab ps) (Z:List Value) (H:List (List Nat)) (t:Nat),dp P w ro pr ps x Z H->H.flatten.Nodup->t+ps.length<=B0 ->
  ∃ J:List Ent,dy t ps x=J.map (λe=>(e.r,e.c))/\J.flatMap (·.bl)=H.flatten/\(∀ e∈J,rv P w ro pr (eG t ps Z) e) /\
   (∀ e∈J,(t<=e.r/\e.r<t+ps.length)\/(B0+t<=e.r/\e.r<B0+t+ps.length))/\(J.map (·.r)).Nodup /\
   (∀ (i:Nat) (v:Value),Z[i]?=some v->∃ e∈J,e.r=t+i/\eK e.c.sh v e.cs)/\(∀ z∈eG t ps Z,∃ e∈J,e.r=z.1/\e.g=z.2/\B0<=z.1)
 |[],x,Z,H,t,⟨e1,e2⟩,_,_=>by
  subst e1;subst e2;exact⟨[],rfl,rfl,by simp,by simp,by simp,λi v h=>by simp at h,by simp[eG]⟩
 |pk::ps,x,Z,H,t,⟨v,Y,b,a0,e1,e2,h1,h2⟩,O,hB=>by
  subst e1;subst e2;rw[FZ,GO]at O;simp only[GN]at hB;obtain⟨a2,X,p2⟩:=C3 t (by omega) (ps:=ps) (x:=x) O.1 h1;obtain⟨a3,q1,q2,q3,q4,q5,q6,q7⟩:=wM ps x.2 Y a0 (t+1) h2 O.2.1 (by omega);have a1:eG t (pk::ps) (v::Y)=pk.bx t v++eG (t+1) ps Y:=by cases pk <;> rfl
  refine⟨a2++a3,by rw[p2,q1,GZ],by rw[List.flatMap_append,X.bl,q2,FZ],λe y=>?_,λe y=>?_,?_,λi u hi=>?_,λz I=>?_⟩
  ·rw[a1];rcases FK.1 y with y|y
   ·exact (X.ok e y).mono (λz I=>FM _ I)
   ·exact (q3 e y).mono (λz I=>FN _ I)
  ·simp only[GN];rcases FK.1 y with y|y
   ·rcases X.at_ e y with h|h <;> omega
   ·rcases q4 e y with h|h <;> omega
  ·rw[GZ,GO];refine⟨X.nod,q5,λa ha b' a4 e0=>?_⟩;subst e0;obtain⟨e,y,rfl⟩:=FU.1 ha;obtain⟨e',a5,e1⟩:=FU.1 a4;rcases X.at_ e y with h|h <;> rcases q4 e' a5 with h'|h' <;> omega
  ·cases i with
   |zero =>
    simp at hi;subst hi;obtain⟨e,y,h3,M⟩:=X.slot;exact⟨e,FM _ y,by omega,M⟩
   |succ i =>
    obtain⟨e,y,h3,M⟩:=q6 i u (by simpa using hi);exact⟨e,FN _ y,by omega,M⟩
  ·rw[a1]at I;rcases FK.1 I with I|I
   ·obtain⟨h3,e,y,M,h5⟩:=X.bxs z I;exact⟨e,FM _ y,by rw[M,h3],h5,by rw[h3];exact Nat.le_add_right _ _⟩
   ·obtain⟨e,y,M,h5,h6⟩:=q7 z I;exact⟨e,FN _ y,M,h5,h6⟩
def gN (w:World)(ro:Nat->Prop)(ps:List PK)(u:List Value)(r:List (List Nat))(nt:Nat):Env:=⟨w,ro,r.flatten,nt,eG 0 ps u,eH 0 ps u⟩
theorem pd:∀ {I:List Ent},(I.flatMap (·.bl)).Nodup->∀ e∈I,∀ y∈I,∀ k,k∈e.bl->k∈y.bl->e=y
 |[],_,e,M,_,_,_,_,_=>by simp at M
 |x::I,u,e,M,y,O,k,J,r=>by
  rw[List.flatMap_cons,GO]at u;rcases FX.1 M with z|z <;> rcases FX.1 O with H|H
  ·rw[z,H]
  ·rw[z]at J;exact absurd rfl (u.2.2 k J k (F2.2 ⟨y,H,r⟩))
  ·rw[H]at r;exact absurd rfl (u.2.2 k r k (F2.2 ⟨e,z,J⟩))
  ·exact pd u.2.1 e z y H k J r
theorem zC:∀ {I:List Ent},(I.map (·.r)).Nodup->∀ e∈I,∀ y∈I,e.r=y.r->e=y
 |[],_,e,J,_,_,_=>by simp at J
 |x::I,u,e,J,y,M,O=>by
  rw[F7,GI]at u;rcases FX.1 J with z|z <;> rcases FX.1 M with H|H
  ·rw[z,H]
  ·exact absurd (FU.2 ⟨y,H,by rw[<- O,z]⟩) u.1
  ·exact absurd (FU.2 ⟨e,z,by rw[O,H]⟩) u.1
  ·exact zC u.2 e z y H O
theorem tc:∀ (u:List Ent) (q:Nat),(av (u.map λe=>(e.r,e.c)) q=b7.none/\u.find? (λe=>e.r==q)=none)\/∃ e∈u,e.r=q/\u.find? (λe=>e.r==q)=some e/\av (u.map λe=>(e.r,e.c)) q=e.c
 |[],q=>.inl ⟨rfl,rfl⟩
 |e::u,q=>by
  by_cases h:e.r=q
  ·refine .inr ⟨e,FP ..,h,by simp[h],?_⟩;simp[av,ac,h]
  ·have z:FS q e.r=false:=by
    cases z:FS q e.r with
    |false=>rfl
    |true=>exact absurd (FQ z).symm h
   have I:av ((e::u).map λe=>(e.r,e.c)) q=av (u.map λe=>(e.r,e.c)) q:=by simp[av,ac,z]
   have J:(e::u).find? (λe=>e.r==q)=u.find? (λe=>e.r==q):=by simp[h]
   rw[I,J];rcases tc u q with y|⟨H,y,M,O,X⟩
   ·exact .inl y
   ·exact .inr ⟨H,FO _ y,M,O,X⟩
theorem wN:∀ {ps:List PK} {r:List Value} {t:Nat} {z:Nat×Value},z∈eH t ps r->∃ i,z.1=t+i/\r[i]?=some z.2
 |[],_,_,_,h=>by simp[eH]at h
 |u::ps,[],_,_,h=>by cases u <;> simp[eH]at h
 |u::ps,v::r,t,z,h=>by
  have:z=(t,v)\/z∈eH (t+1) ps r:=by cases u <;> simp[eH]at h <;> first|exact h|exact .inr h
  rcases this with rfl|h
  ·exact⟨0,rfl,rfl⟩
  ·obtain⟨i,H,y⟩:=wN h;exact⟨i+1,by omega,by simpa using y⟩
theorem wO {ps:List PK}{x:ab ps}{O:List Value}{J:List (List Nat)}{nt:Nat}(h:dp P w ro (λk=>k<w.heap.size/\k∉J.flatten) ps x O J)(a4:J.flatten.Nodup)
  (bo:ps.length<=nt) (hB:nt<=GH):Rel P (gN w ro ps O J nt) (av (dy 0 ps x)) { tmps:=O.toArray++GJ (nt-O.length) undef,defers:=[] } w:=by
 have bb:=vg h;have bn:GH<=B0:=by decide
 obtain⟨X,q1,q2,q3,q4,q5,q6,q7⟩:=wM ps x O J 0 h a4 (by omega);rw[q1];have b5:=tc X;have a5:∀ e∈X,∀ H∈X,e.r=H.r->e=H:=by
  intro e he H b9 hr;exact zC q5 e he H b9 hr
 rw[<- q2]at a4;have a0:∀ e∈X,∀ k∈e.bl,k∈J.flatten:=λe he k hk=>by rw[<- q2];exact F2.2 ⟨e,he,hk⟩
 have hE:∀ q,(av (X.map λe=>(e.r,e.c)) q=b7.none/\X.find? (λe=>e.r==q)=none)\/∃ e∈X,e.r=q/\X.find? (λe=>e.r==q)=some e/\av (X.map λe=>(e.r,e.c)) q=e.c:=b5;have a1:∀ q,live (av (X.map λe=>(e.r,e.c))) q->∃ e∈X,e.r=q/\B0<=e.r/\X.find? (λe=>e.r==q)=some e:=by
  rintro q ⟨h1,h2⟩;rcases hE q with ⟨I,_⟩|⟨e,I,y,h5,M⟩
  ·rw[I]at h2;cases h2
  ·exact⟨e,I,y,by rw[y];exact h1,h5⟩
 let β:Nat->Nat:=λq=>match X.find? (λe=>e.r==q) with|some e=>e.g|none=>0
 let cs:Nat->List Value:=λq=>match X.find? (λe=>e.r==q) with|some e=>e.cs|none=>[]
 let bs:Nat->Nat->List Nat:=λq j=>match X.find? (λe=>e.r==q) with|some e=>e.bs j|none=>[]
 have a7:∀ z∈eG 0 ps O,B0<=z.1/\(av (X.map λe=>(e.r,e.c)) z.1).sh=.agg/\β z.1=z.2:=by
  intro z hz;obtain⟨e,he,h1,h2,I⟩:=q7 z hz;refine⟨I,?_⟩;rcases hE z.1 with ⟨_,y⟩|⟨H,y,h5,M,Z⟩
  ·exfalso;rw[G4]at y;exact y e he (by simp[h1])
  ·have:H=e:=a5 H y e he (by rw[h5,h1]);subst this;rw[Z];exact⟨((q3 H he).box (by rw[h1];exact I)).1,by simp only[β,M];exact h2⟩
 refine⟨{ β:=β,cs:=cs,bs:=bs,nw:=λ_=>False },?_⟩;have ba:(gN w ro ps O J nt).prot=λk=>k<w.heap.size/\k∉J.flatten:=rfl
 exact {
  nt:=by show (O.toArray++GJ (nt-O.length) undef).size=nt;simp;omega
  df:=rfl
  slots:=λt ht=>by
   show eK _ ((O.toArray++GJ (nt-O.length) undef).getD t undef) (cs t);by_cases hq:t<ps.length
   ·have hv:=F0 (show t<O.length by omega);have:(O.toArray++GJ (nt-O.length) undef).getD t undef=O[t]:=by
     rw[FW,Ge (by simp;omega)];simp[hv]
    rw[this];obtain⟨e,he,h1,h2⟩:=q6 t _ hv;rw[GR]at h1;rcases hE t with ⟨_,y⟩|⟨H,y,h5,M,Z⟩
    ·exfalso;rw[G4]at y;exact y e he (by simp[h1])
    ·have:H=e:=a5 H y e he (by rw[h5,h1]);subst this;rw[Z];simp only[cs,M];exact h2
   ·rcases hE t with ⟨I,y⟩|⟨H,y,h5,M,Z⟩
    ·rw[I];simp only[cs,y];rfl
    ·rcases q4 H y with h8|h8 <;> omega
  boxes:=λb hb=>by
   rcases hE b with ⟨I,y⟩|⟨H,y,h5,M,Z⟩
   ·rw[I];exact .inl ⟨rfl,rfl⟩
   ·obtain⟨g1,g2,g3,⟨E,g4⟩,g5⟩:=(q3 H y).box (by rw[h5];exact hb);rw[Z];exact .inr ⟨g1,E,by simp only[β,cs,M];exact g4⟩
  len:=λq=>by
   rcases hE q with ⟨I,y⟩|⟨H,y,h5,M,Z⟩
   ·rw[I];simp only[cs,y];rfl
   ·rw[Z];simp only[cs,M];exact (q3 H y).len
  one:=λq u hu=>by
   have hu:u∈cs q:=hu;rcases hE q with ⟨I,y⟩|⟨H,y,h5,M,Z⟩
   ·simp only[cs,y]at hu;simp at hu
   ·simp only[cs,M]at hu;exact (q3 H y).one u hu
  leaf:=λq j l v Y hv=>by
   have hv:(cs q)[j]?=some v:=hv;rcases hE q with ⟨I,y⟩|⟨H,y,h5,M,Z⟩
   ·rw[I]at Y;simp[b7.none]at Y
   ·rw[Z]at Y;simp only[cs,M]at hv;show aM P _ _ _ w (bs q j) l v;simp only[bs,M];exact (q3 H y).leaf (gN w ro ps O J nt) _ _ rfl rfl rfl a7 j l v Y hv
  ownb:=λq j l Y ho k hk=>by
   have hk:k∈bs q j:=hk;rcases hE q with ⟨I,y⟩|⟨H,y,h5,M,Z⟩
   ·rw[I]at Y;simp[b7.none]at Y
   ·rw[Z]at Y;simp only[bs,M]at hk;have ad:=(q3 H y).own j l Y ho k hk;refine⟨id,λhp=>hp.2 (a0 H y k ad),λb hb e0=>?_⟩;obtain⟨e2,g1,g2,g3,g4⟩:=a1 b hb;have a6:=(q3 e2 g1).box g3;have e0:β b=k:=e0;simp only[β,g4]at e0;have:=pd a4 H y e2 g1 k ad (by rw[<- e0];exact a6.2.1);subst this;exact a6.2.2.1 j l Y ho (by rw[e0];exact hk)
  sep:=λq j l q' j' l' Y ho a3 aw k hk a2=>by
   have hk:k∈bs q j:=hk;have a2:k∈bs q' j':=a2;rcases hE q with ⟨I,y⟩|⟨e1,y,h5,M,Z⟩
   ·rw[I]at Y;simp[b7.none]at Y
   ·rcases hE q' with ⟨b1,a8⟩|⟨e2,a8,b2,b3,b4⟩
    ·rw[b1]at a3;simp[b7.none]at a3
    ·rw[Z]at Y;rw[b4]at a3;simp only[bs,M]at hk;simp only[bs,b3]at a2;have:=pd a4 e1 y e2 a8 k ((q3 e1 y).own j l Y ho k hk) ((q3 e2 a8).own j' l' a3 aw k a2);subst this;exact⟨by rw[<- h5,<- b2],(q3 e1 y).sep j j' l l' Y ho a3 aw k hk a2⟩
  box:=λb hb=>by
   obtain⟨e2,g1,g2,g3,g4⟩:=a1 b hb;have a6:=(q3 e2 g1).box g3;refine⟨id,λhp=>hp.2 ?_⟩;show β b∈_;simp only[β,g4];exact a0 e2 g1 _ a6.2.1
  inj:=λb b' hb b6 e0=>by
   obtain⟨e1,g1,g2,g3,g4⟩:=a1 b hb;obtain⟨e2,a9,ay,az,b0⟩:=a1 b' b6;have e0:β b=β b':=e0;simp only[β,g4,b0]at e0;have:=pd a4 e1 g1 e2 a9 e1.g ((q3 e1 g1).box g3).2.1 (by rw[e0];exact ((q3 e2 a9).box az).2.1);subst this;rw[<- g2,<- ay]
  nwlt:=λk hk=>hk.elim
  os:=rfl,tape:=rfl,output:=rfl,size:=Gs _,keep:=λ_ _=>rfl
  fixb:=λz hz=>by
   obtain⟨h1,h2,I⟩:=a7 z hz;exact⟨⟨h1,h2⟩,I⟩
  fixt:=λz hz=>by
   obtain⟨i,h1,h2⟩:=wN hz;rw[GR]at h1;show (O.toArray++GJ (nt-O.length) undef).getD z.1 undef=z.2;rw[h1,FW,Ge (by simpa using (FT.1 h2).1)];simp[h2] }
end
section
variable {P:Program} {V:Env} {W:Wit} {Γ:List Ctr} {T:TypeId->TI} {R:Type} {st:St} {a:Act} {w:World} {ro:Nat->Prop}
theorem C4 (hT:TOk P T)(h:ap P V W st a w)(x:ResultVar)(I:qA st T x≠.off) :
  ∃ v J,(match x with|.tmp t=>(pure (a.tmps.getD t undef):Sem Value)|.cell b t=>(do loadVar t (<- asAddr (a.tmps.getD b undef)):Sem Value)).run P w=.ok v w /\
   eK (qA st T x) v J/\aG P V W st w (wR st T x) J:=by
 cases x with
 |tmp t =>
  obtain⟨J,h1,M⟩:=db h (.tmp t);exact⟨_,J,rfl,h1,M⟩
 |cell t u =>
  simp only[qA]at I ⊢;split at I
  ·rename_i b off Z;cases X:decide ((st b).sh=.agg)&&Gu (off+(T u).cells) (st b).ls.length&&!FS (T u).cells 0 with
   |false=>rw[X]at I;exact absurd rfl I
   |true =>
    simp only[Z,X,cond_true,wR];simp only[FL,decide_eq_true_eq,GL]at X;obtain⟨⟨h1,M⟩,h3⟩:=X;have M:off+(T u).cells<=(st b).ls.length:=GC M;have a0:T u≠.none:=by
     intro e;rw[e]at h3;simp[TI.cells]at h3
    obtain⟨hp,_,_,_,_⟩:=bA h (.tmp t) (by rw[Z];simp);rw[Z]at hp;obtain⟨hB,Y,H⟩:=hp;have H:a.tmps.getD t undef=.pointer (some ⟨W.β b,off,none⟩):=H;rcases h.boxes b hB with ⟨O,_⟩|⟨_,E,O⟩
    ·rw[Y]at O;cases O
    ·have r:dg w (W.β b) 0 (W.cs b):=λi v H=>by
      rw[GR,cell_of_row w (W.β b) i _ E (0,0) O];simpa using H
     have a2:=h.len b;have y:=r.sub off (T u).cells;rw[GR]at y;obtain⟨v,z,a1⟩:=pj (hT u) a0 y (by simp;omega);refine⟨v,_,?_,a1,((jf h b).drop off).take _⟩;simp only[H];simpa[asAddr]using z
  ·exact absurd rfl I
def oO (a:Act):ResultVar->Sem Value
 |.tmp t=>pure (a.tmps.getD t undef)
 |.cell b t=>do loadVar t (<- asAddr (a.tmps.getD b undef))
def oP (P:Program)(a:Act)(w:World):List ResultVar->List Value->Prop
 |[],u=>u=[]
 |x::y,u=>∃ v r,u=v::r/\(oO a x).run P w=.ok v w/\oP P a w y r
theorem td:∀ (l:List ResultVar) (u:List Value),oP P a w l u->(l.mapM (oO a)).run P w=.ok u w
 |[],_,h=>by rw[show _=_ from h];rfl
 |x::l,_,⟨v,r,e,y,z⟩=>by subst e;simp[Gt,y,td l r z]
theorem Cf (b:Bool):bk b≠.off:=by cases b <;> simp[bk]
def RK.isBox:RK->Bool
 |.box _=>true
 |_=>false
theorem vh (hV:aA V)(hT:TOk P T)(h:ap P V W st a w)(a8:V.ro0=ro){fx:List Nat}:∀ (rs:List RK) (I:List ResultVar) (y:cU (ai rs)),kW st T fx rs I=some y ->
  ∀ {G:Nat->Prop},(∀ k,br V W y.p y.frz k->G k) ->
  ∃ (us:List Value) (H:List (List Nat)) (bx:List Nat),oP P a w I us/\ib w G ro rs y.val us H/\(∀ k,H.flatten.count k=(aZ W y.kill).count k+(bx.map W.β).count k) /\
   (∀ b∈bx,live st b/\fx.any (FS b)=false)/\bx.length=rs.countP RK.isBox/\(∀ z∈y.frz,aF st z)/\∀ z∈y.kill,aF st z
 |[],[],y,J,G,hG=>by
  simp only[kW,FJ]at J;subst J;exact⟨[],[],[],rfl,⟨rfl,rfl⟩,λk=>by simp[aZ],by simp,rfl,by simp,by simp⟩
 |[],_::_,_,J,_,_=>by simp[kW]at J
 |_::_,[],_,J,_,_=>by simp[kW]at J
 |r::rs,x::I,y,J,G,hG=>by
  simp only[kW]at J;cases O:decide (qA st T x=r.sh) with
  |false=>simp[O]at J
  |true =>
   simp only[O,cond_true]at J;have O:=of_decide_eq_true O;split at J
   ·rename_i X y2 u az;simp only[FJ]at J;subst J;obtain⟨v,a2,a9,M,a0⟩:=C4 hT h x (by rw[O];cases r <;> simp only[RK.sh] <;> first|exact Cf _|simp);rw[O]at M;have a1:∀ k,br V W X.p X.frz k->G k:=λk Z=>hG k (d8.1 k Z)
    have aw:∀ k,br V W y2.p y2.frz k->G k:=λk Z=>hG k (d8.2 k Z)
    obtain⟨us,H,bx,i1,i2,i3,i4,i5,i6,i7⟩:=vh hV hT h a8 rs I y2 az aw;have a5:(oO a x).run P w=.ok v w:=by cases x <;> exact a9
    have a3:∀ (b:List Nat) (Y:List Nat),q9 w G ro r X.val v b->(∀ k,b.count k=(aZ W X.kill).count k+(Y.map W.β).count k)->(∀ b∈Y,live st b/\fx.any (FS b)=false)->Y.length=(if r.isBox then 1 else 0)->(∀ z∈X.frz,aF st z)->(∀ z∈X.kill,aF st z) ->
      ∃ (us:List Value) (H:List (List Nat)) (bx:List Nat),oP P a w (x::I) us/\ib w G ro (r::rs) (X.val,y2.val) us H/\(∀ k,H.flatten.count k=(aZ W (X.kill++y2.kill)).count k+(bx.map W.β).count k) /\
       (∀ b∈bx,live st b/\fx.any (FS b)=false)/\bx.length=(r::rs).countP RK.isBox/\(∀ z∈X.frz++y2.frz,aF st z)/\∀ z∈X.kill++y2.kill,aF st z:=by
     intro b Y f1 f2 f3 f4 f5 f6;refine⟨v::us,b::H,Y++bx,⟨v,us,rfl,a5,i1⟩,⟨v,us,b,H,rfl,rfl,f1,i2⟩,λk=>?_,λz hz=>(FK.1 hz).elim (f3 z) (i4 z),?_,λz hz=>(FK.1 hz).elim (f5 z) (i6 z),λz hz=>(FK.1 hz).elim (f6 z) (i7 z)⟩
     ·rw[FZ,F3,f2 k,i3 k,dV,F3,GZ,F3];omega
     ·rw[List.length_append,f4,i5,HA];cases r.isBox <;> simp <;> omega
    cases r with
    |v b =>
     simp only[tx]at u;obtain⟨g1,g2,g3⟩:=dZ (pos:=0) h a0 u;exact a3 (aZ W X.kill) [] ⟨a2,ic M,g1.mono a1⟩ (λk=>by simp) (by simp) rfl g2 g3
    |bv b =>
     simp only[tx,FR]at u;obtain⟨⟨p,z⟩,hz,rfl⟩:=u;have g1:=eX h a0 hz;refine a3 [] [] ⟨rfl,a2,ic M,g1.mono λk Z=>?_⟩ (λk=>by simp[aZ]) (by simp) rfl (λz hz=>eO a0 hz) (by simp);rcases Z with (Z|⟨_,Z⟩)|Z
     ·exact .inl (a1 k (.inl (.inl Z)))
     ·exact .inr (by rw[<- a8];exact Z)
     ·exact .inl (a1 k (.inr Z))
    |box b =>
     simp only[tx]at u;split at u
     ·rename_i b0 ay;cases a4:!(fx.any (FS b0)) with
      |false=>rw[a4]at u;cases u
      |true =>
       rw[a4]at u;simp only[cond_true]at u;have M:a2=[v]:=M;subst M;rw[ay]at a0;obtain⟨hB,a6,ad⟩:=a0.1.1;obtain⟨g1,g2,g3⟩:=dZ (pos:=0) h (jf h b0) u;rcases h.boxes b0 hB with ⟨h8,_⟩|⟨_,E,h8⟩
       ·rw[a6]at h8;cases h8
       ·exact a3 (W.β b0::aZ W X.kill) [b0] ⟨W.β b0,W.cs b0,E,_,ad,h8,g1.mono a1,rfl⟩ (λk=>by
         rw[Ga,F7,HI,Ga,List.count_nil];omega) (λb' a7=>by
         simp at a7;subst a7;exact⟨⟨hB,a6⟩,by simpa using a4⟩) rfl g2 g3
     ·cases u
   ·cases J
theorem nC (hV:aA V)(h:ap P V W st a w){w0:World}{pr:Nat->Prop}(a6:V.nt<=GH):∀ (ps:List PK) (x:ab ps) (vs:List Value) (a3:List (List Nat)) (t:Nat) (o:cU (ag ps)),dp P w0 ro pr ps x vs a3->iO st t ps=some o->t+ps.length<=V.nt ->
  (∀ z∈eH t ps vs,a.tmps.getD z.1 undef=z.2)->(∀ z∈eG t ps vs,live st z.1/\W.β z.1=z.2)->∀ {G:Nat->Prop},(∀ k,br V W o.p o.frz k->G k) ->
  ∃ r,bS w G ps o.val vs r/\(∀ k,r.flatten.count k=(aZ W o.kill).count k+((bM t ps).map W.β).count k)/\(∀ z∈o.frz,aF st z)/\(∀ z∈o.kill,aF st z)/\∀ b∈bM t ps,live st b
 |[],x,vs,a3,t,o,⟨e1,e2⟩,y,_,_,_,G,hG=>by
  simp only[iO,FJ]at y;subst y;subst e1;exact⟨[],trivial,λk=>by simp[aZ,bM],by simp,by simp,by simp[bM]⟩
 |pk::ps,x,vs,a3,t,o,⟨v,Y,b,a0,e1,e2,h1,h2⟩,y,ht,a2,a1,G,hG=>by
  subst e1;subst e2;simp only[GN]at ht;have u:∀ (o':cU (ag ps)),iO st (t+1) ps=some o'->eH t (pk::ps) (v::Y)=eH (t+1) ps Y->eG t (pk::ps) (v::Y)=eG (t+1) ps Y->(∀ k,br V W o'.p o'.frz k->G k) ->
    ∃ r,bS w G ps o'.val Y r/\(∀ k,r.flatten.count k=(aZ W o'.kill).count k+((bM (t+1) ps).map W.β).count k)/\(∀ z∈o'.frz,aF st z)/\(∀ z∈o'.kill,aF st z)/\∀ b∈bM (t+1) ps,live st b:=by
   intro o' a9 e1 e2 a8;exact nC hV h a6 ps x.2 Y a0 (t+1) o' h2 a9 (by omega) (λz H=>a2 z (by rw[e1];exact H)) (λz H=>a1 z (by rw[e2];exact H)) a8
  cases pk with
  |io b =>
   simp only[iO]at y;split at y
   ·rename_i y1 y2 Z a7;simp only[FJ]at y;subst y;obtain⟨r,I,J,M,O,X⟩:=nC hV h a6 ps x.2 Y a0 (t+1) y2 h2 a7 (by omega) (λz H=>a2 z (FO _ H)) (λz H=>a1 z H) (λk hk=>hG k (d8.2 k hk));cases hb:decide ((au st (.tmp t)).1=bk b.isAgg) with
    |false=>rw[hb]at Z;cases Z
    |true =>
     rw[hb]at Z;simp only[cond_true]at Z;obtain⟨cs,h3,h4⟩:=db h (.tmp t);rw[of_decide_eq_true hb]at h3;have hv:a.eval (.tmp t)=v:=a2 (t,v) (FP ..);rw[hv]at h3;obtain⟨g1,g2,g3⟩:=dZ (pos:=0) h h4 Z;refine⟨aZ W y1.kill::r,⟨?_,I⟩,λk=>?_,λz H=>(FK.1 H).elim (g2 z) (M z),λz H=>(FK.1 H).elim (g3 z) (O z),X⟩
     ·unfold kb;rw[if_neg (by simp)];exact⟨cs,ic h3,g1.mono (λk hk=>hG k (d8.1 k hk))⟩
     ·rw[FZ,F3,J k,dV,F3];show _=_+((bM (t+1) ps).map W.β).count k;omega
   ·cases y
  |iop b =>
   simp only[iO]at y;split at y
   ·rename_i y1 y2 Z a7;simp only[FJ]at y;subst y;obtain⟨r,I,J,M,O,X⟩:=nC hV h a6 ps x.2 Y a0 (t+1) y2 h2 a7 (by omega) (λz H=>a2 z (FO _ H)) (λz H=>a1 z (FO _ H)) (λk hk=>hG k (d8.2 k hk));obtain⟨g,c,E,b0,hv,_,_,_⟩:=h1;subst hv;obtain⟨a5,hβ⟩:=a1 (B0+t,vf (.pointer (some ⟨g,0,none⟩))) (FP ..);have hβ:W.β (B0+t)=g:=hβ;obtain⟨g1,g2,g3⟩:=dZ (pos:=0) h (jf h (B0+t)) Z;rcases h.boxes (B0+t) a5.1 with ⟨h8,_⟩|⟨_,E',h8⟩
    ·have:=a5.2;rw[h8]at this;cases this
    ·refine⟨(g::aZ W y1.kill)::r,⟨?_,I⟩,λk=>?_,λz H=>(FK.1 H).elim (g2 z) (M z),λz H=>(FK.1 H).elim (g3 z) (O z),λb' a4=>?_⟩
     ·unfold kb;rw[if_pos rfl];exact⟨g,W.cs (B0+t),E',_,rfl,by rw[<- hβ];exact h8,g1.mono (λk hk=>hG k (d8.1 k hk)),rfl⟩
     ·rw[FZ,F3,J k,dV,F3,Ga];show _=_+(W.β (B0+t)::(bM (t+1) ps).map W.β).count k;rw[Ga,hβ];omega
     ·rcases FX.1 a4 with rfl|a4
      ·exact a5
      ·exact X b' a4
   ·cases y
  |rd b =>
   obtain⟨r,I,J,M,O,X⟩:=u o y rfl rfl hG;exact⟨[]::r,⟨rfl,I⟩,λk=>by rw[FZ,GF];exact J k,M,O,X⟩
  |own b =>
   obtain⟨r,I,J,M,O,X⟩:=u o y rfl rfl hG;exact⟨[]::r,⟨rfl,I⟩,λk=>by rw[FZ,GF];exact J k,M,O,X⟩
  |rref b =>
   obtain⟨r,I,J,M,O,X⟩:=u o y rfl rfl hG;exact⟨[]::r,⟨rfl,I⟩,λk=>by rw[FZ,GF];exact J k,M,O,X⟩
  |rref2 b =>
   obtain⟨r,I,J,M,O,X⟩:=u o y rfl rfl hG;exact⟨[]::r,⟨rfl,I⟩,λk=>by rw[FZ,GF];exact J k,M,O,X⟩
  |fn As B =>
   obtain⟨r,I,J,M,O,X⟩:=u o y rfl rfl hG;exact⟨[]::r,⟨rfl,I⟩,λk=>by rw[FZ,GF];exact J k,M,O,X⟩
  |clo f cs =>
   obtain⟨r,I,J,M,O,X⟩:=u o y rfl rfl hG;exact⟨[]::r,⟨rfl,I⟩,λk=>by rw[FZ,GF];exact J k,M,O,X⟩
  |hol b c off =>
   obtain⟨r,I,J,M,O,X⟩:=u o y rfl rfl hG;exact⟨[]::r,⟨rfl,I⟩,λk=>by rw[FZ,GF];exact J k,M,O,X⟩
end
section
variable {P:Program} {Γ:List Ctr} {T:TypeId->TI} {w:World} {ro:Nat->Prop}
theorem vX {fn:Func}{a:Act}{w:World}{r:List Value}(h:oP P a w fn.results.toList r):(results fn a.tmps).run P w=.ok (if h:r.toArray.size=1 then r.toArray[0] else .tuple r.toArray) w:=by
 have y:=td _ _ h;have e:results fn a.tmps=(fn.results.mapM (oO a) >>= λu=>pure (if h:u.size=1 then u[0] else .tuple u)):=by
  unfold results;congr 1
 have z:(fn.results.mapM (oO a)).run P w=.ok r.toArray w:=by
  rw[Array.mapM_eq_mapM_toList];simp[y]
 rw[e];simp only[GV,z,GP,G6]
theorem C5 (us:List Value):tF us (if h:us.toArray.size=1 then us.toArray[0] else .tuple us.toArray):=by
 match us with
 |[]=>rfl
 |[u]=>rfl
 |u::r::us =>
  rw[dif_neg (by simp)];rfl
theorem te:∀ (ps:List PK) (t:Nat),(bM t ps).Nodup/\∀ b∈bM t ps,B0+t<=b
 |[],t=>⟨Gf,by simp[bM]⟩
 |I::ps,t=>by
  obtain⟨u,y⟩:=te ps (t+1);have z:∀ b∈bM (t+1) ps,B0+t<=b:=λb r=>by have:=y b r;omega
  cases I with
  |iop a =>
   refine⟨GI.2 ⟨λH=>?_,u⟩,λb r=>?_⟩
   ·have:=y _ H;omega
   ·rcases FX.1 r with rfl|r
    ·exact Gs _
    ·exact z b r
  |_=>exact⟨u,z⟩
theorem C6 {u:List RK}(h:rE u=true):u.countP RK.isBox<=1:=by
 unfold rE at h;split at h
 ·simp[RK.isBox]
 ·rw[Gx.2]
  ·exact HC _
  ·intro r y;rw[F6]at h;have:=h r y;cases r <;> simp[RK.isV,RK.isBox]at this ⊢
theorem tf {β:Nat->Nat}:∀ {bs:List Nat},bs.Nodup->(∀ b∈bs,∀ u∈bs,β b=β u->b=u)->(bs.map β).Nodup
 |[],_,_=>Gf
 |b::bs,z,H=>by
  rw[GI]at z;rw[F7,GI];refine⟨λI=>?_,tf z.2 (λx J y M=>H x (FO _ J) y (FO _ M))⟩;obtain⟨u,r,e⟩:=FU.1 I;have:=H u (FO _ r) b (FP ..) e;exact z.1 (by rw[<- this];exact r)
theorem zD (hT:TOk P T){c:Ctr}(bl:rE c.rs=true){vs:List Value}{I:List (List Nat)}{fn:Func}{nt:Nat}(hV:aA (gN w ro c.ps vs I nt)){x:ab c.ps}{pr:Nat->Prop}(a7:dp P w ro pr c.ps x vs I)(bb:c.ps.length<=nt){ex:Ex}{s1:St}{y:ai c.rs×ag c.ps}
  (r:du T c.ps c.rs c.fresh fn.results.toList ex s1=some y) {a:Act} {w':World} (u:Rel P (gN w ro c.ps vs I nt) s1 a w') :
  (ex=.normal\/ex=.ret)/\∃ v,(results fn a.tmps).run P w'=.ok v w'/\uN c w ro vs I y (.returned v) w':=by
 obtain⟨W,u⟩:=u;have b3:ex=.normal\/ex=.ret:=by
  cases ex with
  |normal=>exact .inl rfl
  |ret=>exact .inr rfl
  |exit id=>cases r
 refine⟨b3,?_⟩;have r:finR T c.ps c.rs c.fresh fn.results.toList s1=some y:=by
  rcases b3 with rfl|rfl <;> exact r
 unfold finR at r;split at r
 ·rename_i O M bo bn;cases Y:bc (O.kill++M.kill)&&dO (O.frz++M.frz) (O.kill++M.kill)&&(!c.fresh||!(O.p||M.p)) with
  |false=>rw[Y]at r;cases r
  |true =>
   rw[Y]at r;simp only[cond_true,FJ]at r;subst r;simp only[FL]at Y;obtain⟨⟨b2,b6⟩,b4⟩:=Y;let N:Nat->Prop:=λk=>W.nw k\/∃ z∈O.frz++M.frz,k∈W.bs z.1 z.2
   have hG:∀ (p:Bool) (a6:List (Nat×Nat)),(p=true->(O.p||M.p)=true)->(∀ z∈a6,z∈O.frz++M.frz)->∀ k,br (gN w ro c.ps vs I nt) W p a6 k->N k\/(c.fresh=false/\ro k):=by
    intro p a6 hp H k J;rcases J with (J|⟨hq,J⟩)|⟨z,Z,J⟩
    ·exact .inl (.inl J)
    ·refine .inr ⟨?_,J⟩;rw[hp hq]at b4;simpa using b4
    ·exact .inl (.inr ⟨z,H z Z,J⟩)
   obtain⟨us,b0,bx,r1,r2,r3,r4,r5,r6,r7⟩:=vh hV hT u rfl c.rs fn.results.toList O bo (G:=λk=>N k\/(c.fresh=false/\ro k)) (hG O.p O.frz (by intro h;simp[h]) (λz H=>FM _ H));obtain⟨az,o1,o2,o3,o4,o5⟩:=nC hV u hV.nt c.ps x vs I 0 M a7 bn (by rw[GR];exact bb) (λz H=>u.fixt z H) (λz H=>u.fixb z H) (G:=λk=>N k\/(c.fresh=false/\ro k)) (hG M.p M.frz (by intro h;simp[h]) (λz H=>FN _ H));have a1:∀ z∈O.kill++M.kill,aF s1 z:=λz H=>(FK.1 H).elim (r7 z) (o4 z)
   have a0:∀ z∈O.frz++M.frz,aF s1 z:=λz H=>(FK.1 H).elim (r6 z) (o3 z)
   have a4:∀ k,k<w'.heap.size->¬ (gN w ro c.ps vs I nt).prot k->ra w w' I.flatten k:=by
    intro k J hp;refine⟨J,?_⟩;by_cases ba:k<w.heap.size
    ·right;apply GB;intro hn;exact hp ⟨ba,hn⟩
    ·exact .inl (by omega)
   have b5:∀ k,N k->ra w w' I.flatten k:=by
    rintro k (J|⟨z,H,J⟩)
    ·exact a4 k (u.nwlt k J).1 (u.nwlt k J).2
    ·obtain⟨l,h7,h8⟩:=a0 z H;exact a4 k (u.own_lt h7 h8 k J) (u.ownb z.1 z.2 l h7 h8 k J).2.1
   have X:∀ b∈bx++bM 0 c.ps,live s1 b:=λb R=>(FK.1 R).elim (λR=>(r4 b R).1) (o5 b)
   have b1:(bx++bM 0 c.ps).Nodup:=by
    rw[GO];refine⟨?_,(te c.ps 0).1,λb R b' a8 e=>?_⟩
    ·have:=C6 bl;rw[<- r5]at this
     match bx,this with
     |[],_=>exact Gf
     |[b],_=>simp
    ·subst e;have:=Gh.1 (r4 b R).2 b a8;simp at this
   have aw:=tf (β:=W.β) b1 (λb R b' a8 e=>u.inj b b' (X b R) (X b' a8) e);have a5:∀ k,(az.flatten++b0.flatten).count k=(aZ W (O.kill++M.kill)).count k+((bx++bM 0 c.ps).map W.β).count k:=λk=>by
    rw[F3,o2 k,r3 k,dV,F3,GZ,F3];omega
   have b9:=bB.1 (iv u b2 a1);have a9:∀ k∈az.flatten++b0.flatten,(∃ z∈O.kill++M.kill,k∈W.bs z.1 z.2)\/∃ b,live s1 b/\W.β b=k:=λk J=>by
    have h5:=F5.2 J;rw[a5 k]at h5;by_cases h6:k∈aZ W (O.kill++M.kill)
    ·exact .inl (gS.1 h6)
    ·have:=Gg.2 h6;obtain⟨b,R,e⟩:=FU.1 (F5.1 (show 0<((bx++bM 0 c.ps).map W.β).count k by omega));exact .inr ⟨b,X b R,e⟩
   refine⟨_,vX r1,_,us,N,az,b0,rfl,C5 us,u.size,u.os,u.tape,u.output,λk h1 h2=>u.keep k ⟨h1,h2⟩,b5,o1,r2,bB.2 λk=>?_,λk J=>?_⟩
   ·rw[a5 k];have h5:=b9 k;have h6:=bB.1 aw k;by_cases h7:k∈(bx++bM 0 c.ps).map W.β
    ·have:(aZ W (O.kill++M.kill)).count k=0:=Gg.2 λhm=>by
      obtain⟨b,R,e⟩:=FU.1 h7;obtain⟨z,H,a2⟩:=gS.1 hm;obtain⟨l,hl,ho⟩:=a1 z H;exact (u.ownb z.1 z.2 l hl ho k a2).2.2 b (X b R) e
     omega
    ·have:=Gg.2 h7;omega
   ·rcases a9 k J with ⟨z,H,a2⟩|⟨b,R,e⟩
    ·obtain⟨l,hl,ho⟩:=a1 z H;have h9:=u.ownb z.1 z.2 l hl ho k a2;refine⟨a4 k (u.own_lt hl ho k a2) h9.2.1,?_⟩;rintro (hn|⟨z',Z,a3⟩)
     ·exact h9.1 hn
     ·obtain⟨l',ad,ay⟩:=a0 z' Z;obtain⟨e1,e2⟩:=u.sep z.1 z.2 l z'.1 z'.2 l' hl ho ad ay k a2 a3;exact oU b6 z' Z (by rw[show z'=z from Prod.ext e1.symm e2.symm];exact H)
    ·subst e;have h9:=u.box b R;refine⟨a4 _ (u.box_lt R) h9.2,?_⟩;rintro (hn|⟨z',Z,a3⟩)
     ·exact h9.1 hn
     ·obtain⟨l',ad,ay⟩:=a0 z' Z;exact (u.ownb z'.1 z'.2 l' ad ay _ a3).2.2 b R rfl
 ·cases r
theorem kN:∀ {ps:List PK} {u:List Value} {t:Nat} {z:Nat×Value},z∈eH t ps u->z.1∈gR t ps
 |[],_,_,_,h=>by simp[eH]at h
 |r::ps,[],_,_,h=>by cases r <;> simp[eH]at h
 |r::ps,v::u,t,z,h=>by
  cases r <;> simp only[eH,gR,FX]at h ⊢ <;> first
   |exact kN h
   |exact h.imp (λe=>by rw[e]) kN
theorem kO:∀ {ps:List PK} {u:List Value} {t:Nat} {z:Nat×Nat},z∈eG t ps u->z.1∈bM t ps
 |[],_,_,_,h=>by simp[eG]at h
 |r::ps,[],_,_,h=>by cases r <;> simp[eG]at h
 |r::ps,v::u,t,z,h=>by
  cases r <;> simp only[eG,bM,FX]at h ⊢ <;> first
   |exact kO h
   |exact h.imp (λe=>by rw[e]) kO
theorem c7 {f:FuncId}{fn:Func}{c:Code}(z:P.funcs[f]?=some fn)(H:(fn.name== "runtime.NumGoroutine")=false) (y:fn.body=some c):fR P f:=by
 intro u w;have r:fn.name≠ "runtime.NumGoroutine" := by simpa using H
 simp[callFunc,z,r,y]
theorem qo (hT:TOk P T)(hΓ:∀ c∈Γ,bI P c)(Y:P.follows .mixedOrders=true){c:Ctr}{fn:Func}(hf:P.funcs[c.f]?=some fn)(hn:(fn.name== "runtime.NumGoroutine")=false)
  {L:List (Nat×List (Nat×List Coe))} {M:Nat} (O:fn.body.isSome=true) (R:∀ x,evF Γ T L M fn c.ps c.rs c.fresh x=c.den x):bI P c:=by
 obtain⟨u,O⟩:=Option.isSome_iff_exists.1 O;refine⟨c7 hf hn O,λw ro x vs a1 y H a5 a4 J=>?_⟩;rw[<- R]at J;unfold evF at J;simp only[O]at J;cases r:d7 fn.ntmps (gR 0 c.ps) u&&Gu c.ps.length fn.ntmps&&Gu fn.ntmps GH&&rE c.rs&&dD L (bM 0 c.ps) u with
 |false=>simp[r]at J
 |true =>
  simp only[r,cond_true]at J;simp only[FL]at r;obtain⟨⟨⟨⟨h1,h2⟩,h3⟩,h4⟩,h5⟩:=r;have h2:=GC h2;have h3:=GC h3;have hV:aA (gN w ro c.ps vs a1 fn.ntmps):=⟨λk hk=>a5 k hk,h3⟩;have Z:=wO (P:=P) (ro:=ro) H a4 h2 h3;refine calls_of_wp hf O ?_;rw[G7];refine tH hV hT hΓ Y (λz hz=>kO hz) (nt:=fn.ntmps) (fix:=gR 0 c.ps) rfl (λz hz=>kN hz) u h1 h5 _ _ y _ J (λex s1 X a' w' hr=>?_) _ _ Z;obtain⟨a3,v,a0,I⟩:=zD hT h4 hV H h2 X hr;have a2:a'.defers=[]:=by obtain⟨W,hr⟩:=hr;exact hr.df
  rcases a3 with rfl|rfl <;> exact⟨a2,v,a0,I⟩
end
section
variable {P:Program}
def szB (P:Program)(t:TypeId)(n:Nat):Bool :=
 match P.info? t with
 |some i=>FS i.size n
 |none=>false
theorem gz {t:TypeId}{n:Nat}(h:szB P t n=true):bW P t n:=by
 unfold szB at h;unfold bW;split at h
 ·rename_i i r;rw[r];simp only[F9];rw[FQ h]
 ·cases h
def vi (P:Program)(t:TypeId)(agg:Bool):Bool :=
 match P.underlying t with
 |some (.struct _)|some (.array _ _)=>agg
 |some _=>!agg
 |none=>false
theorem se {t:TypeId}{agg:Bool}(h:vi P t agg=true):(P.underlying t).map (λd=>match d with|.struct _|.array _ _=>true|_=>false)=some agg:=by
 unfold vi at h;split at h
 ·rename_i r;rw[r];simp[h]
 ·rename_i r;rw[r];simp[h]
 ·rename_i d u y r;rw[r];simp only[F9,FJ];cases agg with
  |true=>cases h
  |false =>
   cases d <;> first|rfl|(exact absurd r (u _))|(exact absurd r (y _ _))
 ·cases h
theorem Cg {t:TypeId}{agg:Bool}(h:(P.underlying t).map (λd=>match d with|.struct _|.array _ _=>true|_=>false)=some agg)(w:World):(isAgg t).run P w=.ok agg w:=by
 unfold isAgg;cases r:P.underlying t with
 |none=>simp[r]at h
 |some u =>
  rw[r]at h;simp only[F9,FJ]at h;subst h;rw[GV,run_underlying r w];cases u <;> rfl
def my (P:Program)(f:Field)(off:Nat)(b:Ty):Bool:=(f.name != "_")&&FS f.offset off&&szB P f.type b.cells&&vi P f.type b.isAgg
def eqF (P:Program)(g:Ty->TypeId->Bool):List Field->Nat->Ty->Bool
 |[],_,_=>false
 |[f],off,b=>my P f off b&&g b f.type
 |f::r,off,.pair b c=>my P f off b&&g b f.type&&eqF P g r (off+b.cells) c
 |_,_,_=>false
def eqT (P:Program):Nat->Ty->TypeId->Bool
 |0,_,_=>false
 |n+1,a,t=>match a with
  |.int k=>(match P.underlying t with|some (.int k')=>decide (k'=k)|_=>false)
  |.bool=>(match P.underlying t with|some .bool=>true|_=>false)
  |.str=>(match P.underlying t with|some .string=>true|_=>false)
  |.pair b c=>(match P.underlying t with|some (.struct fs)=>!P.stoodInHeld t&&eqF P (eqT P n) fs.toList 0 (.pair b c)|_=>false)
  |_=>false
theorem AN:∀ (b:Ty),b.isAgg=false->b.cells=1
 |.int _,_=>rfl
 |.bool,_=>rfl
 |.str,_=>rfl
 |.list _ _ _,_=>rfl
 |.hdr,_=>rfl
 |.unit,h=>by cases h
 |.pair _ _,h=>by cases h
theorem nD {f:Field}{off:Nat}{b:Ty}(h:my P f off b=true){xs p c s:List Value}(M:xs=p++c++s)(J:p.length=off)(H:c.length=b.cells)(w:World) :
  ∃ v,(part f.type xs.toArray f.offset).run P w=.ok v w/\dr b.isAgg v c:=by
 unfold my at h;simp only[FL]at h;obtain⟨⟨⟨_,y⟩,R⟩,X⟩:=h;have y:=FQ y;have r:=Cg (se X) w;have I:=dH (gz R) w;have u:(xs.drop off).take b.cells=c:=by
  rw[M,GD,<- J,List.drop_left,<- H,List.take_left]
 cases z:b.isAgg with
 |true =>
  rw[z]at r;refine⟨.agg c.toArray,?_,rfl⟩;have e:xs.toArray.extract off (off+b.cells)=c.toArray:=by
   rw[List.extract_toArray,List.extract_eq_take_drop,Nat.add_sub_cancel_left,u]
  simp only[part,GV,r,GP,if_true,I,G6,y,e]
 |false =>
  rw[z]at r;have O:=AN b z;rw[O]at H
  match c,H with
  |[v],_ =>
   refine⟨v,?_,rfl⟩;have e:xs.toArray[off]?=some v:=by
    simp only[List.getElem?_toArray];rw[M,GD,F8 (by omega)];simp[J]
   simp only[part,GV,r,GP,Gb,if_false,y,e,G6]
def Bk (P:Program)(d:Nat)(b:Ty)(t:TypeId):Prop:=∀ (w:World) (G:Nat->Prop) (x y:b.den) (z H:Value) (r u:List Value),dr b.isAgg z r->Rd w G b x r->dr b.isAgg H u->Rd w G b y u ->
 (Op.equalIn d t z H).run P w=.ok (b.eqv x y) w
theorem zE {d:Nat}{g:Ty->TypeId->Bool}(hg:∀ b t,g b t=true->Bk P d b t):∀ (fs:List Field) (off:Nat) (b:Ty),eqF P g fs off b=true->∀ (w:World) (G:Nat->Prop) (x y:b.den) (z I H J:List Value),
  z.length=off->H.length=off->Rd w G b x I->Rd w G b y J->(Op.eqFields d (z++I).toArray (H++J).toArray fs).run P w=.ok (b.eqv x y) w
 |[],_,_,h=>by simp[eqF]at h
 |[f],off,b,h=>by
  intro w G x y z I H J r u hx hy;simp only[eqF,FL]at h;obtain⟨v1,h1,h2⟩:=nD h.1 (xs:=z++I) (p:=z) (c:=I) (s:=[]) (by simp) r hx.len w;obtain⟨v2,h3,h4⟩:=nD h.1 (xs:=H++J) (p:=H) (c:=J) (s:=[]) (by simp) u hy.len w;have h5:=hg b f.type h.2 w G x y v1 v2 I J h2 hx h4 hy;have hn:f.name≠ "_" := by
   have:=h.1;unfold my at this;simp only[FL]at this;simpa using this.1.1.1
  simp only[Op.eqFields,if_pos hn,GV,h1,h3,h5,GP];cases b.eqv x y <;> simp
 |f::M::fs,off,.pair b c,h=>by
  intro w G x y z I H J r u hx hy;simp only[eqF,FL]at h;obtain⟨⟨Y,a0⟩,O⟩:=h;obtain⟨Z,c2,rfl,R,a1⟩:=hx;obtain⟨d1,d2,rfl,X,a2⟩:=hy;obtain⟨v1,h1,h2⟩:=nD Y (xs:=z++(Z++c2)) (p:=z) (c:=Z) (s:=c2) (by simp) r R.len w;obtain⟨v2,h3,h4⟩:=nD Y (xs:=H++(d1++d2)) (p:=H) (c:=d1) (s:=d2) (by simp) u X.len w;have h5:=hg b f.type a0 w G x.1 y.1 v1 v2 Z d1 h2 R h4 X;have h6:=zE hg (M::fs) (off+b.cells) c O w G x.2 y.2 (z++Z) c2 (H++d1) d2 (by simp[r,R.len]) (by simp[u,X.len]) a1 a2;rw[GD,GD]at h6;have hn:f.name≠ "_" := by
   unfold my at Y;simp only[FL]at Y;simpa using Y.1.1.1
  rw[Op.eqFields];simp only[if_pos hn,GV,h1,h3,h5,GP];show _=Result.ok (b.eqv x.1 y.1&&c.eqv x.2 y.2) w;cases b.eqv x.1 y.1 with
  |false=>simp
  |true=>simpa using h6
 |f::M::fs,off,.int _,h=>by simp[eqF]at h
 |f::M::fs,off,.bool,h=>by simp[eqF]at h
 |f::M::fs,off,.str,h=>by simp[eqF]at h
 |f::M::fs,off,.unit,h=>by simp[eqF]at h
 |f::M::fs,off,.list _ _ _,h=>by simp[eqF]at h
 |f::M::fs,off,.hdr,h=>by simp[eqF]at h
theorem tg (x y:ByteArray):(x==y)=decide (x=y):=by
 rw[beq_toListBytes];by_cases h:x=y
 ·subst h;simp
 ·rw[decide_eq_false h];cases r:(x.toList==y.toList) with
  |false=>rfl
  |true =>
   exfalso;apply h;have:=eq_of_beq r;rw[Gy,Gy]at this;apply ByteArray.ext;exact Array.ext' this
theorem zF:∀ (n:Nat) (a:Ty) (t:TypeId),eqT P n a t=true->∀ d,n<=d->Bk P d a t
 |0,_,_,h=>by simp[eqT]at h
 |n+1,a,t,h=>by
  intro d hd;obtain⟨d,rfl⟩:∃ d',d=d'+1:=⟨d-1,by omega⟩;intro w G x y O R I J r z u H;cases a with
  |int k =>
   simp only[eqT]at h;split at h
   ·rename_i Z M;have hk:=of_decide_eq_true h;subst hk;have z:I=[.int Z x]:=z;have H:J=[.int Z y]:=H;have r:I=[O]:=r;have u:J=[R]:=u;rw[z]at r;rw[H]at u;simp at r u;subst r;subst u;simp[Op.equalIn,run_underlying M,Ty.eqv];rfl
   ·cases h
  |bool =>
   simp only[eqT]at h;split at h
   ·rename_i M;have z:I=[.bool x]:=z;have H:J=[.bool y]:=H;have r:I=[O]:=r;have u:J=[R]:=u;rw[z]at r;rw[H]at u;simp at r u;subst r;subst u;simp[Op.equalIn,run_underlying M,Ty.eqv]
   ·cases h
  |str =>
   simp only[eqT]at h;split at h
   ·rename_i M;have z:I=[.string x]:=z;have H:J=[.string y]:=H;have r:I=[O]:=r;have u:J=[R]:=u;rw[z]at r;rw[H]at u;simp at r u;subst r;subst u;have:=tg x y;simp[Op.equalIn,run_underlying M,Ty.eqv,this]
   ·cases h
  |pair b c =>
   simp only[eqT]at h;split at h
   ·rename_i X M;simp only[FL,GL]at h;have Y:P.fieldsOf t=X:=by simp[Program.fieldsOf,M]
    have r:O=.agg I.toArray:=r;have u:R=.agg J.toArray:=u;subst r;subst u;rw[run_equalIn_struct (P:=P) w d t _ _ (by rw[Y];exact M) h.1,Y];have:=zE (P:=P) (λb t hb=>zF n b t hb d (by omega)) X.toList 0 (.pair b c) h.2 w G x y [] I [] J rfl rfl z H;simpa using this
   ·cases h
  |unit=>simp[eqT]at h
  |hdr=>simp[eqT]at h
  |list m E e=>simp[eqT]at h
theorem Ch {t:TypeId}{a:Ty}(h:eqT P 64 a t=true)(z:a.isAgg=true):EqAt P t a:=by
 intro _ w G x y r u H I;have:=zF 64 a t h Op.maxDepth (by decide) w G x y (.agg r.toArray) (.agg u.toArray) r u (by rw[z];rfl) H (by rw[z];rfl) I;exact this
def x7:Value->Value->Bool
 |.int k n,.int u y=>decide (k=u)&&decide (n=y)
 |.bool b,.bool r=>b==r
 |.string s,.string z=>decide (s.toList=z.toList)
 |.slice none 0 0,.slice none 0 0=>true
 |.pointer none,.pointer none=>true
 |.nilFunc,.nilFunc=>true
 |_,_=>false
def lH:List Value->List Value->Bool
 |[],[]=>true
 |v::y,u::r=>x7 v u&&lH y r
 |_,_=>false
theorem AO {v u:Value}(h:x7 v u=true):v=u:=by
 unfold x7 at h;split at h
 ·simp only[FL,decide_eq_true_eq]at h;rw[h.1,h.2]
 ·rw[eq_of_beq h]
 ·rename_i s y;have:s=y:=by
   have r:=tg s y;rw[beq_toListBytes,of_decide_eq_true h]at r;simpa using r.symm
  rw[this]
 ·rfl
 ·rfl
 ·rfl
 ·cases h
theorem nE:∀ {r us:List Value},lH r us=true->r=us
 |[],[],_=>rfl
 |v::r,u::us,h=>by
  simp only[lH,FL]at h;rw[AO h.1,nE h.2]
 |[],_::_,h=>by simp[lH]at h
 |_::_,[],h=>by simp[lH]at h
def zB (P:Program)(t:TypeId)(agg:Bool)(cs:List Value):Bool :=
 match P.info? t with
 |some i=>match i.zero with
  |some (.agg r)=>agg&&lH r.toList cs
  |some v=>!agg&&lH [v] cs
  |none=>false
 |none=>false
theorem zG {t:TypeId}{cs:List Value}(h:zB P t true cs=true):ez P t (.agg cs.toArray):=by
 unfold zB at h;unfold ez;split at h
 ·rename_i i r;rw[r];split at h
  ·rename_i y u;simp only[G0]at h;rw[F9,u,<- nE h,Array.toArray_toList]
  ·cases h
  ·cases h
 ·cases h
theorem mz {t:TypeId}{v:Value}(h:zB P t false [v]=true):ez P t v:=by
 unfold zB at h;unfold ez;split at h
 ·rename_i i r;rw[r];split at h
  ·cases h
  ·rename_i u _ y;simp only[HH,G0]at h;have:=nE h;simp only[Gn,and_true]at this;rw[F9,y,this]
  ·cases h
 ·cases h
def kV (P:Program)(n:Nat):List Field->List (Nat×Nat×Bool)->Bool
 |[],[]=>true
 |f::r,(off,k,agg)::u=>FS f.offset off&&szB P f.type k&&vi P f.type agg&&Gm 0 k&&Gu (off+k) n&&(agg||FS k 1)&&kV P n r u
 |_,_=>false
def isU8:Ty->Bool
 |.int .u8=>true
 |_=>false
def u8B (P:Program)(E:TypeId):Bool :=
 match P.underlying E with
 |some (.int .u8)=>true
 |_=>false
def tiB (P:Program)(t:TypeId):TI->Bool
 |.int k=>(match P.underlying t with|some (.int k')=>decide (k'=k)|_=>false)&&szB P t 1&&zB P t false [.int k 0]
 |.bool=>(match P.underlying t with|some .bool=>true|_=>false)&&szB P t 1&&zB P t false [.bool false]
 |.str=>(match P.underlying t with|some .string=>true|_=>false)&&szB P t 1&&zB P t false [.string ByteArray.empty]
 |.slice E e r=>(match P.underlying t with|some (.slice E')=>FS E' E|_=>false)&&szB P t 1&&zB P t false [.slice none 0 0]&&Gm 0 e.cells&&Gm 0 r &&
  szB P E e.cells&&(match P.info? E with | some i=>FS i.bytes r&&(match i.zero with | some z=>lH z.cells.toList (zeroCells e) | none=>false) | none=>false)&&(!isU8 e||u8B P E)
 |.arr e n=>(match P.underlying t with|some (.array m E)=>FS m n&&szB P E e.cells&&vi P E e.isAgg|_=>false)&&Gm 0 e.cells&&szB P t (n*e.cells)&&zB P t true (List.replicate n (zeroCells e)).flatten
 |.struct a u=>(match P.underlying t with | some (.struct y)=>kV P a.cells y.toList u | _=>false)&&szB P t a.cells&&zB P t true (zeroCells a)&&a.isAgg&&(!a.flat||eqT P 64 a t)&&!P.eqGuardType P.depth t
 |.ptr=>(match P.underlying t with|some (.pointer _)=>true|_=>false)&&szB P t 1&&zB P t false [.pointer none]
 |.fn=>(match P.underlying t with|some (.func _ _ _)=>true|_=>false)&&szB P t 1&&zB P t false [.nilFunc]
 |.none=>true
theorem rx {n:Nat}:∀ {fs:List Field} {xs:List (Nat×Nat×Bool)},kV P n fs xs=true ->
  fs.mapM (λf=>(P.info? f.type).map λi=>(f.offset,i.size))=some (xs.map λx=>(x.1,x.2.1)) /\
  ∀ (i off k:Nat) (agg:Bool),xs[i]?=some (off,k,agg)->(agg=false->k=1)/\∃ f:Field,fs[i]?=some f/\f.offset=off/\0<k/\off+k<=n/\bW P f.type k /\
   (P.underlying f.type).map (λd=>match d with|.struct _|.array _ _=>true|_=>false)=some agg
 |[],[],_=>⟨rfl,λi off k agg h=>by simp at h⟩
 |[],_::_,h=>by simp[kV]at h
 |_::_,[],h=>by simp[kV]at h
 |f::fs,(off,k,agg)::xs,h=>by
  simp only[kV,FL,GY]at h;obtain⟨⟨⟨⟨⟨⟨H,O⟩,R⟩,X⟩,Y⟩,u⟩,Z⟩:=h;have H:=FQ H;have r:=gz O;obtain⟨h8,h9⟩:=rx Z;constructor
  ·unfold bW at r;cases I:P.info? f.type with
   |none=>rw[I]at r;cases r
   |some i =>
    rw[I]at r;simp only[F9,FJ]at r;simp[Gt,I,h8,r,H]
  ·intro i z k' y J;cases i with
   |zero =>
    simp at J;obtain⟨rfl,rfl,rfl⟩:=J;refine⟨λha=>?_,f,rfl,H,by simpa[GT]using X,GC Y,r,se R⟩;rcases u with u|u
    ·rw[ha]at u;cases u
    ·exact FQ u
   |succ i =>
    obtain⟨q1,M,q2,q3⟩:=h9 i z k' y (by simpa using J);exact⟨q1,M,by simpa using q2,q3⟩
theorem C7 {t:TypeId}{i:TI}(h:tiB P t i=true):pR P t i:=by
 cases i with
 |none=>trivial
 |int k =>
  simp only[tiB,FL]at h;obtain⟨⟨r,H⟩,I⟩:=h;split at r
  ·rename_i k' u;rw[of_decide_eq_true r]at u;exact⟨u,gz H,mz I⟩
  ·cases r
 |bool =>
  simp only[tiB,FL]at h;obtain⟨⟨r,H⟩,I⟩:=h;split at r
  ·rename_i u;exact⟨u,gz H,mz I⟩
  ·cases r
 |str =>
  simp only[tiB,FL]at h;obtain⟨⟨r,H⟩,I⟩:=h;split at r
  ·rename_i u;exact⟨u,gz H,mz I⟩
  ·cases r
 |ptr =>
  simp only[tiB,FL]at h;obtain⟨⟨r,H⟩,I⟩:=h;split at r
  ·rename_i e u;exact⟨⟨e,u⟩,gz H,mz I⟩
  ·cases r
 |fn =>
  simp only[tiB,FL]at h;obtain⟨⟨r,H⟩,I⟩:=h;split at r
  ·rename_i x y z u;exact⟨⟨x,y,z,u⟩,gz H,mz I⟩
  ·cases r
 |slice E e a0 =>
  simp only[tiB,FL]at h;obtain⟨⟨⟨⟨⟨⟨⟨r,H⟩,I⟩,X⟩,M⟩,Y⟩,R⟩,J⟩:=h;have a1:e=.int .u8->P.underlying E=some (.int .u8):=by
   intro he;subst he;have J:u8B P E=true:=by simpa[isU8]using J
   unfold u8B at J;split at J
   ·rename_i hq;exact hq
   ·cases J
  split at r
  ·rename_i E' u;rw[FQ r]at u;split at R
   ·rename_i ti Z;simp only[FL]at R;obtain⟨h8,h9⟩:=R;split at h9
    ·rename_i z hz;have O:=gz Y;unfold bW at O;rw[Z]at O;simp only[F9,FJ]at O;exact⟨u,gz H,mz I,by simpa[GT]using X,⟨by simpa[GT]using M,a1⟩,ti,z,Z,O,FQ h8,hz,nE h9⟩
    ·cases h9
   ·cases R
  ·cases r
 |arr e n =>
  simp only[tiB,FL]at h;obtain⟨⟨⟨r,H⟩,I⟩,X⟩:=h;split at r
  ·rename_i m E u;simp only[FL]at r;obtain⟨⟨M,Y⟩,R⟩:=r;rw[FQ M]at u;exact⟨⟨E,u,gz Y,se R⟩,by simpa[GT]using H,gz I,zG X⟩
  ·cases r
 |struct a a2 =>
  simp only[tiB,FL,GY,GL]at h;obtain⟨⟨⟨⟨⟨r,H⟩,I⟩,X⟩,M⟩,Y⟩:=h;split at r
  ·rename_i fs u;obtain⟨R,h8⟩:=rx r;refine⟨⟨fs,u,R,λi off n agg hx=>?_⟩,gz H,zG I,?_,Y⟩
   ·obtain⟨q1,f,q2,q3⟩:=h8 i off n agg hx;exact⟨q1,f,by simpa using q2,q3⟩
   ·intro hf;rcases M with M|M
    ·rw[hf]at M;cases M
    ·exact Ch M X hf
  ·cases r
def tlB (P:Program):List (TypeId×TI)->Bool
 |[]=>true
 |x::l=>tiB P x.1 x.2&&tlB P l
theorem iJ:∀ {l:List (TypeId×TI)},tlB P l=true->TOk P (gJ l):=by
 intro l h;refine tR ?_;induction l with
 |nil=>simp
 |cons x l u =>
  simp only[tlB,FL]at h;intro y r;rcases FX.1 r with rfl|r
  ·exact C7 h.1
  ·exact u h.2 y r
end
section
variable {P:Program} {T:TypeId->TI}
theorem oQ (hT:TOk P T)(X:P.follows .mixedOrders=true){f:FuncId}{fn:Func}(hf:P.funcs[f]?=some fn)(hn:(fn.name== "runtime.NumGoroutine")=false) {E:TypeId} {e:Ty} {rs:List RK} {r:Bool}
  {den:ab [PK.rd (.list false E e)]->Option (ai rs×ag [PK.rd (.list false E e)])} {R0 A B C:Code} {rid:Nat} {o0 o1:Oper} {d0 q t t':Nat} {x0:Operand} {L:List (Nat×List (Nat×List Coe))} {K:Nat}
  (hb:fn.body=some (.seq R0 (.seq (.seq (.region rid #[o0,o1] false) (.cond (.tmp q) A B)) C))) (b1:o0.guard=none) (cb:o0.op=.move x0) (b3:o1.op=.binOp .eql t (.tmp d0) (.const (.slice none 0 0)) t') (c1:o1.guard=none) (a5:o1.dst=some q)
  {E':TypeId} (ht:P.underlying t=some (.slice E'))
  (a2:(d7 fn.ntmps [] (.seq R0 (.seq (.seq (.region rid #[o0,o1] false) (.cond (.tmp q) A B)) C))&&Gu 1 fn.ntmps&&Gu fn.ntmps GH&&rE rs&&dD L [] (.seq R0 (.seq (.seq (.region rid #[o0,o1] false) (.cond (.tmp q) A B)) C)))=true)
  {S1:ab [PK.rd (.list false E e)]->St}
  (b4:∀ x,evK [] T L K R0 (av (dy 0 [PK.rd (.list false E e)] x)) (rB (λs _=>act [] T o0 s (λU=>some (ac U s))) (λ_ _=>none))=some (S1 x))
  (R:∀ x,one (S1 x) (.tmp d0)=.ro true E e x.1)
  (hF:∀ x,evK [] T L K (.seq (.cond (.tmp q) A B) C) (ac (cB (S1 x) [] q .one [.bool false]) (S1 x)) (du T [PK.rd (.list false E e)] rs r fn.results.toList)=den x)
  (ba:∀ x y,x.1=[]->den x=some y->evK [] T L K (.seq (.cond (.tmp q) A B) C) (ac (cB (S1 x) [] q .one [.bool true]) (S1 x)) (du T [PK.rd (.list false E e)] rs r fn.results.toList)=some y) :
  bI P ⟨f,[PK.rd (.list false E e)],rs,r,den⟩:=by
 refine⟨c7 hf hn hb,λw ro x vs u y M c6 c5 hy=>?_⟩;simp only[FL]at a2;obtain⟨⟨⟨⟨h1,h2⟩,h3⟩,h4⟩,h5⟩:=a2;have h2:=GC h2;have h3:=GC h3;have hV:aA (gN w ro [PK.rd (.list false E e)] vs u fn.ntmps):=⟨λk hk=>c6 k hk,h3⟩;have b5:=wO (P:=P) (ro:=ro) M c5 h2 h3;have hnoΓ:∀ c∈([]:List Ctr),bI P c:=by simp
 have a7:∀ z∈(gN w ro [PK.rd (.list false E e)] vs u fn.ntmps).fixb,z.1∈([]:List Nat):=λz hz=>kO (ps:=[PK.rd (.list false E e)]) hz
 have O:∀ z∈(gN w ro [PK.rd (.list false E e)] vs u fn.ntmps).fixt,z.1∈([]:List Nat):=λz hz=>kN (ps:=[PK.rd (.list false E e)]) hz
 simp only[d7,FL]at h1;simp only[dD,FL]at h5;obtain⟨bb,⟨az,bn⟩,bl⟩:=h1;obtain⟨c2,⟨_,c4⟩,c3⟩:=h5;refine calls_of_wp hf hb ?_;rw[G7];generalize b9:bodyPost P fn (uN ⟨f,[PK.rd (.list false E e)],rs,r,den⟩ w ro vs u y)=Q;have hQ:∀ ex s1,du T [PK.rd (.list false E e)] rs r fn.results.toList ex s1=some y->∀ a I,Rel P (gN w ro [PK.rd (.list false E e)] vs u fn.ntmps) s1 a I->Q (exOf ex) a I:=by
  intro ex s1 b0 a' I J;obtain⟨c0,v,Z,a8⟩:=zD (c:=⟨f,[PK.rd (.list false E e)],rs,r,den⟩) hT h4 hV M h2 b0 J;have bo:a'.defers=[]:=by obtain⟨W,J⟩:=J;exact J.df
  subst b9;rcases c0 with rfl|rfl <;> exact⟨bo,v,Z,a8⟩
 have a9:∀ (b:Bool),evK [] T L K (.seq (.cond (.tmp q) A B) C) (ac (cB (S1 x) [] q .one [.bool b]) (S1 x)) (du T [PK.rd (.list false E e)] rs r fn.results.toList)=some y ->
   ∀ a I,Rel P (gN w ro [PK.rd (.list false E e)] vs u fn.ntmps) (ac (cB (S1 x) [] q .one [.bool b]) (S1 x)) a I->(Code.cond (.tmp q) A B).wp P (Exit.then (C.wp P Q) Q) a I:=by
  intro b a6 a I J;refine tH hV hT hnoΓ X a7 (nt:=fn.ntmps) (fix:=[]) rfl O (.cond (.tmp q) A B) (by simp only[d7,FL];exact bn) (by simp only[dD,FL];exact c4) _ _ y _ a6 (λex s1 H a I J=>?_) a I J;cases ex with
  |normal=>exact tH hV hT hnoΓ X a7 (nt:=fn.ntmps) (fix:=[]) rfl O C bl c3 s1 _ y Q H hQ a I J
  |exit b6=>exact hQ (.exit b6) s1 H a I J
  |ret=>exact hQ .ret s1 H a I J
 have a4:∀ (i:Nat) (o:Oper),(#[o0,o1]:Array Oper)[i]?=some o->mf fn.ntmps [] #[o0,o1] o=true:=λi o hi=>by
  simp only[F6]at az;exact az o (by simpa using Gq hi)
 refine wp_seq (tH hV hT hnoΓ X a7 (nt:=fn.ntmps) (fix:=[]) rfl O R0 bb c2 _ _ (S1 x) _ (b4 x) (λex s0 H a I J=>?_) _ _ b5);cases ex with
 |exit b6=>cases H
 |ret=>cases H
 |normal =>
  have H:act [] T o0 s0 (λU=>some (ac U s0))=some (S1 x):=H;rw[uU]at H;obtain⟨U,hU,H⟩:=GE.1 H;simp only[FJ]at H;refine wp_seq (wp_seq (wp_region ?_));have a0:HG (#[o0,o1]:Array Oper).size=[0,1]:=rfl;rw[a0,wpOps_cons];refine xX hV hT hnoΓ (ops:=#[o0,o1]) (i:=0) (o:=o0) rfl (nA rfl O (a4 0 o0 rfl)) (λj cc hg=>by rw[b1]at hg;cases hg) (U:=U) (by unfold nu;rw[b1];exact hU) J (λa1 w1 Y=>?_);rw[H]at Y;rw[wpOps_cons];obtain⟨W1,Y⟩:=Y;have a3:bU (gN w ro [PK.rd (.list false E e)] vs u fn.ntmps) o1:=nA rfl O (a4 1 o1 rfl);obtain⟨h7,_,_,_,_⟩:=bA Y (.tmp d0) (by rw[R x];simp);rw[R x]at h7;obtain⟨A',aw,hv,_,bx⟩:=h7;have hv:a1.eval (.tmp d0)=.slice A' x.1.length aw:=by simpa using hv
  have b2:A'=none->x.1=[]:=λhA=>by
   cases hx:x.1 with
   |nil=>rfl
   |cons y ys =>
    obtain⟨g,o,ay,_⟩:=bx (by rw[hx];simp);rw[hA]at ay;cases ay
  have a6:evK [] T L K (.seq (.cond (.tmp q) A B) C) (ac (cB (S1 x) [] q .one [.bool A'.isNone]) (S1 x)) (du T [PK.rd (.list false E e)] rs r fn.results.toList)=some y:=by
   cases hA:A' with
   |none=>exact ba x y (b2 hA) hy
   |some ad=>exact (hF x).trans hy
  have Z:(execOp a1.eval o1).run P w1=.ok (.value (.bool A'.isNone)) w1:=by
   have:=Lib.run_eql_slice_nil (P:=P) w1 t E' A' x.1.length aw 0 0 ht;have hc:a1.eval (.const (.slice none 0 0))=.slice none 0 0:=rfl;simp[execOp,b3,hv,hc,eqGuard,this]
  unfold wpOp;have hi:(#[o0,o1]:Array Oper)[1]?=some o1:=rfl;simp only[hi];have hw:Region.wanted o1 (yielded #[o0,o1] a1.tmps)=true:=by simp[Region.wanted,c1]
  rw[if_pos hw];refine .inl (ek Z ?_);rw[a5];show Exit.then _ _ _ _ _;exact a9 _ a6 _ _ (Y.putLs hV q (a3 q a5).1 (a3 q a5).2 _ .one [.bool A'.isNone] (.bool A'.isNone) [.bool A'.isNone] (GQ _) rfl ⟨⟨rfl,id,rfl⟩,trivial⟩)
end
open Go.ChangeShapes Go.WideShapes
section
variable {H:Type} {enc:TypeId×Value->H} {P:Program}
theorem nH (J:laidOutB P=true){W W':World}{O:Nat->Bool}:∀ {y:List TypeId} {I:List Value} {ds:List (DataW H)} {ps:List MemPlace},(∀ t∈y,P.readableRec t=true/\t<P.types.size) ->
  DataW.TrodAll enc P W 0 (λ_=>true) true y I ds ps->(∀ x∈ps,W.sameAt W' x)->(∀ x∈ps,O x.block=true)->DataW.TrodAll enc P W' 0 O true y I ds ps
 |[],[],[],_,_,h,_,_=>h
 |[],[],_::_,_,_,h,_,_=>h.elim
 |[],_::_,_,_,_,h,_,_=>h.elim
 |_::_,[],_,_,_,h,_,_=>h.elim
 |_::_,_::_,[],_,_,h,_,_=>h.elim
 |t::y,v::I,d::ds,ps,z,⟨p,q,X,Y,e⟩,M,u=>by
  subst e;refine⟨p,q,WideElems.Trod_stays J (z t (FP ..)).1 (z t (FP ..)).2 X (λx r=>M x (FM _ r)) (λx r=>u x (FM _ r)),
   nH J (λZ R=>z Z (FO _ R)) Y (λx r=>M x (FN _ r)) (λx r=>u x (FN _ r)),rfl⟩
theorem tt (hl:laidOutB P=true){f:Func}{s:ChangeSpec}{u O y M:Bool}{W W':World}{args:Array Value}{ds gs:List (DataW H)}{r:List MemPlace}
  (hW:DataW.Whole enc P f.params.toList s.vars u W args.toList ds gs r) (I:s.vars=[]) (hb:Below W.heap.size W W') (Y:∀ t∈f.params.toList,P.readableRec t=true/\t<P.types.size)
  {tb:TypeId} (Z:f.resultTypes=#[tb]) (z:P.underlying tb=some .bool) (a1:(s.fn H (ds++gs)).results=[.lit (.bool true)]) (R:(s.fn H (ds++gs)).args=ds) (a6:(s.fn H (ds++gs)).vars=[]) :
  s.post enc P f u O y M W args (.bool true) W':=by
 have X:∀ p∈r,p.block<W.heap.size:=λp hp=>by simpa using hW.lt p hp
 have a2:=hW;obtain⟨p,q,hA,hV,e,hz,hn⟩:=hW;rw[I]at hV;obtain⟨rfl,rfl⟩:=trodVars_none hV;simp only[List.append_nil]at e;subst e;have a0:∀ x∈r,W.sameAt W' x:=λx hx=>hb.same (X x hx)
 have a4:(Value.bool true).resultList f.resultTypes.size=[.bool true]:=by rw[Z];rfl
 have hr:∀ (b:Nat) (J:Nat->Bool) (hd:Bool),DataW.TrodAll enc P W' b J hd f.resultTypes.toList ((Value.bool true).resultList f.resultTypes.size) (s.fn H (ds++[])).results []:=by
  intro b J hd;rw[a4,a1,Z];exact trodAll_mk1 (shut_bool z true)
 have ha:∀ (J:Nat->Bool),(∀ x∈r,J x.block=true)->DataW.TrodAll enc P W' 0 J true f.params.toList args.toList (s.fn H (ds++[])).args r:=by
  intro J a5;rw[R];exact nH hl Y hA a0 a5
 have hv:∀ (J:Nat->Bool),DataW.TrodVars enc P W' J s.vars (s.fn H (ds++[])).vars []:=by
  intro J;rw[I,a6];rfl
 refine⟨ds,[],r,[],r,[],a2,hr _ _ _,ha _ (λx hx=>by simpa using X x hx),hv _,hb.frame _,λ_=>⟨ok_one Z rfl (okWide_bool_mk z true),_,_,([]++r)++[],⟨[]++r,[],trodAll_append (ha _ (λ_ _=>rfl)) (hr _ _ _),hv _,rfl,?_,?_⟩,?_⟩⟩
 ·intro b off hp;have hp:MemPlace.cell b off∈r:=by simpa using hp
  rw[hb.frozen (p:=⟨b,off,none⟩) (X _ hp)];exact hz b off hp
 ·intro a3;have:=hn a3;simpa using this
 ·intro x hx _;simpa using hx
end
section
variable {H:Type} {enc:TypeId×Value->H} {P:Program} {w:World} {base:Nat} {spare:Nat->Bool} {held:Bool}
def shF (P:Program)(g:Ty->TypeId->Bool):List Field->Nat->Ty->Bool
 |[],_,_=>false
 |[f],off,b=>FS f.offset off&&FS (P.cellsOf f.type) b.cells&&g b f.type
 |f::r,off,.pair b c=>FS f.offset off&&FS (P.cellsOf f.type) b.cells&&g b f.type&&shF P g r (off+b.cells) c
 |_,_,_=>false
def shT (P:Program):Nat->Ty->TypeId->Bool
 |0,_,_=>false
 |n+1,a,t=>match a with
  |.int k=>(match P.underlying t with|some (.int k')=>decide (k'=k)|_=>false)
  |.bool=>(match P.underlying t with|some .bool=>true|_=>false)
  |.str=>(match P.underlying t with|some .string=>true|_=>false)
  |.pair b c=>(match P.underlying t with|some (.struct fs)=>shF P (shT P n) fs.toList 0 (.pair b c)&&FS (P.cellsOf t) (b.cells+c.cells)|_=>false)
  |.list _ E e=>(match P.underlying t with|some (.slice E')=>FS E' E&&FS (P.cellsOf E) e.cells&&Gm 0 e.cells&&shT P n e E|_=>false)
  |.unit=>false
  |.hdr=>false
def Sm:(a:Ty)->a.den->Prop
 |.int k,n=>(Lit.int k n).wf=true
 |.pair a b,x=>Sm a x.1/\Sm b x.2
 |.list _ _ e,r=>r.length<=maxLen/\∀ x∈(r:List e.den),Sm e x
 |.bool,_=>True
 |.str,s=>s.size<=maxLen
 |.unit,_=>True
 |.hdr,_=>True
theorem lI {α β:Type}{f:α->Option β}:∀ (l:List α) (r:List β),l.mapM f=some r->r.length=l.length/\∀ (i:Nat) (x:α),l[i]?=some x->∃ y,f x=some y/\r[i]?=some y
 |[],r,h=>by
  simp at h;subst h;exact⟨rfl,λi x R=>by simp at R⟩
 |x::l,r,h=>by
  rw[Gt]at h;cases z:f x with
  |none=>rw[z]at h;cases h
  |some y =>
   rw[z]at h;cases I:l.mapM f with
   |none=>rw[I]at h;cases h
   |some X =>
    rw[I]at h;cases h;obtain⟨M,O⟩:=lI l X I;refine⟨by simp[M],λi u J=>?_⟩;cases i with
    |zero=>simp at J;subst J;exact⟨y,z,rfl⟩
    |succ i=>simpa using O i u (by simpa using J)
theorem th {a:Addr}{n:Nat}{cs:List Value}(h:w.cells? base a n=some cs):base<=a.block/\cs.length=n/\∀ i u,cs[i]?=some u->w.cell? (a.add i)=some u:=by
 unfold World.cells? at h;split at h
 ·rename_i O;obtain⟨r,J⟩:=lI _ _ h;refine⟨O,by simpa using r,λi u I=>?_⟩;have R:i<n:=by have:=(FT.1 I).1;rw[r]at this;simpa using this
  obtain⟨y,M,z⟩:=J i i (by simp[R]);rw[I]at z;cases z;exact M
 ·cases h
theorem pM {g:Ty->TypeId->Bool}{rd:TypeId->List Value->Option (DataW H×List MemPlace)}
  (X:∀ b t,g b t=true->∀ cs d,rd t cs=some d->∃ x:b.den,Rd w (λk=>k<w.heap.size) b x cs/\Sm b x) :
  ∀ (fs:List Field) (off:Nat) (b:Ty),shF P g fs off b=true->∀ (cs:List Value),cs.length=off+b.cells ->
   (∀ f∈fs,∃ d,rd f.type ((cs.drop f.offset).take (P.cellsOf f.type))=some d)->∃ x:b.den,Rd w (λk=>k<w.heap.size) b x (cs.drop off)/\Sm b x
 |[],_,_,h=>by simp[shF]at h
 |[f],off,b,h=>by
  intro cs I M;simp only[shF,FL]at h;obtain⟨⟨u,z⟩,O⟩:=h;have u:=FQ u;have z:=FQ z;obtain⟨d,J⟩:=M f (FP ..);rw[u,z,List.take_of_length_le (by simp;omega)]at J;exact X b f.type O _ d J
 |f::r::fs,off,.pair b c,h=>by
  intro cs I M;simp only[shF,FL]at h;obtain⟨⟨⟨u,z⟩,O⟩,h4⟩:=h;have u:=FQ u;have z:=FQ z;have I:cs.length=off+(b.cells+c.cells):=I;obtain⟨d,J⟩:=M f (FP ..);rw[u,z]at J;obtain⟨x,hx,Y⟩:=X b f.type O _ d J;obtain⟨y,hy,Z⟩:=pM X (r::fs) (off+b.cells) c h4 cs (by omega) (λf0 R=>M f0 (FO _ R));refine⟨(x,y),⟨_,_,?_,hx,hy⟩,Y,Z⟩;rw[<- Gr,List.take_append_drop]
 |f::r::fs,off,.int _,h=>by simp[shF]at h
 |f::r::fs,off,.bool,h=>by simp[shF]at h
 |f::r::fs,off,.str,h=>by simp[shF]at h
 |f::r::fs,off,.unit,h=>by simp[shF]at h
 |f::r::fs,off,.list _ _ _,h=>by simp[shF]at h
 |f::r::fs,off,.hdr,h=>by simp[shF]at h
theorem pN {β:Type}(Q:Nat->β->Prop):∀ (n:Nat),(∀ i,i<n->∃ x,Q i x)->∃ u:List β,u.length=n/\∀ i x,u[i]?=some x->Q i x
 |0,_=>⟨[],rfl,λi x h=>by simp at h⟩
 |n+1,h=>by
  obtain⟨u,I,J⟩:=pN Q n (λi M=>h i (by omega));obtain⟨x,O⟩:=h n (by omega);refine⟨u++[x],by simp[I],λi y r=>?_⟩;by_cases M:i<n
  ·rw[GA (by omega)]at r;exact J i y r
  ·have z:i<(u++[x]).length:=(FT.1 r).1;have:i=n:=by simp at z;omega
   subst this;rw[F8 (by omega),I,Nat.sub_self]at r;simp at r;subst r;exact O
theorem sf:∀ (n:Nat) (a:Ty) (t:TypeId),shT P n a t=true->∀ (I:Nat) (cs:List Value) (d:DataW H×List MemPlace),DataW.trod enc P w base spare held I t cs=some d ->
    ∃ x:a.den,Rd w (λk=>k<w.heap.size) a x cs/\Sm a x
  |0,_,_,h=>by simp[shT]at h
  |n+1,a,t,h=>by
    intro I cs d z;cases I with
    |zero=>simp[DataW.trod]at z
    |succ I =>
      cases a with
      |int k =>
        simp only[shT]at h;split at h
        · rename_i k' O
          have hk:=of_decide_eq_true h;subst hk;simp only[DataW.trod,O]at z;split at z <;> first|(rename_i M;cases M;done)|skip
          all_goals first
            | (rename_i k1 k2 m J
               cases J;split at z
               · rename_i hw
                 obtain⟨rfl,hw⟩:=hw;exact⟨m,rfl,hw⟩
               · cases z)
            |cases z
        · cases h
      |bool =>
        simp only[shT]at h;split at h
        · rename_i O
          simp only[DataW.trod,O]at z;split at z <;> first|(rename_i M;cases M;done)|skip
          all_goals first
            |(rename_i b J;exact⟨b,rfl,trivial⟩)
            |cases z
        · cases h
      |str =>
        simp only[shT]at h;split at h
        · rename_i O
          simp only[DataW.trod,O]at z;split at z <;> first|(rename_i M;cases M;done)|skip
          all_goals first
            | (rename_i b J
               split at z
               · rename_i hb
                 exact⟨b,rfl,hb⟩
               · cases z)
            |cases z
        · cases h
      |unit=>simp[shT]at h
      |hdr=>simp[shT]at h
      |pair b c =>
        simp only[shT]at h;split at h
        · rename_i fs O
          simp only[FL]at h;obtain⟨h1,X⟩:=h;have X:=FQ X;simp only[DataW.trod,O]at z;split at z
          · rename_i a4
            simp only[FR]at z;obtain⟨ys,b1,_⟩:=z;obtain⟨h3,h4⟩:=lI _ _ b1;have:=pM (w:=w) (rd:=DataW.trod enc P w base spare held I) (λb t hb cs d z=>sf n b t hb I cs d z) fs.toList 0 (.pair b c) h1 cs (by rw[a4,X,GR];rfl) (λf hf=>by
              obtain⟨i,hi,e⟩:=Gz hf;obtain⟨y,h5,_⟩:=h4 i f (by rw[F0 hi,e]);exact⟨y,h5⟩)
            simpa using this
          · cases z
        · cases h
      |list m E e =>
        simp only[shT]at h;split at h
        · rename_i E' O
          simp only[FL]at h;obtain⟨⟨⟨h1,X⟩,h3⟩,h4⟩:=h;have h1:=FQ h1;subst h1;have X:=FQ X;have h3:0<e.cells:=by simpa[GT]using h3
          simp only[DataW.trod,O]at z;split at z <;> first|(rename_i M;cases M;done)|skip
          all_goals first
            |cases z;done
            |skip
          · exact⟨[],Rd.nil w _ m _ e,HC _,by simp⟩
          · rename_i E2 R a7 a8 J
            cases J;split at z
            · rename_i hc
              obtain⟨a9,b5,b4⟩:=hc;obtain⟨b2,a3,_⟩:=GE.1 z;obtain⟨h5,h6⟩:=lI _ _ a3;have aw:∀ i,i<a7->∃ x:e.den,∃ c,w.cells? base (R.add (i*e.cells)) e.cells=some c/\Rd w (λk=>k<w.heap.size) e x c/\Sm e x:=by
                intro i hi;obtain⟨y,h7,_⟩:=h6 i i (by simp[hi]);obtain⟨c,h8,h9⟩:=GE.1 h7;rw[X]at h8;obtain⟨x,hx,az⟩:=sf n e _ h4 I c y h9;exact⟨x,c,h8,hx,az⟩
              obtain⟨xs,b0,a1⟩:=pN (λi (x:e.den)=>∃ c,w.cells? base (R.add (i*e.cells)) e.cells=some c/\Rd w (λk=>k<w.heap.size) e x c/\Sm e x) a7 aw;refine⟨xs,⟨some R,a8,by rw[b0],by omega,λhp=>?_⟩,by omega,λx hx=>?_⟩
              · have ay:0<xs.length:=hp
                obtain⟨c,Y,a2,_⟩:=a1 0 xs[0] (F0 ay);obtain⟨_,b3,Z⟩:=th Y;have h0:0<c.length:=by omega
                have r:=Z 0 c[0] (F0 h0);have e0:(R.add (0*e.cells)).add 0=R:=by simp[Addr.add]
                rw[e0]at r;have a0:R.spot=none/\R.block<w.heap.size:=by
                  unfold World.cell? at r;split at r
                  · rename_i hh
                    split at r
                    · cases r
                    · rename_i hs
                      refine⟨by simpa using hs,(Gd.1 hh).1⟩
                  · cases r
                obtain⟨g,o,sp⟩:=R;obtain⟨a5,a6⟩:=a0;simp only at a5 a6;subst a5;refine⟨g,o,rfl,a6,λj x hj=>?_⟩;obtain⟨c,Y,a2,_⟩:=a1 j x hj;obtain⟨_,_,Z⟩:=th Y;refine⟨c,a2,λi u hi=>?_⟩;have:=Z i u hi
                rwa [fD,fD]at this
              · obtain⟨j,hj,e1⟩:=Gz hx
                obtain⟨c,_,_,hs⟩:=a1 j x (by rw[F0 hj,e1]);exact hs
            · cases z
        · cases h
end
section
variable {H:Type} {enc:TypeId×Value->H} {P:Program} {w:World}
theorem AP {n:Nat}{a:Ty}{t:TypeId}(r:shT P (n+1) a t=true){v:Value}{d:DataW H}{p:List MemPlace}(J:DataW.Trod enc P w 0 (λ_=>true) true t v d p){base:Nat}(u:HJ P w .any base t v) :
  ∃ x:a.den,(∃ z,dr a.isAgg v z/\Rd w (λk=>k<w.heap.size) a x z)/\Sm a x:=by
 obtain⟨I,J⟩:=J;obtain⟨x,R,M⟩:=sf (n+1) a t r I _ _ J;refine⟨x,⟨v.cells.toList,?_,R⟩,M⟩;cases a with
 |int k =>
  simp only[shT]at r;split at r
  ·rename_i k' y;obtain⟨n,rfl⟩:=okWide_int y u;rfl
  ·cases r
 |bool =>
  simp only[shT]at r;split at r
  ·rename_i y;obtain⟨n,rfl⟩:=okWide_bool y u;rfl
  ·cases r
 |str =>
  simp only[shT]at r;split at r
  ·rename_i y;obtain⟨n,rfl⟩:=okWide_string y u;rfl
  ·cases r
 |list m E e =>
  simp only[shT]at r;split at r
  ·rename_i Y y;obtain⟨A,X,O,rfl⟩:=okWide_slice y u;rfl
  ·cases r
 |unit=>simp[shT]at r
 |hdr=>simp[shT]at r
 |pair b c =>
  simp only[shT]at r;split at r
  ·rename_i Z y;obtain⟨z,rfl,_⟩:=okWide_struct y u;show Value.agg z=.agg (Value.agg z).cells.toList.toArray;simp[Value.cells]
  ·cases r
def Sms:(as:List Ty)->ab (as.map .rd)->Prop
 |[],_=>True
 |a::as,x=>Sm a x.1/\Sms as x.2
def vj (P:Program):List Ty->List TypeId->Bool
 |[],[]=>true
 |a::as,t::r=>shT P 64 a t&&vj P as r
 |_,_=>false
theorem tj {pr:Nat->Prop}:∀ (as:List Ty) (I:List TypeId) (u:List Value) (ds:List (DataW H)) (ps:List MemPlace),vj P as I=true->DataW.TrodAll enc P w 0 (λ_=>true) true I u ds ps ->
  (∃ r,∀ (j:Nat) (t:TypeId) (v:Value),I[j]?=some t->u[j]?=some v->HJ P w .any r t v)->∃ x:ab (as.map .rd),dp P w (λk=>k<w.heap.size) pr (as.map .rd) x u (as.map λ_=>[])/\Sms as x
 |[],[],[],[],_,_,_,_=>⟨(),⟨rfl,rfl⟩,trivial⟩
 |[],[],[],_::_,_,_,h,_=>h.elim
 |[],[],_::_,_,_,_,h,_=>h.elim
 |[],_::_,_,_,_,h,_,_=>by simp[vj]at h
 |_::_,[],_,_,_,h,_,_=>by simp[vj]at h
 |_::_,_::_,[],_,_,_,h,_=>h.elim
 |_::_,_::_,_::_,[],_,_,h,_=>h.elim
 |a::as,t::I,v::u,d::ds,ps,J,⟨p,q,R,X,_⟩,⟨r,z⟩=>by
  simp only[vj,FL]at J;obtain⟨x,hx,M⟩:=AP (n:=63) J.1 R (z 0 t v rfl rfl);obtain⟨y,hy,O⟩:=tj as I u ds q J.2 X ⟨r,λj t' v' Y Z=>z (j+1) t' v' (by simpa using Y) (by simpa using Z)⟩;exact⟨(x,y),⟨v,u,[],_,rfl,rfl,⟨rfl,hx⟩,hy⟩,M,O⟩
theorem AQ (tys:List Ty):(tys.map λ_=>([]:List Nat)).flatten=[]:=by
 induction tys with
 |nil=>rfl
 |cons a tys r=>simp
theorem zH {f:FuncId}{tys:List Ty}{y:Bool}{den:ab (tys.map PK.rd)->Option (ai [.v .bool]×ag (tys.map PK.rd))}(hs:bI P ⟨f,tys.map .rd,[.v .bool],y,den⟩){x:ab (tys.map .rd)}{vs:List Value}{o:ag (tys.map .rd)}
  (hx:dp P w (λk=>k<w.heap.size) (λk=>k<w.heap.size) (tys.map .rd) x vs (tys.map λ_=>[])) (hd:den x=some ((true,()),o)):Calls P f vs.toArray w (λe w'=>e=.returned (.bool true)/\Below w.heap.size w w'):=by
 have O:=AQ tys;have:=hs.2 w (λk=>k<w.heap.size) x vs _ _ (hx.mono (λ_ h=>h) (λk I=>⟨I,by rw[O];simp⟩)) (λk I=>⟨I,by rw[O];simp⟩) (by rw[O];exact Gf) hd;refine this.mono λe w' hp=>?_
 obtain⟨v,us,N,a2,a3,rfl,r,Z,X,a0,Y,R,_,_,M,_,_⟩:=hp;refine⟨?_,⟨X,a0,Y,Z,λk I=>R k I (by rw[O];simp)⟩⟩;obtain⟨u,a4,b,a1,e1,e2,⟨cs,z,J⟩,e3,e4⟩:=M;subst e3;subst e1;have r:v=u:=r;subst r;have z:cs=[v]:=z;have J:cs=[.bool true]:=J.1;rw[z]at J;simp only[Gn,and_true]at J;rw[J]
end
end Go.Proofs.YtmibehbhnkeaiaaGreatEv
