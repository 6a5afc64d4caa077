/- One operation looks at some slots alone. -/
import Derived.Test.YtaegajachoklkaaGreatE3
import Derived.Laws.StructEq
import Derived.Lib.SliceRun
import Derived.ProofKit
set_option linter.unusedVariables false
set_option linter.unusedSimpArgs false
open Array renaming getElem?_eq_getElem->BS,getD_eq_getD_getElem?->BT,replicate->CI,all_eq_true_iff_forall_mem->CT,getElem?_eq_some_iff->Cb,getElem?_append_left->Cc,getElem?_replicate->Ci,mem_of_getElem?->Co,length_toList->Cu,mem_append->C8
open Bool renaming and_eq_true->BI,not_eq_true'->CK,or_eq_true->CW,false_eq_true->CZ,and_false->Ca,and_true->Ch,true_and->Cy,not_false->DG
open Classical renaming byContradiction->CB
open Go.ByteArray renaming toList_eq->Cw
open Go.Result renaming andThen_ok->CO
open Go.Sem renaming run_bind->CU,run_pure->C5
open Go.Value renaming okWide->DI
open List renaming mem_append->BH,mem_append_left->BJ,mem_append_right->BK,mem_cons_of_mem->BL,mem_cons_self->BM,getElem?_eq_some_iff->BQ,mem_map->BR,mem_cons->BU,getD_eq_getElem?_getD->BV,flatten_cons->BW,getElem?_eq_getElem->BX,mem_flatMap->BZ,count_append->B3,mem_singleton_self->B4,count_pos_iff->B5,all_eq_true->B6,map_cons->B7,getElem?_append_right->B8,getElem?_append_left->CA,append_assoc->CD,nil_append->CF,mem_singleton->CG,nodup_cons->CH,length_cons->CM,nodup_append->CN,mem_filter->CR,any_eq_true->CV,map_append->CX,count_cons->CY,nodup_nil->Cd,count_eq_zero->Ce,any_eq_false->Cf,all_cons->Cg,getElem?_cons_succ->Ck,getElem?_eq_none->Cn,drop_drop->Cp,mapM_cons->Cr,map_congr_left->Ct,countP_eq_zero->Cv,getElem_of_mem->Cx,set_cons_succ->Cz,find?_eq_none->C3,getElem?_map->C4,size_toArray->C6,mem_toArray->C7,countP_cons->C9,foldl_cons->DD,range->DF,map_nil->DH
open List.cons renaming injEq->Cm
open Nat renaming eq_of_beq_eq_true->BN,beq->BP,le_of_ble_eq_true->CC,lt_succ_self->CP,zero_add->CQ,blt_eq->CS,blt->Cl,le_refl->Cq,ble->Cs,lt_of_lt_of_le->C0,zero_le->DB,strongRecOn->DE
open Option renaming map_eq_some_iff->BO,map_some->B9,bind_eq_some_iff->CE,bind_assoc->CJ,bind_some->CL,bind_none->Cj,getD_some->DA
open Option.some renaming injEq->BG,inj->DC
open Prod.mk renaming injEq->BY
namespace Go.Proofs.YtaegajachoklkaaGreatEv
open Go Go.RowKit
section
variable {P:Program} {V:Env} {Γ:List Ctr} {T:TypeId->TI} {st st':St} {o:Oper} {R:Type} {κ:Upd->Option R} {r:R}
theorem gB {α β:Type}(b:Bool)(x y:Option α)(f:α->Option β):(bif b then x else y).bind f=bif b then x.bind f else y.bind f:=by cases b <;> rfl
theorem ww {b:Option (Bool×Nat×Nat)}{U:Upd}:j8 st b U κ=(j8 st b U some).bind κ:=by
 unfold j8;split
 ·split
  ·simp only[CJ];congr 1;funext y;split <;> rfl
  ·rfl
 ·rfl
theorem wz {d:Nat}{f:FuncId}{xs:List (aI×List Leaf)}:ju Γ st d f xs κ=(ju Γ st d f xs some).bind κ:=by
 unfold ju;cases lW Γ f with
 |none=>rfl
 |some c =>
  simp only[gA,CJ];congr 1;funext u;cases oL Γ (ac u.1 st) c.ps u.2.1 with
  |none=>rfl
  |some g =>
   simp only[gB,CJ,Cj];congr 2;funext y;exact ww
theorem mH {z:St}{H:Upd}{d:Nat}{E:TypeId}{e:Ty}{u:Nat}{p:Bool}{xs:List e.den}{ks:List (Nat×Nat)}{y:Leaf}:dU st z H d E e u p xs ks y κ=(dU st z H d E e u p xs ks y some).bind κ:=by
 unfold dU;split
 ·simp only[gB,Cj,CL]
 ·rfl
theorem tI {z:Upd}{d:Nat}{E:TypeId}{e:Ty}{u:Nat}{x y:Leaf}:eq st z d E e u x y κ=(eq st z d E e u x y some).bind κ:=by
 unfold eq;split
 ·split
  ·rw[gB,<- mH];rfl
  ·rfl
 ·exact mH
 ·rfl
theorem tJ {d:Nat}{E:TypeId}{e:Ty}{u:Nat}{x y:Leaf}:iw st d E e u x y κ=(iw st d E e u x y some).bind κ:=by
 unfold iw;simp only[hX,gB,CJ,<- tI]
theorem nu {r j i off n:Nat}{p:Bool}{E:TypeId}{e:Ty}{xs:List e.den}{h:Option (Nat×Nat)}{ls:List Leaf}:gG st r j i off n p E e xs h ls κ=(gG st r j i off n p E e xs h ls some).bind κ:=by
 unfold gG;simp only[CJ];congr 1;funext u;split
 ·rw[gB];congr 1;split
  ·rfl
  ·simp only[gB,CL]
 ·rfl
theorem tK:act Γ T o st κ=(act Γ T o st some).bind κ:=by
 cases u:o.op <;> simp only[act,wrU,u] <;> (repeat' split) <;>
  (try simp only[gB,CJ,Cj,CL]) <;> (try rfl) <;> (try exact wz) <;> (try (rw[tJ];done)) <;> (try (rw[nu];done)) <;> (try (rw[<- nu];done))
theorem bk {q:Nat}(h:st' q=st q):∀ (U:Upd),ac U st' q=ac U st q
 |[]=>h
 |(r,c)::U=>by simp only[ac,bk h U]
theorem dS {x:Operand}(h:∀ t,x=.tmp t->st' t=st t):au st' x=au st x:=by
 cases x with
 |tmp t=>simp only[au,h t rfl]
 |_=>rfl
theorem dB {x:Operand}(h:∀ t,x=.tmp t->st' t=st t):one st' x=one st x:=by
 unfold one;rw[dS h]
theorem lq:∀ (y u:List Leaf),aw (y++u)=aw y++aw u
 |[],_=>rfl
 |l::y,u=>by cases l <;> simp[aw,lq y u]
theorem aL (l:Leaf)(ls:List Leaf):aw (l::ls)=aw [l]++aw ls:=lq [l] ls
theorem fI:∀ (n:Nat) (ls:List Leaf) (q:Nat),q∈aw (ls.drop n)->q∈aw ls
 |0,_,_,h=>h
 |n+1,[],_,h=>h
 |n+1,l::ls,q,h=>by rw[aL];exact BK _ (fI n ls q h)
theorem rG:∀ (n:Nat) (ls:List Leaf) (q:Nat),q∈aw (ls.take n)->q∈aw ls
 |0,_,_,h=>by simp[aw]at h
 |n+1,[],_,h=>by simp[aw]at h
 |n+1,l::ls,q,h=>by
  rw[List.take_succ_cons,aL,BH]at h;rw[aL,BH];exact h.imp id (rG n ls q)
theorem qO:∀ {ls:List Leaf} {k:Nat} {l:Leaf},ls[k]?=some l->∀ q∈aw [l],q∈aw ls
 |[],_,_,h,_,_=>by simp at h
 |y::ls,0,l,h,q,u=>by simp at h;subst h;rw[aL];exact BJ _ u
 |y::ls,k+1,l,h,q,u=>by rw[aL];exact BK _ (qO (by simpa using h) q u)
theorem jP {ks:List (Nat×Nat×Nat)}{ep:Nat}(h:∀ q∈EPO::ks.map (·.1),st' q=st q):bq st' ks ep=bq st ks ep:=by
 unfold bq;rw[h EPO (BM ..)];congr 1;induction ks with
 |nil=>rfl
 |cons k ks y =>
  rw[Cg,Cg,y (λq u=>h q (by simp at u ⊢;rcases u with u|u;exact .inl u;exact .inr (.inr u))),h k.1 (by simp)]
theorem is {p:Bool}{ks:List (Nat×Nat×Nat)}{ep:Nat}{u:Option (Nat×Nat×Nat)}{E:TypeId}{e:Ty}{xs:List e.den}:aw [.nal p ks ep u E e xs]=EPO::ks.map (·.1):=by simp[aw]
theorem vm {p:Bool}{ks:List (Nat×Nat×Nat)}{ep:Nat}{a:Ty}{x:a.den}{off:Nat}:aw [.np p ks ep a x off]=EPO::ks.map (·.1):=by simp[aw]
theorem ci {l:Leaf}(h:∀ q∈aw [l],st' q=st q):aC st' l=aC st l:=by
 cases l with
 |al r j v=>simp only[aC,h r (by simp[aw])]
 |nal p z ep u E e y=>rw[is]at h;simp only[aC,jP h]
 |_=>rfl
theorem jZ:∀ (a:Ty) (ls:List Leaf) (p:Bool) (x:a.den) (u:List Leaf),a8 st a ls=some (p,x,u)->∃ I,ls=I++u
 |.int k,ls,p,x,u,h=>by
  simp only[a8]at h;split at h
  ·split at h
   ·simp at h;exact⟨[_],by rw[<- h.2.2];rfl⟩
   ·cases h
  ·cases h
 |.bool,ls,p,x,u,h=>by
  simp only[a8]at h;split at h
  ·simp at h;exact⟨[_],by rw[<- h.2.2];rfl⟩
  ·cases h
 |.str,ls,p,x,u,h=>by
  simp only[a8]at h;split at h
  ·simp at h;exact⟨[_],by rw[<- h.2.2];rfl⟩
  ·cases h
 |.unit,ls,p,x,u,h=>by
  simp only[a8,BG,BY]at h;exact⟨[],by rw[h.2.2];rfl⟩
 |.hdr,ls,p,x,u,h=>by
  simp only[a8]at h;split at h
  ·split at h
   ·simp at h;exact⟨[_],by rw[<- h.2.2];rfl⟩
   ·cases h
  ·cases h
 |.pair a b,ls,p,x,u,h=>by
  simp only[a8]at h;split at h
  ·rename_i q y H Y;split at h
   ·rename_i q' z J M;simp at h;obtain⟨I,Z⟩:=jZ a ls q y H Y;obtain⟨X,O⟩:=jZ b H q' z J M;exact⟨I++X,by rw[Z,O,h.2.2,CD]⟩
   ·cases h
  ·cases h
 |.list m E e,ls,p,x,u,h=>by
  simp only[a8]at h;split at h
  ·split at h
   ·simp at h;exact⟨[_],by rw[<- h.2.2];rfl⟩
   ·cases h
  ·cases h
theorem gC:∀ (a:Ty) (ls:List Leaf),(∀ q∈aw ls,st' q=st q)->a8 st' a ls=a8 st a ls
 |.int k,ls,h=>rfl
 |.bool,ls,h=>rfl
 |.str,ls,h=>rfl
 |.unit,ls,h=>rfl
 |.hdr,ls,h=>by
  cases ls with
  |nil=>rfl
  |cons l ls =>
   simp only[a8];rw[ci (l:=l) (λq z=>h q (by rw[aL];exact BJ _ z))]
 |.pair a b,ls,h=>by
  simp only[a8,gC a ls h];cases I:a8 st a ls with
  |none=>rfl
  |some x =>
   obtain⟨p,y,u⟩:=x;obtain⟨J,H⟩:=jZ a ls p y u I;simp only;rw[gC b u (λq z=>h q (by rw[H,lq];exact BK _ z))]
 |.list m E e,ls,h=>by
  cases ls with
  |nil=>rfl
  |cons l ls =>
   simp only[a8];rw[ci (l:=l) (λq z=>h q (by rw[aL];exact BJ _ z))]
theorem eL {a:Ty}{ls:List Leaf}(h:∀ q∈aw ls,st' q=st q):cO st' a ls=cO st a ls:=by
 unfold cO;rw[gC a ls h]
theorem nv {e:Ty}:∀ (n:Nat) (ls:List Leaf),(∀ q∈aw ls,st' q=st q)->fH st' e n ls=fH st e n ls
 |0,_,_=>rfl
 |n+1,ls,h=>by
  simp only[fH,eL (ls:=ls.take e.cells) (λq u=>h q (rG _ _ q u)),nv n (ls.drop e.cells) (λq u=>h q (fI _ _ q u))]
theorem jo:∀ {ls:List Leaf},(∀ q∈aw ls,st' q=st q)->bz st' ls=bz st ls
 |[],_=>rfl
 |l::ls,h=>by
  have z:=jo (ls:=ls) (λq u=>h q (by rw[aL];exact BK _ u));cases l with
  |al r j v=>simp only[bz,z,ci (l:=.al r j v) (λq u=>h q (by rw[aL];exact BJ _ u))]
  |nal p I ep y E e H=>simp only[bz,z,ci (l:=.nal p I ep y E e H) (λq u=>h q (by rw[aL];exact BJ _ u))]
  |_=>simpa[bz]using z
theorem pd:∀ {ls:List Leaf},(∀ q∈aw ls,st' q=st q)->b6 st' ls=b6 st ls
 |[],_=>rfl
 |l::ls,h=>by
  have y:=pd (ls:=ls) (λq u=>h q (by rw[aL];exact BK _ u));cases l with
  |al r j v=>simp only[b6,y,ci (l:=.al r j v) (λq u=>h q (by rw[aL];exact BJ _ u))]
  |_=>simpa[b6]using y
theorem qP:∀ {ls:List Leaf},(∀ q∈aw ls,st' q=st q)->du st' ls=du st ls
 |[],_=>rfl
 |l::ls,h=>by
  have z:=qP (ls:=ls) (λq u=>h q (by rw[aL];exact BK _ u));cases l with
  |nal p I ep y E e H =>
   cases y with
   |none=>simp only[du,z,ci (l:=.nal p I ep none E e H) (λq u=>h q (by rw[aL];exact BJ _ u))]
   |some x=>simpa[du]using z
  |_=>simpa[du]using z
theorem pe {ls:List Leaf}(h:∀ q∈aw ls,st' q=st q):dH st' ls=dH st ls:=by
 unfold dH;induction ls with
 |nil=>rfl
 |cons l ls y =>
  rw[B7,B7,y (λq u=>h q (by rw[aL];exact BK _ u))];unfold gi;rw[ci (λq u=>h q (by rw[aL];exact BJ _ u))]
theorem ez:∀ {ls:List Leaf} {x:Nat×Nat},x∈bz st ls->x.1∈aw ls
 |[],_,h=>by simp[bz]at h
 |l::ls,x,h=>by
  cases l with
  |al r j v =>
   simp only[bz,BH]at h;rcases h with h|h
   ·split at h
    ·simp at h;subst h;simp[aw]
    ·simp at h
   ·rw[aL];exact BK _ (ez h)
  |nal p H ep y E e z =>
   simp only[bz,BH]at h;rcases h with h|h
   ·split at h
    ·obtain⟨k,u,rfl⟩:=BR.1 h;rw[aL,is];exact BJ _ (BL _ (BR.2 ⟨k,u,rfl⟩))
    ·simp at h
   ·rw[aL];exact BK _ (ez h)
  |_=>(simp only[bz]at h;rw[aL];exact BK _ (ez h))
theorem jp:∀ {ls:List Leaf} {x:Nat×Nat},x∈b6 st ls->x.1∈aw ls
 |[],_,h=>by simp[b6]at h
 |l::ls,x,h=>by
  cases l with
  |al r j v =>
   simp only[b6,BH]at h;rcases h with h|h
   ·split at h
    ·simp at h;subst h;simp[aw]
    ·simp at h
   ·rw[aL];exact BK _ (jp h)
  |_=>(simp only[b6]at h;rw[aL];exact BK _ (jp h))
theorem ib:∀ {ls:List Leaf} {x:Nat×Nat},x∈du st ls->x.1∈aw ls
 |[],_,h=>by simp[du]at h
 |l::ls,x,h=>by
  cases l with
  |nal p I ep u E e H =>
   cases u with
   |none =>
    simp only[du,BH]at h;rcases h with h|h
    ·split at h
     ·obtain⟨k,z,rfl⟩:=BR.1 h;rw[aL,is];exact BJ _ (BL _ (BR.2 ⟨k,z,rfl⟩))
     ·simp at h
    ·rw[aL];exact BK _ (ib h)
   |some y=>(simp only[du]at h;rw[aL];exact BK _ (ib h))
  |_=>(simp only[du]at h;rw[aL];exact BK _ (ib h))
theorem it:∀ {ks:List (Nat×Nat)},(∀ x∈ks,st' x.1=st x.1)->aN st' ks=aN st ks
 |[],_=>rfl
 |(r,j)::ks,h=>by
  simp only[aN,it (ks:=ks) (λx u=>h x (BL _ u)),bk (h (r,j) (BM ..))]
theorem ko:∀ {ks:List (Nat×Nat)},(∀ x∈ks,st' x.1=st x.1)->aD st' ks=aD st ks
 |[],_=>rfl
 |(r,j)::ks,h=>by
  simp only[aD,ko (ks:=ks) (λx u=>h x (BL _ u)),bk (h (r,j) (BM ..))]
theorem tL {ls:List Leaf}(h:∀ q∈aw ls,st' q=st q):mvU st' ls=mvU st ls:=by
 unfold mvU;rw[qP h,pd h,ko (λx u=>h _ (ib u))];simp only;rw[it (λx u=>bk (h _ (jp u)) _)]
theorem qQ {ls:List Leaf}(h:∀ q∈aw ls,st' q=st q):ic st' ls=ic st ls:=by
 unfold ic;rw[qP h,pd h]
theorem jq:∀ (a:Ty) (ls:List Leaf),(∀ q∈aw ls,st' q=st q)->take st' a ls=take st a ls
 |.int k,ls,h=>by simp only[take,gC (.int k) ls h]
 |.bool,ls,h=>by simp only[take,gC .bool ls h]
 |.str,ls,h=>by simp only[take,gC .str ls h]
 |.unit,ls,h=>rfl
 |.hdr,ls,h=>by simp only[take,gC .hdr ls h]
 |.pair a b,ls,h=>by
  simp only[take,jq a ls h];cases H:take st a ls with
  |none=>rfl
  |some x =>
   have z:=kn.take_rest a ls x H;simp only;rw[jq b x.rest (λq y=>h q (fI a.cells ls q (by rw[<- z];exact y)))]
 |.list m E e,ls,h=>by
  cases ls with
  |nil=>rfl
  |cons l ls =>
   have u:∀ q∈aw [l],st' q=st q:=λq y=>h q (by rw[aL];exact BJ _ y)
   simp only[take,ci u,jo u];congr 1;split
   ·rename_i r j v;rw[ci u]
   ·rfl
   ·rfl
theorem gT {a:Ty}{ls:List Leaf}(h:∀ q∈aw ls,st' q=st q):cg st' a ls=cg st a ls:=by
 unfold cg;rw[jq a ls h]
theorem nX:∀ (a:Ty) (ls:List Leaf) (t:cH a.den),take st a ls=some t->(∀ z∈t.frz,z.1∈aw ls)/\∀ z∈t.kill,z.1∈aw ls
 |.int k,ls,t,h=>by simp only[take,BO]at h;obtain⟨_,_,rfl⟩:=h;exact⟨by simp,by simp⟩
 |.bool,ls,t,h=>by simp only[take,BO]at h;obtain⟨_,_,rfl⟩:=h;exact⟨by simp,by simp⟩
 |.str,ls,t,h=>by simp only[take,BO]at h;obtain⟨_,_,rfl⟩:=h;exact⟨by simp,by simp⟩
 |.hdr,ls,t,h=>by simp only[take,BO]at h;obtain⟨_,_,rfl⟩:=h;exact⟨by simp,by simp⟩
 |.unit,ls,t,h=>by simp only[take,BG]at h;subst h;exact⟨by simp,by simp⟩
 |.pair a b,ls,t,h=>by
  simp only[take]at h;split at h
  ·rename_i x M;split at h
   ·rename_i y Y;simp only[BG]at h;subst h;have Z:=kn.take_rest a ls x M;obtain⟨h1,X⟩:=nX a ls x M;obtain⟨H,I⟩:=nX b x.rest y Y;rw[Z]at H I;exact⟨λz u=>(BH.1 u).elim (h1 z) (λu=>fI _ _ _ (H z u)),λz u=>(BH.1 u).elim (X z) (λu=>fI _ _ _ (I z u))⟩
   ·cases h
  ·cases h
 |.list m E e,ls,t,h=>by
  cases ls with
  |nil=>simp[take]at h
  |cons l ls =>
   have J:∀ q∈aw [l],q∈aw (l::ls):=λq O=>by rw[aL];exact BJ _ O
   cases m with
   |false =>
    simp only[take,cond_false]at h;split at h
    ·simp only[BG]at h;subst h;exact⟨λz u=>J _ (ez u),by simp⟩
    ·cases h
   |true =>
    simp only[take,cond_true]at h;split at h
    ·split at h
     ·simp only[BO]at h;obtain⟨_,_,rfl⟩:=h;exact⟨by simp,λz u=>by simp at u;subst u;exact J _ (by simp[aw])⟩
     ·cases h
    ·simp only[BG]at h;subst h;exact⟨by simp,by simp⟩
    ·cases h
theorem jb {a:Ty}{ls:List Leaf}{t:cH a.den}(h:cg st a ls=some t):(∀ z∈t.frz,z.1∈aw ls)/\∀ z∈t.kill,z.1∈aw ls:=by
 unfold cg at h;split at h
 ·rename_i p x f k u;simp only[BG]at h;subst h;exact nX a ls _ u
 ·cases h
theorem kh:∀ {off n:Nat} (a:Ty) (pos:Nat) (x:a.den) (ls:List Leaf) (t:cH a.den),c9 st off n a pos x ls=some t->∃ k,t.rest=ls.drop k
 |off,n,.pair a b,pos,x,ls,t,h=>by
  simp only[c9]at h;split at h
  ·rename_i u y;split at h
   ·rename_i v M;simp only[BG]at h;subst h;obtain⟨z,J⟩:=kh a pos x.1 ls u y;obtain⟨H,I⟩:=kh b (pos+a.cells) x.2 u.rest v M;exact⟨z+H,by show v.rest=_;rw[I,J,Cp]⟩
   ·cases h
  ·cases h
 |off,n,.unit,pos,x,ls,t,h=>by simp only[c9,BG]at h;subst h;exact⟨0,rfl⟩
 |off,n,.hdr,pos,x,ls,t,h=>by simp[c9]at h
 |off,n,.int k,pos,x,ls,t,h=>sc (a:=.int k) h
 |off,n,.bool,pos,x,ls,t,h=>sc (a:=.bool) h
 |off,n,.str,pos,x,ls,t,h=>sc (a:=.str) h
 |off,n,.list m E e,pos,x,ls,t,h=>sc (a:=.list m E e) h
where
 sc {a:Ty} {b:Bool} {x:a.den} {ls:List Leaf} {t:cH a.den} (h:(bif b then take st a ls else some ⟨false,x,[],[],ls⟩)=some t):∃ k,t.rest=ls.drop k:=by
  cases b with
  |true=>exact⟨_,kn.take_rest a ls t h⟩
  |false=>simp only[cond_false,BG]at h;subst h;exact⟨0,rfl⟩
theorem pf:∀ {off n:Nat} (a:Ty) (pos:Nat) (x:a.den) (ls:List Leaf),(∀ q∈aw ls,st' q=st q)->c9 st' off n a pos x ls=c9 st off n a pos x ls
 |off,n,.pair a b,pos,x,ls,h=>by
  simp only[c9,pf a pos x.1 ls h];cases y:c9 st off n a pos x.1 ls with
  |none=>rfl
  |some u =>
   obtain⟨k,e⟩:=kh a pos x.1 ls u y;simp only;rw[pf b (pos+a.cells) x.2 u.rest (λq z=>h q (fI k ls q (by rw[<- e];exact z)))]
 |off,n,.unit,pos,x,ls,h=>rfl
 |off,n,.hdr,pos,x,ls,h=>rfl
 |off,n,.int k,pos,x,ls,h=>by simp only[c9,jq (.int k) ls h]
 |off,n,.bool,pos,x,ls,h=>by simp only[c9,jq .bool ls h]
 |off,n,.str,pos,x,ls,h=>by simp only[c9,jq .str ls h]
 |off,n,.list m E e,pos,x,ls,h=>by simp only[c9,jq (.list m E e) ls h]
theorem pg:∀ {off n:Nat} (a:Ty) (pos:Nat) (x:a.den) (ls:List Leaf) (t:cH a.den),c9 st off n a pos x ls=some t->(∀ z∈t.frz,z.1∈aw ls)/\∀ z∈t.kill,z.1∈aw ls
 |off,n,.pair a b,pos,x,ls,t,h=>by
  simp only[c9]at h;split at h
  ·rename_i u I;split at h
   ·rename_i v X;simp only[BG]at h;subst h;obtain⟨k,e⟩:=kh a pos x.1 ls u I;obtain⟨O,M⟩:=pg a pos x.1 ls u I;obtain⟨H,J⟩:=pg b (pos+a.cells) x.2 u.rest v X;rw[e]at H J;exact⟨λz y=>(BH.1 y).elim (O z) (λy=>fI _ _ _ (H z y)),λz y=>(BH.1 y).elim (M z) (λy=>fI _ _ _ (J z y))⟩
   ·cases h
  ·cases h
 |off,n,.unit,pos,x,ls,t,h=>by simp only[c9,BG]at h;subst h;exact⟨by simp,by simp⟩
 |off,n,.hdr,pos,x,ls,t,h=>by simp[c9]at h
 |off,n,.int k,pos,x,ls,t,h=>sc (a:=.int k) h
 |off,n,.bool,pos,x,ls,t,h=>sc (a:=.bool) h
 |off,n,.str,pos,x,ls,t,h=>sc (a:=.str) h
 |off,n,.list m E e,pos,x,ls,t,h=>sc (a:=.list m E e) h
where
 sc {a:Ty} {b:Bool} {x:a.den} {ls:List Leaf} {t:cH a.den} (h:(bif b then take st a ls else some ⟨false,x,[],[],ls⟩)=some t):(∀ z∈t.frz,z.1∈aw ls)/\∀ z∈t.kill,z.1∈aw ls:=by
  cases b with
  |true=>exact nX a ls t h
  |false=>simp only[cond_false,BG]at h;subst h;exact⟨by simp,by simp⟩
theorem vn {U:Upd}{d:Nat}{sh:aI}{ls:List Leaf}(h:st' d=st d):cf st' U d sh ls=cf st U d sh ls:=by
 simp only[cf,bk h]
theorem rH:∀ {xs:List Operand} {t:Nat},Operand.tmp t∈xs->t∈iy xs
 |[],_,h=>by simp at h
 |x::xs,t,h=>by
  rcases BU.1 h with rfl|h
  ·simp[iy]
  ·have u:=rH h;cases x <;> simp[iy,u]
theorem ny (t n:Nat):∀ (j:Nat) (ls:List Leaf) (q:Nat),q∈aw (bF t n j ls)->q=t\/q∈aw ls
 |_,[],_,h=>by simp[bF,aw]at h
 |j,l::ls,q,h=>by
  simp only[bF]at h;rw[aL,BH]at h;rw[aL,BH];rcases h with h|h
  ·cases l with
   |own p y E e u=>simp[lT,aw]at h;exact .inl h
   |_=>exact .inr (.inl h)
  ·exact (ny t n (j+1) ls q h).imp id .inr
theorem lr:∀ (y u:List Leaf),az (y++u)=az y++az u
 |[],_=>rfl
 |l::y,u=>by cases l <;> simp[az,lr y u]
theorem dr (l:Leaf)(ls:List Leaf):az (l::ls)=az [l]++az ls:=lr [l] ls
theorem fJ:∀ {ls:List Leaf} {q:Nat},q∈aw ls->q∈az ls
 |[],_,h=>by simp[aw]at h
 |l::ls,q,h=>by
  rw[aL,BH]at h;rw[dr,BH];rcases h with h|h
  ·left;cases l with
   |nal p u ep y E e z=>simp[aw]at h;simpa[az]using h
   |np p u ep a x off=>simp[aw]at h;simpa[az]using h
   |_=>simp[aw]at h <;> simp[az,h]
  ·exact .inr (fJ h)
theorem nz (t n:Nat):∀ (j:Nat) (ls:List Leaf) (q:Nat),q∈az (bF t n j ls)->q=t\/q∈az ls
 |_,[],_,h=>by simp[bF,az]at h
 |j,l::ls,q,h=>by
  simp only[bF]at h;rw[dr,BH]at h;rw[dr,BH];rcases h with h|h
  ·cases l with
   |own p y E e u=>simp[lT,az]at h;exact .inl h
   |_=>exact .inr (.inl h)
  ·exact (nz t n (j+1) ls q h).imp id .inr
theorem rI {x:Operand}{q:Nat}(h:q∈aw (au st x).2):∃ t,x=.tmp t/\(q=t\/q∈aw (st t).ls):=by
 cases x with
 |tmp t =>
  simp only[au]at h;cases y:Cl t GH with
  |false=>simp[y,aw]at h
  |true=>simp only[y,cond_true]at h;exact⟨t,rfl,ny _ _ _ _ _ h⟩
 |const v =>
  simp only[au]at h;split at h
  ·rename_i l u;unfold iu at u;split at u <;> simp at u <;> subst u <;> simp[aw]at h
  ·simp[aw]at h
 |func f=>simp[au,aw]at h
 |global g=>simp[au,aw]at h
theorem rJ {x:Operand}{q:Nat}(h:q∈az (au st x).2):∃ t,x=.tmp t/\(q=t\/q∈az (st t).ls):=by
 cases x with
 |tmp t =>
  simp only[au]at h;cases y:Cl t GH with
  |false=>simp[y,az]at h
  |true=>simp only[y,cond_true]at h;exact⟨t,rfl,nz _ _ _ _ _ h⟩
 |const v =>
  simp only[au]at h;split at h
  ·rename_i l u;unfold iu at u;split at u <;> simp at u <;> subst u <;> simp[az]at h
  ·simp[az]at h
 |func f=>simp[au,az]at h
 |global g=>simp[au,az]at h
theorem qR {x:Operand}{l:Leaf}(h:one st x=l)(y:l≠.dead):(au st x).2=[l]:=by
 unfold one at h;split at h
 ·rename_i z u;rw[u,h]
 ·exact absurd h.symm y
theorem jr {x:Operand}{q:Nat}(h:q∈aw [one st x]):q∈aw (au st x).2:=by
 by_cases u:one st x=.dead
 ·rw[u]at h;simp[aw]at h
 ·rw[qR rfl u];exact h
theorem tM {x:Operand}{q:Nat}(h:q∈az [one st x]):q∈az (au st x).2:=by
 by_cases u:one st x=.dead
 ·rw[u]at h;simp[az]at h
 ·rw[qR rfl u];exact h
def jC:Leaf->Bool×Leaf
 |.own _ _ _ e u=>(true,.ep 0 0 0 e.cells u.length 0)
 |l=>(false,l)
def bJ (c:bQ):Nat×aI×List (Bool×Leaf):=(c.ver,c.sh,c.ls.map jC)
theorem tN {l l':Leaf}(h:jC l'=jC l):l'=l\/∃ (p p':Bool) (z y:Option (Nat×Nat)) (E E':TypeId) (e e':Ty) (xs:List e.den) (u:List e'.den),l=.own p z E e xs/\l'=.own p' y E' e' u/\e'.cells=e.cells/\u.length=xs.length:=by
 cases l <;> cases l' <;> simp only[jC,BY,CZ,reduceCtorEq,false_and,and_false,true_and,Leaf.ep.injEq,Bool.true_eq_false]at h <;>
  first
  |exact .inr ⟨_,_,_,_,_,_,_,_,_,_,rfl,rfl,h.1,h.2.1⟩
  |exact .inr ⟨_,_,_,_,_,_,_,_,_,_,rfl,rfl,h.1,h.2⟩
  |exact .inl rfl
  |exact .inl (by rw[h])
  |exact .inl h
  |(obtain⟨rfl,rfl,rfl,rfl,rfl,rfl⟩:=h;exact .inl rfl)
theorem qe (t n:Nat):∀ (j:Nat) (ls u:List Leaf),u.map jC=ls.map jC->bF t n j u=bF t n j ls
 |_,[],[],_=>rfl
 |_,[],_::_,h=>by simp at h
 |_,_::_,[],h=>by simp at h
 |j,l::ls,M::u,h=>by
  simp only[B7,Cm]at h;simp only[bF,qe t n (j+1) ls u h.2];rcases tN h.1 with e|⟨p,O,Y,z,E,X,e,Z,J,y,I,H,_,_⟩
  ·rw[e]
  ·rw[I,H];rfl
theorem yd {x:Operand}(h:∀ t,x=.tmp t->bJ (st' t)=bJ (st t)):au st' x=au st x:=by
 cases x with
 |tmp t =>
  have:=h t rfl;simp only[bJ,BY]at this;simp only[au,this.1,this.2.1,qe _ _ _ _ _ this.2.2]
 |_=>rfl
theorem zS {x:Operand}(h:∀ t,x=.tmp t->bJ (st' t)=bJ (st t)):one st' x=one st x:=by
 unfold one;rw[yd h]
theorem ye {c u:bQ}(h:bJ u=bJ c)(j:Nat):jC (u.ls.getD j .dead)=jC (c.ls.getD j .dead):=by
 simp only[bJ,BY]at h;have:=congrArg (λl=>l[j]?) h.2.2;simp only[C4]at this;rw[BV,BV];generalize u.ls[j]?=a at this;generalize c.ls[j]?=b at this
 match a,b,this with
 |none,none,_=>rfl
 |some x,some y,h=>exact DC h
theorem rK (l:Leaf):lA l=(jC l).1:=by cases l <;> rfl
theorem zw {ks:List (Nat×Nat×Nat)}{ep:Nat}(h:∀ q∈EPO::ks.map (·.1),bJ (st' q)=bJ (st q)):bq st' ks ep=bq st ks ep:=by
 unfold bq;have z:=h EPO (BM ..);simp only[bJ,BY]at z;rw[z.1];congr 1;induction ks with
 |nil=>rfl
 |cons k ks I =>
  have y:=h k.1 (by simp);have H:(st' k.1).ver=(st k.1).ver:=by simp only[bJ,BY]at y;exact y.1
  rw[Cg,Cg,I (λq u=>h q (by simp at u ⊢;rcases u with u|u;exact .inl u;exact .inr (.inr u))),rK,rK,ye y,H]
end
section
variable {P:Program} {V:Env} {Γ:List Ctr} {T:TypeId->TI} {st st':St} {o:Oper} {R:Type} {κ:Upd->Option R} {r:R}
theorem tO {d:Nat}(u:o.dst=some d)(h:∀ q∈fy st o,st' q=st q):st' d=st d/\st' (B0+d)=st (B0+d):=by
 refine⟨h d ?_,h (B0+d) ?_⟩ <;> simp[fy,zF,u]
theorem lu {ls:List Leaf}(h:∀ q∈aw ls,st' q=st q):∀ x∈bz st ls,st' x.1=st x.1:=λx u=>h _ (ez u)
theorem qf {u:List (Nat×Nat×Bool)}:∀ (ps:List (Nat×Operand)) (ls:List Leaf),(∀ x∈ps,∀ t,x.2=.tmp t->st' t=st t)->fw st' u ps ls=fw st u ps ls
 |[],_,_=>rfl
 |(i,x)::ps,ls,h=>by
  simp only[fw,dS (h (i,x) (BM ..))];split
  ·rw[qf ps _ (λy z=>h y (BL _ z))]
  ·rfl
theorem oC {e:Ty}:∀ (ps:List (Nat×Operand)) (k:Nat),(∀ x∈ps,(∀ t,x.2=.tmp t->st' t=st t)/\∀ q∈aw (au st x.2).2,st' q=st q)->eC st' e k ps=eC st e k ps
 |[],_,_=>rfl
 |(i,x)::ps,k,h=>by
  have u:=h (i,x) (BM ..);simp only[eC,dS u.1,gT u.2,oC ps (k+1) (λy z=>h y (BL _ z))]
theorem oD {e:Ty}:∀ (ps:List (Nat×Operand)) (k:Nat) (u:cH (List e.den)),eC st e k ps=some u->∀ z,z∈u.frz\/z∈u.kill->∃ x∈ps,z.1∈aw (au st x.2).2
 |[],_,_,h=>by simp only[eC,BG]at h;subst h;simp
 |(i,x)::ps,k,u,h=>by
  simp only[eC]at h;cases O:BP i k&&decide ((au st x).1=bh e.isAgg) with
  |false=>simp[O]at h
  |true =>
   simp only[O,cond_true]at h;split at h
   ·rename_i t1 M Y J;simp only[BG]at h;subst h;intro z H;obtain⟨X,p2⟩:=jb Y;have I:(z∈t1.frz\/z∈t1.kill)\/(z∈M.frz\/z∈M.kill):=by
     rcases H with H|H <;> rcases BH.1 H with H|H
     ·exact .inl (.inl H)
     ·exact .inr (.inl H)
     ·exact .inl (.inr H)
     ·exact .inr (.inr H)
    rcases I with H|H
    ·exact⟨(i,x),BM ..,H.elim (X z) (p2 z)⟩
    ·obtain⟨y,hy,Z⟩:=oD ps (k+1) M J z H;exact⟨y,BL _ hy,Z⟩
   ·cases h
theorem nA {x:Option Operand}{n:Int}(h:∀ y,x=some y->∀ t,y=.tmp t->st' t=st t):dh st' x n=dh st x n:=by
 cases x with
 |none=>rfl
 |some y=>simp only[dh,dB (h y rfl)]
theorem vo:∀ (xs:List Operand) (u:Option (List Nat)),(∀ x∈xs,∀ t,x=.tmp t->st' t=st t) ->
  xs.foldl (λ (u:Option (List Nat)) x=>u.bind λl=>match one st' x with|.bp b 0=>some (l++[b])|_=>none) u =
  xs.foldl (λ (u:Option (List Nat)) x=>u.bind λl=>match one st x with|.bp b 0=>some (l++[b])|_=>none) u
 |[],_,_=>rfl
 |x::xs,u,h=>by
  simp only[DD,dB (h x (BM ..))];exact vo xs _ (λy z=>h y (BL _ z))
theorem qg {l:Leaf}(I:st' TMP=st TMP)(y:st' EPO=st EPO)(h:∀ q∈aw [l],st' q=st q):ck st' l=ck st l:=by
 cases l with
 |nal p H ep u E e J =>
  rw[is]at h;simp only[ck,jP h,I,y];congr 1
  match H,u,h with
  |[(r,j,n)],some (i,M,off),h =>
   have z:=h r (by simp);simp only[z]
  |[(r,j,n)],none,_=>rfl
  |[],_,_=>rfl
  |_::_::_,_,_=>rfl
 |_=>rfl
theorem oE {l l':Leaf}{U:Upd}(h:ck st l=some (U,l')):∃ n,l'=.al TMP 0 n/\∀ q,q≠TMP->∀ z∈az (ac U st q).ls,z∈az (st q).ls:=by
 cases l with
 |nal p ks ep a0 E e X =>
  simp only[ck]at h;cases H:bq st ks ep with
  |false=>simp[H]at h
  |true =>
   rw[H]at h;simp only[cond_true]at h;split at h
   ·rename_i r j n0 i sz off;split at h
    ·rename_i Z E' O J hg;cases Y:!BP r TMP&&!BP r EPO&&BP sz O.cells with
     |false=>simp[Y]at h
     |true =>
      rw[Y]at h;simp only[cond_true]at h;split at h
      ·split at h
       ·rename_i y _ _ _ _ _;simp only[BG,BY]at h;obtain⟨rfl,rfl⟩:=h;refine⟨_,rfl,λq hq z u=>?_⟩;rw[aQ]at u;rcases aj r q ⟨(st r).ver,(st r).sh,aT (st r).ls j (.own Z (some (i,off)) E' O J)⟩ (ac [(TMP,⟨(st TMP).ver+1,.one,[.own (Z&&O.shy) none _ _ _]⟩),(EPO,bU (st EPO))] st) with ⟨rfl,M⟩|⟨_,M⟩
        ·rw[M]at u;exact refs_set u
        ·rw[M,aQ,aJ hq]at u;rcases aj EPO q (bU (st EPO)) st with ⟨rfl,e1⟩|⟨_,e1⟩ <;> rw[e1]at u <;> exact u
       ·cases h
      ·cases h
    ·cases h
   ·cases h
 |_=>simp[ck]at h
where
 refs_set {I:List Leaf} {j z:Nat} {p:Bool} {hh:Option (Nat×Nat)} {E:TypeId} {e:Ty} {X:List e.den} (h:z∈az (aT I j (.own p hh E e X))):z∈az I:=by
  unfold aT at h;induction I generalizing j with
  |nil=>simpa using h
  |cons l I ih =>
   cases j with
   |zero =>
    rw[List.set_cons_zero,dr,BH]at h;rw[dr,BH];rcases h with h|h
    ·simp[az]at h
    ·exact .inr h
   |succ j =>
    rw[Cz,dr,BH]at h;rw[dr,BH];exact h.imp id ih
theorem uI {l l':Leaf}{U:Upd}(h:ck st l=some (U,l')):az (ac U st TMP).ls=[]:=by
 cases l with
 |nal p M ep I E e X =>
  simp only[ck]at h;cases u:bq st M ep with
  |false=>simp[u]at h
  |true =>
   rw[u]at h;simp only[cond_true]at h;split at h
   ·rename_i r j Y i O off;split at h
    ·rename_i p' E' J H Z;cases z:!BP r TMP&&!BP r EPO&&BP O J.cells with
     |false=>simp[z]at h
     |true =>
      rw[z]at h;simp only[cond_true]at h;have y:TMP≠r:=λe=>by subst e;simp at z
      split at h
      ·split at h
       ·simp only[BG,BY]at h;obtain⟨rfl,rfl⟩:=h;rw[aQ,aJ y,aQ,bj];rfl
       ·cases h
      ·cases h
    ·cases h
   ·cases h
 |_=>simp[ck]at h
theorem wA {E:TypeId}{e:Ty}{y:Leaf}(u:∀ q∈aw [y],st' q=st q):fT st' E e y=fT st E e y:=by
 unfold fT;rw[ci u,jo u,gT u]
theorem wB {E:TypeId}{e:Ty}{y:Leaf}{t:cH (List e.den)}(h:fT st E e y=some t):(∀ z∈t.frz,z.1∈aw [y])/\∀ z∈t.kill,z.1∈aw [y]:=by
 unfold fT at h;cases H:e.flat with
 |true =>
  rw[H]at h;simp only[cond_true,BO]at h;obtain⟨_,_,rfl⟩:=h;exact⟨by simp,by simp⟩
 |false =>
  rw[H]at h;simp only[cond_false]at h;cases u:decide (e.sh=e) with
  |true =>
   rw[u]at h;simp only[cond_true,BO]at h;obtain⟨_,_,rfl⟩:=h;exact⟨λz J=>ez J,by simp⟩
  |false =>
   rw[u]at h;simp only[cond_false,BO]at h;obtain⟨M,I,rfl⟩:=h;exact jb I
theorem lv {u:Upd}{d:Nat}{E:TypeId}{e:Ty}{H:Nat}{p:Bool}{xs:List e.den}{ks:List (Nat×Nat)}{y:Leaf}(O:∀ z∈ks,st' z.1=st z.1)(M:∀ q∈aw [y],st' q=st q)(hd:st' d=st d) :
  dU st' (ac u st') u d E e H p xs ks y κ=dU st (ac u st) u d E e H p xs ks y κ:=by
 unfold dU;have J:∀ q,st' q=st q->ac u st' q=ac u st q:=λq h=>bk h u
 rw[wA (st:=ac u st) (st':=ac u st') (λq Y=>J q (M q Y))];split
 ·rename_i t Z;obtain⟨X,p2⟩:=wB Z;have e1:aD (ac u st') t.frz=aD (ac u st) t.frz:=ko (λz I=>J _ (M _ (X z I)));have e2:∀ U:Upd,aN (ac U (ac u st')) (t.kill++ks)=aN (ac U (ac u st)) (t.kill++ks):=λU=>it (λz I=>bk (J _ ((BH.1 I).elim (λI=>M _ (p2 z I)) (O z))) U)
  simp only[e1,e2,vn hd]
 ·rfl
theorem wC {H:Upd}{d:Nat}{E:TypeId}{e:Ty}{u:Nat}{x y:Leaf}(O:∀ q∈aw [x],st' q=st q)(I:∀ q∈aw [y],st' q=st q)(J:st' d=st d):eq st' H d E e u x y κ=eq st H d E e u x y κ:=by
 unfold eq;cases x with
 |al r j v =>
  have X:st' r=st r:=O r (by simp[aw]);simp only;rw[ci (st:=ac H st) (st':=ac H st') (l:=.al r j v) (λq Y=>bk (O q Y) H)];split
  ·rw[lv (λz M=>by simp at M;subst M;exact X) I J]
  ·rfl
 |nil=>exact lv (by simp) I J
 |_=>rfl
theorem wD {d:Nat}{E:TypeId}{e:Ty}{H:Nat}{x y:Leaf}(M:st' TMP=st TMP)(J:∀ q∈aw [x],st' q=st q)(O:∀ q∈aw [y],st' q=st q)(X:st' d=st d):iw st' d E e H x y κ=iw st d E e H x y κ:=by
 unfold iw;rw[wC J O X,hX,hX];cases hn:jt x with
 |false=>rfl
 |true =>
  simp only[cond_true];have Z:st' EPO=st EPO:=by
   cases x with
   |nal p ks ep a0 E e xs=>exact J EPO (by rw[is];exact BM ..)
   |_=>simp[jt]at hn
  rw[qg M Z J];cases hu:ck st x with
  |none=>rfl
  |some u =>
   obtain⟨n,e1,_⟩:=oE (U:=u.1) (l':=u.2) hu;simp only[CL];rw[e1];unfold eq;simp only;have e2:∀ q,q=TMP->ac u.1 st' q=ac u.1 st q:=λq I=>by rw[I];exact bk M u.1
   rw[ci (st:=ac u.1 st) (st':=ac u.1 st') (l:=.al TMP 0 n) (λq I=>e2 q (by simpa[aw]using I))];split
   ·rw[lv (λz Y=>by simp at Y;subst Y;exact M) O X]
   ·rfl
structure eS (st st':St) (ls:List Leaf):Prop where
 d1:∀ q∈az ls,st' q=st q
 d2:∀ r∈az ls,∀ q∈az (st r).ls,st' q=st q
 d3:∀ r∈az ls,∀ r2∈az (st r).ls,∀ q∈az (st r2).ls,st' q=st q
theorem kJ (p:Bool):∀ (a:Ty) (x:a.den),az (cG p a x)=[]
 |.int _,_=>rfl
 |.bool,_=>rfl
 |.str,_=>rfl
 |.unit,_=>rfl
 |.hdr,_=>rfl
 |.pair a b,x=>by simp[cG,lr,kJ p a,kJ p b]
 |.list _ _ _,_=>rfl
theorem rL {l:Leaf}(h:∀ q∈az [l],st' q=st q):target st' l=target st l:=by
 unfold target;cases l with
 |bp b off =>
  have u:=h b (by simp[az]);cases off with
  |zero=>simp only[u]
  |succ n=>rfl
 |rp p a x off=>cases off <;> rfl
 |_=>rfl
theorem lw {l:Leaf}{ls:List Leaf}(h:target st l=some ls):∀ q∈az ls,q∈az [l]\/∃ r∈az [l],q∈az (st r).ls:=by
 unfold target at h;split at h
 ·rename_i b;cases y:decide ((st b).sh=.agg) with
  |false=>simp[y]at h
  |true =>
   simp only[y,cond_true,BG]at h;subst h;intro q u;rcases nz _ _ _ _ _ u with rfl|u
   ·exact .inl (by simp[az])
   ·exact .inr ⟨b,by simp[az],u⟩
 ·simp only[BG]at h;subst h;intro q u;rw[kJ]at u;simp at u
 ·simp only[BG]at h;subst h;intro q u;simp[az]at u
 ·cases h
theorem jc {x:aI×List Leaf}{q:Nat}(h:q∈az [cl x]):q∈az x.2:=by
 unfold cl at h;split at h
 ·exact h
 ·simp[az]at h
theorem eS.target {l:Leaf}{ls:List Leaf}(h:eS st st' [l])(H:Go.Proofs.YtaegajachoklkaaGreatEv.target st l=some ls):(∀ q∈az ls,st' q=st q)/\∀ r∈az ls,∀ q∈az (st r).ls,st' q=st q:=by
 constructor
 ·intro q y;rcases lw H q y with u|⟨r,u,z⟩
  ·exact h.d1 q u
  ·exact h.d2 r u q z
 ·intro r I q y;rcases lw H r I with u|⟨J,u,z⟩
  ·exact h.d2 r u q y
  ·exact h.d3 J u r z q y
theorem eS.one {x:aI×List Leaf}(h:eS st st' x.2):eS st st' [cl x] :=
 ⟨λq y=>h.d1 q (jc y),λr u=>h.d2 r (jc u),λr u=>h.d3 r (jc u)⟩
def nB {α:Type}(st st':St)(g:Got α):Prop:=(∀ z∈g.frz,st' z.1=st z.1)/\(∀ z∈g.kill,st' z.1=st z.1)
theorem nC {c:Bool×Ty}{l:Leaf}(Y:eS st st' [l]):fu st' c l=fu st c l/\∀ g,fu st c l=some g->nB st st' g:=by
 unfold fu;rw[rL Y.d1];cases I:target st l with
 |none=>cases c.1 <;> exact⟨rfl,by simp⟩
 |some X =>
  have y:=Y.target I;cases hc:c.1 with
  |false =>
   have u:∀ q∈aw X,st' q=st q:=λq H=>y.1 q (fJ H)
   simp only[cond_false,eL u,jo u,true_and];intro g z;simp only[BO]at z;obtain⟨_,_,rfl⟩:=z;exact⟨lu u,by simp[Got.ofRd]⟩
  |true =>
   simp only[cond_true]
   match X,y,I with
   |[],_,_=>exact⟨rfl,by simp⟩
   |_::_::_,_,_=>exact⟨rfl,by simp⟩
   |[Z],y,I =>
    simp only[rL y.1];cases O:target st Z with
    |none=>exact⟨rfl,by simp⟩
    |some J =>
     have u:∀ q∈aw J,st' q=st q:=by
      intro q H;rcases lw O q (fJ H) with M|⟨r,M,h5⟩
      ·exact y.1 q M
      ·exact y.2 r M q h5
     simp only[eL u,jo u,true_and];intro g z;simp only[BO]at z;obtain⟨_,_,rfl⟩:=z;exact⟨lu u,by simp[Got.ofRd]⟩
theorem mw:∀ (cs:List (Bool×Ty)) (ls:List Leaf),(∀ l∈ls,eS st st' [l])->cr st' cs ls=cr st cs ls/\∀ g,cr st cs ls=some g->nB st st' g
 |[],[],_=>⟨rfl,λg u=>by simp only[cr,BG]at u;subst u;exact⟨by simp,by simp⟩⟩
 |[],_::_,_=>⟨rfl,λg u=>by simp[cr]at u⟩
 |_::_,[],_=>⟨rfl,λg u=>by simp[cr]at u⟩
 |c::cs,l::ls,h=>by
  obtain⟨h1,O⟩:=nC (c:=c) (h l (BM ..));obtain⟨J,M⟩:=mw cs ls (λy X=>h y (BL _ X));simp only[cr,h1,J,true_and];intro g u;split at u
  ·rename_i Z I;split at u
   ·rename_i Y H;simp only[BG]at u;subst u;exact⟨λz hz=>(BH.1 hz).elim ((O Z I).1 z) ((M Y H).1 z),by simp⟩
   ·cases u
  ·cases u
theorem oF {c:Nat}{q:Nat}:∀ {ls:List Leaf} {c:Nat},q∈aw (aT ls c .nil)->q∈aw ls
 |[],_,h=>h
 |l::ls,0,h=>by
  rw[show aT (l::ls) 0 .nil=.nil::ls from rfl,aL,BH]at h;rw[aL,BH];rcases h with h|h
  ·simp[aw]at h
  ·exact .inr h
 |l::ls,c+1,h=>by
  rw[show aT (l::ls) (c+1) .nil=l::aT ls c .nil from rfl,aL,BH]at h;rw[aL,BH];exact h.imp id (oF (c:=c))
theorem ph {caps:List Nat}{f:FuncId}(H:eS st st' [.clo f caps]):∀ l∈caps.map (λb=>Leaf.bp b 0),eS st st' [l]:=by
 intro l J;obtain⟨b,I,rfl⟩:=BR.1 J;have u:b∈az [Leaf.clo f caps]:=by simp[az,I]
 have y:∀ r∈az [Leaf.bp b 0],r=b:=λr z=>by simpa[az]using z
 exact⟨λq M=>H.d1 q (by rw[y q M];exact u),λr z=>H.d2 r (by rw[y r z];exact u),λr z=>H.d3 r (by rw[y r z];exact u)⟩
theorem nD {caps:List (Bool×Bool×(a:Ty)×a.den)}:∀ l∈caps.map eT,eS st st' [l]:=by
 intro l z;obtain⟨c,H,rfl⟩:=BR.1 z;have:∀ q,q∉az [eT c]:=by
  intro q u;unfold eT at u;cases y:c.2.1 <;> rw[y]at u <;> simp[az]at u
 exact⟨λq u=>absurd u (this q),λq u=>absurd u (this q),λq u=>absurd u (this q)⟩
theorem eo {pk:PK}{x:aI×List Leaf}(h:eS st st' x.2):bf st' pk x=bf st pk x/\∀ g,bf st pk x=some g->nB st st' g:=by
 have Z:∀ q∈aw x.2,st' q=st q:=λq M=>h.d1 q (fJ M)
 have h1:=h.one;have H:∀ {b:Bool} {a:Ty} {g:Got a.den},(bif b then (cg st a x.2).map (λt=>(⟨t.p,t.val,t.frz,t.kill,[],[]⟩:Got a.den)) else none)=some g->nB st st' g:=by
  intro b a g u;cases b with
  |false=>simp at u
  |true =>
   simp only[cond_true,BO]at u;obtain⟨t,ht,rfl⟩:=u;obtain⟨p1,p2⟩:=jb ht;exact⟨λz J=>Z _ (p1 z J),λz J=>Z _ (p2 z J)⟩
 cases pk with
 |rd a =>
  simp only[bf,eL Z,jo Z,true_and];intro g u;cases O:decide (x.1=bh a.isAgg) with
  |false=>simp[O]at u
  |true =>
   simp only[O,cond_true,BO]at u;obtain⟨y,_,rfl⟩:=u;exact⟨lu Z,by simp[Got.ofRd]⟩
 |own a =>
  simp only[bf,gT Z,true_and];exact λg u=>H u
 |io a =>
  simp only[bf,gT Z,true_and];exact λg u=>H u
 |rref a=>exact nC (c:=(false,a)) h1
 |rref2 a=>exact nC (c:=(true,a)) h1
 |iop a =>
  simp only[bf];split
  ·rename_i b Y;rw[Y]at h1;have O:=h1.d1 b (by simp[az]);have h3:∀ q∈aw (bF b (st b).ver 0 (st b).ls),st' q=st q:=by
    intro q M;rcases ny _ _ _ _ _ M with rfl|M
    ·exact O
    ·exact h1.d2 b (by simp[az]) q (fJ M)
   simp only[O,gT h3,true_and];intro g u;cases a1:decide ((st b).sh=.agg) with
   |false=>simp[a1]at u
   |true =>
    simp only[a1,cond_true,BO]at u;obtain⟨t,ht,rfl⟩:=u;obtain⟨p1,p2⟩:=jb ht;exact⟨λz J=>h3 _ (p1 z J),λz J=>h3 _ (p2 z J)⟩
  ·exact⟨rfl,by simp⟩
 |fn As B =>
  simp only[bf,true_and];intro g u;split at u
  ·split at u
   ·simp only[BG]at u;subst u;exact⟨by simp,by simp⟩
   ·cases u
  ·cases u
 |clo f cs =>
  simp only[bf];split
  ·rename_i f' caps Y;rw[Y]at h1;have:=mw cs _ (ph h1);rw[this.1];refine⟨rfl,λg u=>?_⟩;cases O:BP f' f with
   |false=>simp[O]at u
   |true=>rw[O]at u;exact this.2 g u
  ·rename_i f' caps Y;have:=mw (st:=st) (st':=st') cs _ (nD (caps:=caps));rw[this.1];refine⟨rfl,λg u=>?_⟩;cases O:BP f' f with
   |false=>simp[O]at u
   |true=>rw[O]at u;exact this.2 g u
  ·exact⟨rfl,by simp⟩
 |hol a c off =>
  simp only[bf];have X:∀ q∈aw (aT x.2 c .nil),st' q=st q:=λq M=>Z q (oF (c:=c) M)
  rw[gT X];cases O:decide (x.1=bh a.isAgg) with
  |false=>exact⟨rfl,by simp⟩
  |true =>
   simp only[cond_true];split
   ·rename_i r j v I;have a2:x.2[c]?=some (.al r j v):=by
     rw[BV]at I;cases M:x.2[c]? with
     |none=>rw[M]at I;simp at I
     |some l0=>rw[M]at I;simp at I;rw[I]
    have hr:=λq M=>Z q (qO a2 q M)
    rw[ci hr];refine⟨rfl,λg u=>?_⟩;split at u
    ·rename_i p i o' E e xs _;cases a0:BP o' off with
     |false=>simp[a0]at u
     |true =>
      rw[a0]at u;simp only[cond_true]at u;split at u
      ·rename_i t ht;split at u
       ·simp only[BG]at u;subst u;obtain⟨p1,p2⟩:=jb ht;refine⟨λz J=>X _ (p1 z J),λz J=>?_⟩;rcases BU.1 J with rfl|J
        ·exact hr r (by simp[aw])
        ·exact X _ (p2 z J)
       ·cases u
      ·cases u
    ·cases u
   ·exact⟨rfl,by simp⟩
theorem kK {ga ga':(pk:PK)->aI×List Leaf->Option (Got pk.den)}:∀ (ps:List PK) (xs:List (aI×List Leaf)),
  (∀ x∈xs,∀ pk,ga' pk x=ga pk x/\∀ g,ga pk x=some g->nB st st' g) ->
  bc ga' ps xs=bc ga ps xs/\∀ g,bc ga ps xs=some g->nB st st' g
 |[],[],_=>⟨rfl,λg u=>by simp only[bc,BG]at u;subst u;exact⟨by simp,by simp⟩⟩
 |[],_::_,_=>⟨rfl,λg u=>by simp[bc]at u⟩
 |_::_,[],_=>⟨rfl,λg u=>by simp[bc]at u⟩
 |p::ps,x::xs,h=>by
  obtain⟨h1,O⟩:=h x (BM ..) p;obtain⟨Z,M⟩:=kK ps xs (λy hy=>h y (BL _ hy));simp only[bc,h1,Z,true_and];intro g u;split at u
  ·rename_i Y I;split at u
   ·rename_i X H;simp only[BG]at u;subst u;exact⟨λz J=>(BH.1 J).elim ((O Y I).1 z) ((M X H).1 z),λz J=>(BH.1 J).elim ((O Y I).2 z) ((M X H).2 z)⟩
   ·cases u
  ·cases u
theorem tP {H:List Ty}{B:Ty}{f:FuncId}{ls:List Leaf}(h:∀ l∈ls,eS st st' [l]):kM Γ st' H B f ls=kM Γ st H B f ls/\∀ g,kM Γ st H B f ls=some g->nB st st' g:=by
 have u:=λ (q:List PK)=>kK (st:=st) (st':=st') (ga:=bf st) (ga':=bf st') q (ls.map λl=>(aI.one,[l])) (λy O X=>by
  obtain⟨l,M,rfl⟩:=BR.1 O;exact eo (h l M))
 unfold kM;split
 ·rename_i c Y;unfold sa;simp only[uL,(u _).1,true_and];intro g z;split at z
  ·cases J:(c.ps.drop H.length).all PK.reads&&B.flat&&c.fresh with
   |false=>simp[J]at z
   |true =>
    simp only[J,cond_true]at z;split at z
    ·rename_i g0 I;simp only[BG]at z;subst z;exact⟨((u _).2 g0 I).1,by simp⟩
    ·cases z
  ·cases z
 ·exact⟨rfl,by simp⟩
theorem wE {pk:PK}{x:aI×List Leaf}(h:eS st st' x.2):ca Γ st' pk x=ca Γ st pk x/\∀ g,ca Γ st pk x=some g->nB st st' g:=by
 cases pk with
 |fn O B =>
  simp only[ca];split
  ·rename_i z y;have H:(∃ u,cl x=.clo z.1 u/\z.2=u.map λb=>Leaf.bp b 0)\/∃ u,cl x=.clr z.1 u/\z.2=u.map eT:=by
    generalize cl x=l at y;cases l <;> simp only[vA,BG,reduceCtorEq]at y
    ·subst y;exact .inl ⟨_,rfl,rfl⟩
    ·subst y;exact .inr ⟨_,rfl,rfl⟩
   have J:=h.one;rcases H with ⟨u,H,I⟩|⟨u,H,I⟩
   ·rw[H]at J;rw[I];exact tP (ph J)
   ·rw[I];exact tP nD
  ·exact eo h
 |rd a=>exact eo (pk:=.rd a) h
 |own a=>exact eo (pk:=.own a) h
 |io a=>exact eo (pk:=.io a) h
 |rref a=>exact eo (pk:=.rref a) h
 |rref2 a=>exact eo (pk:=.rref2 a) h
 |iop a=>exact eo (pk:=.iop a) h
 |clo f M=>exact eo (pk:=.clo f M) h
 |hol a c off=>exact eo (pk:=.hol a c off) h
theorem tQ:∀ (u ls:List Leaf),st' EPO=st EPO->(∀ q∈az u,st' q=st q)->b7 st' u ls=b7 st u ls
 |[],_,_,_=>by simp[b7]
 |x::u,[],_,_=>by cases x <;> simp[b7]
 |x::u,l::ls,y,h=>by
  have z:=tQ u ls y (λq I=>h q (by rw[dr];exact BK _ I));cases x with
  |al r j v =>
   have H:st' r=st r:=h r (by simp[az]);simp only[b7,z,bk H,bk y]
  |_=>simp only[b7,z]
theorem qh {p:Bool}:∀ (ps:List PK) (xs:List (aI×List Leaf)) (y:ah ps),st' EPO=st EPO->(∀ x∈xs,∀ q∈az x.2,st' q=st q)->aF st' p ps xs y=aF st p ps xs y
 |[],_,_,_,_=>by simp[aF]
 |I::ps,[],y,_,h=>by cases I <;> simp[aF]
 |I::ps,x::xs,y,M,h=>by
  have J:=λ (y:ah ps)=>qh (p:=p) ps xs y M (λz Y=>h z (BL _ Y))
  have X:=h x (BM ..);cases I with
  |io a =>
   simp only[aF,J];rw[tQ x.2 _ (bk M _) (λq H=>bk (X q H) _)]
  |iop a =>
   simp only[aF,J];have O:∀ q∈az [cl x],st' q=st q:=λq H=>X q (jc H)
   congr 1;split
   ·rename_i b v u;rw[u]at O;rw[bk (O b (by simp[az]))]
   ·rfl
  |_=>exact J _
theorem qi {n q:Nat}:∀ {ls:List Leaf} {k:Nat},q∈az (aT ls k (.al TMP 0 n))->q∈az ls\/q=TMP
 |[],_,h=>.inl h
 |l::ls,0,h=>by
  rw[show aT (l::ls) 0 (.al TMP 0 n)=.al TMP 0 n::ls from rfl,dr,BH]at h;rw[dr,BH];rcases h with h|h
  ·simp[az]at h;exact .inr h
  ·exact .inl (.inr h)
 |l::ls,k+1,h=>by
  rw[show aT (l::ls) (k+1) (.al TMP 0 n)=l::aT ls k (.al TMP 0 n) from rfl,dr,BH]at h;rw[dr,BH];rcases h with h|h
  ·exact .inl (.inl h)
  ·exact (qi h).imp .inr id
theorem pi {U:Upd}{O ls:List Leaf}(hT:st' TMP=st TMP)(u:∀ q,q≠TMP->∀ z∈az (ac U st q).ls,z∈az (st q).ls)(Y:az (ac U st TMP).ls=[])(Z:eS st st' O)(y:∀ q∈az ls,q∈az O\/q=TMP) :
  eS (ac U st) (ac U st') ls:=by
 have H:∀ r z,z∈az (ac U st r).ls->r≠TMP:=λr z hz e=>by subst e;rw[Y]at hz;simp at hz
 refine⟨λq I=>?_,λr hr q I=>?_,λr hr X J q I=>?_⟩
 ·rcases y q I with h|h
  ·exact bk (Z.d1 q h) U
  ·subst h;exact bk hT U
 ·have M:=H r q I;exact bk (Z.d2 r ((y r hr).resolve_right M) q (u r M q I)) U
 ·have M:=H r X J;have h2:=H X q I;exact bk (Z.d3 r ((y r hr).resolve_right M) X (u r M X J) q (u X h2 q I)) U
theorem oG (hT:st' TMP=st TMP)(hE:st' EPO=st EPO):∀ (ps:List PK) (xs:List (aI×List Leaf)),(∀ x∈xs,eS st st' x.2)->cX st' ps xs=cX st ps xs /\
  ∀ (U:Upd) (O:List (aI×List Leaf)) (b:Option (Bool×Nat×Nat)),cX st ps xs=some (U,O,b)->(∀ y∈O,eS (ac U st) (ac U st') y.2)/\(∀ f r j,b=some (f,r,j)->st' r=st r)/\∀ ls,eS st st' ls->eS (ac U st) (ac U st') ls
 |[],xs,h=>⟨rfl,λU O b z=>by
   simp only[cX,BG,BY]at z;obtain⟨rfl,rfl,rfl⟩:=z;exact⟨h,(λ_ _ _ h=>by cases h),λ_ h=>h⟩⟩
 |_::_,[],h=>⟨rfl,λU O b z=>by
   simp only[cX,BG,BY]at z;obtain⟨rfl,rfl,rfl⟩:=z;exact⟨h,(λ_ _ _ h=>by cases h),λ_ h=>h⟩⟩
 |p::ps,x::xs,h=>by
  have hx:=h x (BM ..);obtain⟨i1,i2⟩:=oG hT hE ps xs (λy M=>h y (BL _ M));simp only[cX];cases hk:p.nest x.2 with
  |none =>
   simp only[i1,true_and];intro U O b z;simp only[BO]at z;obtain⟨u,X,z⟩:=z;simp only[BY]at z;obtain⟨rfl,rfl,rfl⟩:=z;obtain⟨j1,j2,j3⟩:=i2 u.1 u.2.1 u.2.2 X;refine⟨λy M=>?_,j2,j3⟩;rcases BU.1 M with rfl|M
   ·exact j3 _ hx
   ·exact j1 y M
  |some k =>
   obtain⟨l,Y,Z⟩:=rD hk;have hg:x.2.getD k .dead=l:=by rw[BV,Y];rfl
   have a0:∀ q∈aw [l],st' q=st q:=λq J=>hx.d1 q (fJ (qO Y q J))
   simp only[hg,qg hT hE a0,true_and];intro U O b z;simp only[BO]at z;obtain⟨u,X,z⟩:=z;simp only[BY]at z;obtain⟨rfl,rfl,rfl⟩:=z;obtain⟨n,e1,H⟩:=oE (U:=u.1) (l':=u.2) X;have I:=uI (U:=u.1) (l':=u.2) X;refine⟨λy M=>?_,λf r j hb=>?_,λls a1=>pi hT H I a1 (λq J=>.inl J)⟩
   ·rcases BU.1 M with rfl|M
    ·refine pi hT H I hx λq J=>?_
     have J:q∈az (aT x.2 k u.2):=J;rw[e1]at J;exact qi J
    ·exact pi hT H I (h y (BL _ M)) (λq J=>.inl J)
   ·simp only[BG,BY]at hb;have hr:r=(kk l).1:=by rw[hb.2]
    rw[hr];refine a0 _ ?_;cases l with
    |nal p ks ep a2 E e xs =>
     cases ks with
     |nil =>
      exfalso;simp only[ck]at X;cases hv:bq st [] ep <;> simp[hv]at X
     |cons k ks=>rw[is];simp[kk]
    |_=>simp[jt]at Z
theorem zx {b:Option (Bool×Nat×Nat)}{U:Upd}(z:st' TMP=st TMP)(u:st' EPO=st EPO)(y:∀ f r j,b=some (f,r,j)->st' r=st r):j8 st' b U κ=j8 st b U κ:=by
 unfold j8;split
 ·rename_i r j;rw[bk (y true r j rfl),bk z,bk u]
 ·rfl
theorem tR {d:Nat}{f:FuncId}{xs:List (aI×List Leaf)}(hT:st' TMP=st TMP)(X:st' EPO=st EPO)(hx:∀ x∈xs,eS st st' x.2)(hd:st' d=st d)(hB:st' (B0+d)=st (B0+d)):ju Γ st' d f xs κ=ju Γ st d f xs κ:=by
 unfold ju;split
 ·rename_i c hc;obtain⟨n1,n2⟩:=oG hT X c.ps xs hx;rw[gA,gA,n1];cases hn:cX st c.ps xs with
  |none=>rfl
  |some u =>
   obtain⟨H,J,b⟩:=u;obtain⟨m1,m2,_⟩:=n2 H J b hn;simp only[CL];have hg:=kK (st:=ac H st) (st':=ac H st') (ga:=ca Γ (ac H st)) (ga':=ca Γ (ac H st')) c.ps J (λx I pk=>wE (m1 x I));simp only[oL,hg.1];split
   ·rename_i g a1;obtain⟨h1,h2⟩:=hg.2 g a1;have O:gF st' d c.rs=gF st d c.rs:=by
     unfold gF;split
     ·rw[hB]
     ·rfl
    have hL:∀ q,ac H st' q=ac H st q->∀ U,ac (U++H) st' q=ac (U++H) st q:=λq h U=>by rw[bC,bC];exact bk h U
    have a2:(bif c.fresh then [] else aD (ac H st') g.frz)=(bif c.fresh then [] else aD (ac H st) g.frz):=by rw[ko h1]
    have hk:∀ (U:Upd),aN (ac U (ac H st')) g.kill=aN (ac U (ac H st)) g.kill:=λU=>it (λz hz=>bk (h2 z hz) U)
    have ho:∀ (U:Upd) (p:Bool) (y:ah c.ps),aF (ac (U++H) st') p c.ps J y=aF (ac (U++H) st) p c.ps J y:=λU p y =>
     qh c.ps J y (hL _ (bk X H) U) (λx I q hq=>hL _ ((m1 x I).d1 q hq) U)
    have M:∀ (U:Upd),(g.frz.map λk=>(k.1,k.2,(ac (U++H) st' k.1).ver))=g.frz.map λk=>(k.1,k.2,(ac (U++H) st k.1).ver):=λU=>Ct λz hz=>by rw[hL _ (h1 z hz) U]
    have Y:∀ U,ac U st' d=ac U st d:=λU=>bk hd U
    have Z:∀ U,ac U st' (B0+d)=ac U st (B0+d):=λU=>bk hB U
    have a0:∀ U,ac U st' EPO=ac U st EPO:=λU=>bk X U
    simp only[O,a2,hk,ho,Y,Z,a0,<- CD,M,zx hT X m2]
   ·rfl
 ·rfl
theorem rM:∀ (u:List Ty) (xs:List (aI×List Leaf)),(∀ x∈xs,∀ q∈aw x.2,st' q=st q)->iN st' u xs=iN st u xs
 |[],[],_=>rfl
 |[],_::_,_=>rfl
 |_::_,[],_=>rfl
 |a::u,x::xs,h=>by
  simp only[iN,eL (h x (BM ..)),rM u xs (λy z=>h y (BL _ z))]
theorem wF {r j i off n:Nat}{p:Bool}{E:TypeId}{e:Ty}{xs:List e.den}{h:Option (Nat×Nat)}{ls:List Leaf}(O:st' r=st r)(I:st' EPO=st EPO)(y:∀ q∈aw ls,st' q=st q):gG st' r j i off n p E e xs h ls κ=gG st r j i off n p E e xs h ls κ:=by
 unfold gG;congr 1;funext u;rw[pf e 0 u ls y];split
 ·rename_i t M;obtain⟨J,Z⟩:=pg e 0 u ls t M;have Y:aD st' t.frz=aD st t.frz:=ko (λz H=>y _ (J z H));have X:∀ U:Upd,aN (ac U st') t.kill=aN (ac U st) t.kill:=λU=>it (λz H=>bk (y _ (Z z H)) U)
  simp only[Y,X,O,bk I]
 ·rfl
end
section
variable {P:Program} {V:Env} {Γ:List Ctr} {T:TypeId->TI} {st st':St} {o:Oper} {R:Type} {κ:Upd->Option R} {r:R}
theorem dt {z:List Nat}(h:∀ q∈z++z.flatMap (λt=>aw (st t).ls),st' q=st q){x:Operand}(H:∀ t,x=.tmp t->t∈z):(∀ t,x=.tmp t->st' t=st t)/\∀ q∈aw (au st x).2,st' q=st q:=by
 refine⟨λt y=>h t (BJ _ (H t y)),λq u=>?_⟩;obtain⟨t,y,u⟩:=rI u;rcases u with rfl|u
 ·exact h q (BJ _ (H q y))
 ·exact h q (BK _ (BZ.2 ⟨t,H t y,u⟩))
theorem nE {z:List Nat}(h:∀ q∈z++z.flatMap (λt=>az (st t).ls),st' q=st q){x:Operand}(H:∀ t,x=.tmp t->t∈z):(∀ t,x=.tmp t->st' t=st t)/\∀ q∈az (au st x).2,st' q=st q:=by
 refine⟨λt y=>h t (BJ _ (H t y)),λq u=>?_⟩;obtain⟨t,y,u⟩:=rJ u;rcases u with rfl|u
 ·exact h q (BJ _ (H q y))
 ·exact h q (BK _ (BZ.2 ⟨t,H t y,u⟩))
theorem qj {y:List Nat}(h:∀ q∈kO st y,st' q=st q){x:Operand}(hx:∀ t,x=.tmp t->t∈y):eS st st' (au st x).2:=by
 have M:∀ q,q∈y->st' q=st q:=λq u=>h q (by simp[kO];exact .inl u)
 have ha:∀ q,q∈y.flatMap (λt=>az (st t).ls)->st' q=st q:=λq u=>h q (by
  unfold kO;exact BJ _ (BJ _ (BK _ u)))
 have X:∀ q,q∈(y.flatMap (λt=>az (st t).ls)).flatMap (λt=>az (st t).ls)->st' q=st q:=λq u=>h q (by
  unfold kO;exact BJ _ (BK _ u))
 have hc:∀ q,q∈((y.flatMap (λt=>az (st t).ls)).flatMap (λt=>az (st t).ls)).flatMap (λt=>az (st t).ls)->st' q=st q:=λq u=>h q (by
  unfold kO;exact BK _ u)
 have Y:∀ r∈az (au st x).2,r∈y\/r∈y.flatMap (λt=>az (st t).ls):=by
  intro r z;obtain⟨t,O,u⟩:=rJ z;rcases u with rfl|u
  ·exact .inl (hx r O)
  ·exact .inr (BZ.2 ⟨t,hx t O,u⟩)
 have Z:∀ r∈az (au st x).2,∀ q∈az (st r).ls,q∈y.flatMap (λt=>az (st t).ls)\/q∈(y.flatMap (λt=>az (st t).ls)).flatMap (λt=>az (st t).ls):=by
  intro r z q u;rcases Y r z with H|H
  ·exact .inl (BZ.2 ⟨r,H,u⟩)
  ·exact .inr (BZ.2 ⟨r,H,u⟩)
 refine⟨λq u=>(Y q u).elim (M q) (ha q),λr z q u=>(Z r z q u).elim (ha q) (X q),λr z J I q u=>?_⟩;rcases Z r z J I with H|H
 ·exact X q (BZ.2 ⟨J,H,u⟩)
 ·exact hc q (BZ.2 ⟨J,H,u⟩)
theorem be {xs:Array Operand}{x:Operand}(h:x∈xs):∀ t,x=.tmp t->t∈iy xs.toList:=λt e=>rH (by rw[<- e];simpa using h)
theorem op_fr (h:∀ q∈fy st o,st' q=st q)(z:∀ x,o.op≠.move x)(H:∀ t x i,o.op≠.indexAddr t x i):∀ q∈cm st o.op,st' q=st q:=λq y=>h q (by
 unfold fy;refine BJ _ ?_;cases u:o.op with
 |move x=>exact absurd u (z x)
 |indexAddr t x i=>exact absurd u (H t x i)
 |_=>rw[u]at y;exact y)
theorem AK {α β:Type}{xs:List α}{n:Int}{K:Option β}:((idx xs n).bind λ_=>K)=if 0<=n/\n<xs.length then K else none:=by
 unfold idx;by_cases u:n<0
 ·rw[if_pos u,if_neg (by omega)];rfl
 ·rw[if_neg u];by_cases y:n.toNat<xs.length
  ·rw[BX y,if_pos (by omega)];rfl
  ·rw[Cn (by omega),if_neg (by omega)];rfl
theorem Bw (h:∀ q∈fy st o,st' q=st q)(hh:∀ q∈e8 st o.op,bJ (st' q)=bJ (st q)):act Γ T o st' κ=act Γ T o st κ:=by
 have M:=op_fr h;have a0:∀ (U:Upd) (d:Nat) (sh:aI) (ls:List Leaf),o.dst=some d->cf st' U d sh ls=cf st U d sh ls:=λU d sh ls hd=>vn (tO hd h).1
 have hB:∀ d,o.dst=some d->st' (B0+d)=st (B0+d):=λd hd=>(tO hd h).2
 have hw:∀ (sh:aI) (ls:List Leaf),wrU o st' κ sh ls=wrU o st κ sh ls:=by
  intro sh ls;unfold wrU;split
  ·rename_i d hd;rw[a0 _ _ _ _ hd]
  ·rfl
 cases I:o.op with
 |move x =>
  simp only[I,e8]at hh;have e:au st' x=au st x:=yd λt Y=>hh t (be (by simp[Op.operands]) t Y)
  simp only[act,I,e,hw]
 |assign x =>
  have H:=M (by simp[I]) (by simp[I]);simp only[I,cm]at H;have J:=dt H (x:=x) (be (by simp[Op.operands]));have e:au st' x=au st x:=dS J.1;simp only[act,I,e,qQ J.2,pe J.2,tL J.2];split
  ·rename_i d hd;rw[a0 _ _ _ _ hd]
  ·rfl
 |pick c x y =>
  have H:=M (by simp[I]) (by simp[I]);simp only[I,cm]at H;have e1:one st' c=one st c:=dB λt Y=>H t (be (by simp[Op.operands]) t Y)
  have e2:au st' x=au st x:=dS λt Y=>H t (be (by simp[Op.operands]) t Y)
  have e3:au st' y=au st y:=dS λt Y=>H t (be (by simp[Op.operands]) t Y)
  simp only[act,I,e1,e2,e3,hw]
 |alloc t =>
  simp only[act,I];split
  ·rename_i d hd;rw[a0 _ _ _ _ hd,hB d hd]
  ·rfl
 |box t x =>
  have H:=M (by simp[I]) (by simp[I]);simp only[I,cm]at H;have J:=dt H (x:=x) (be (by simp[Op.operands]));have e:au st' x=au st x:=dS J.1;have b1:sr st' x=sr st x:=by cases x <;> first|rfl|(simp only[sr];rw[J.1 _ rfl])
  simp only[act,I,e,qQ J.2,pe J.2,tL J.2,b1];split
  ·rename_i d hd;simp only[a0 _ _ _ _ hd,hB d hd,bk (hB d hd)]
  ·rfl
 |build t a2 =>
  have H:=M (by simp[I]) (by simp[I]);simp only[I,cm]at H;have hb:∀ a6 ls,fw st' a6 a2.toList ls=fw st a6 a2.toList ls:=λa6 ls=>qf _ _ (λx J t Y=>H t (be (by simp only[Op.operands,C7,BR];exact⟨x,J,rfl⟩) t Y))
  simp only[act,I,hw,hb]
 |buildSlice t n a2 =>
  have H:=M (by simp[I]) (by simp[I]);simp only[I,cm]at H;have J:∀ x∈a2.toList,(∀ t,x.2=.tmp t->st' t=st t)/\∀ q∈aw (au st x.2).2,st' q=st q:=λx J =>
   dt H (be (by simp only[Op.operands,C7,BR];exact⟨x,J,rfl⟩))
  simp only[act,I];split
  ·rw[oC _ _ J];split
   ·rename_i u ba;have b9:=oD _ _ _ ba;have b4:∀ z,z∈u.frz\/z∈u.kill->st' z.1=st z.1:=λz hz=>by
     obtain⟨x,c0,bn⟩:=b9 z hz;exact (J x c0).2 _ bn
    have e1:aD st' u.frz=aD st u.frz:=ko λz hz=>b4 z (.inl hz)
    have e2:∀ U:Upd,aN (ac U st') u.kill=aN (ac U st) u.kill:=λU=>it (λz hz=>bk (b4 z (.inr hz)) U)
    simp only[e1,e2];congr 1;split
    ·rename_i d hd;rw[a0 _ _ _ _ hd]
    ·rfl
   ·rfl
  ·rfl
 |load t x =>
  have H:=M (by simp[I]) (by simp[I]);simp only[I,cm]at H;have J:=nE H (x:=x) (be (by simp[Op.operands]));have e:one st' x=one st x:=dB J.1;have X:∀ q∈az [one st x],st' q=st q:=λq O=>J.2 q (tM O)
  simp only[act,I,e,hw];congr 1;split
  ·rfl
  ·rename_i b off Z;rw[Z]at X;rw[X b (by simp[az])]
  ·rfl
  ·rename_i p ks ep a y off Z;rw[Z]at X;rw[jP (λq O=>X q (by simpa[az]using O))]
  ·rename_i r j v i sz off Z;rw[Z]at X;rw[ci (l:=.al r j v) (λq O=>X q (by simp[aw]at O;simp[az,O])),X EPO (by simp[az])]
  ·rfl
 |store t x y =>
  have H:=M (by simp[I]) (by simp[I]);simp only[I,cm]at H;have J:=nE H (x:=x) (be (by simp[Op.operands]));have hy:=nE H (x:=y) (be (by simp[Op.operands]));have e:one st' x=one st x:=dB J.1;have e2:au st' y=au st y:=dS hy.1;have X:∀ q∈az [one st x],st' q=st q:=λq O=>J.2 q (tM O)
  have a9:∀ q∈aw (au st y).2,st' q=st q:=λq O=>hy.2 q (fJ O)
  simp only[act,I,e,e2,qQ a9,pe a9,tL a9];split
  ·rfl
  ·congr 1;split
   ·rename_i b off Z;rw[Z]at X;have hb:=X b (by simp[az]);simp only[hb,bk hb]
   ·rename_i r j v i sz off Z;rw[Z]at X;have bl:=X r (by simp[az]);rw[ci (l:=.al r j v) (λq O=>X q (by simp[aw]at O;simp[az,O]))];split
    ·rw[wF bl (X EPO (by simp[az])) a9]
    ·rfl
   ·rfl
 |nilCheck x =>
  have H:=M (by simp[I]) (by simp[I]);simp only[I,cm]at H;have J:=dt H (x:=x) (be (by simp[Op.operands]));have e:one st' x=one st x:=dB J.1;have X:∀ q∈aw [one st x],st' q=st q:=λq O=>J.2 q (jr O)
  simp only[act,I,e,hw];split
  ·rfl
  ·rfl
  ·rename_i r j v i sz off Z;rw[Z]at X;rw[X r (by simp[aw])]
  ·rfl
  ·rename_i p ks ep a y off Z;rw[Z,vm]at X;rw[jP X]
  ·rfl
 |binOp op t x y t' =>
  have H:=M (by simp[I]) (by simp[I]);simp only[I,cm]at H;have J:=dt H (x:=x) (be (by simp[Op.operands]));have hy:=dt H (x:=y) (be (by simp[Op.operands]));have e1:one st' x=one st x:=dB J.1;have e2:one st' y=one st y:=dB hy.1;have e3:au st' x=au st x:=dS J.1;have e4:au st' y=au st y:=dS hy.1;simp only[act,I,e1,e2,e3,e4,hw,eL J.2,eL hy.2]
 |unOp op t x =>
  have H:=M (by simp[I]) (by simp[I]);simp only[I,cm]at H;have e1:one st' x=one st x:=dB λt Y=>H t (be (by simp[Op.operands]) t Y)
  simp only[act,I,e1,hw]
 |convert s t x =>
  have H:=M (by simp[I]) (by simp[I]);simp only[I,cm]at H;have J:=dt H (x:=x) (be (by simp[Op.operands]));have e1:one st' x=one st x:=dB J.1;have X:∀ q∈aw [one st x],st' q=st q:=λq O=>J.2 q (jr O)
  simp only[act,I,e1,hw];split
  ·rfl
  ·rw[ci X]
  ·rfl
  ·rfl
 |makeSlice t n c =>
  have H:=M (by simp[I]) (by simp[I]);simp only[I,cm]at H;have e1:one st' n=one st n:=dB λt Y=>H t (be (by simp[Op.operands]) t Y)
  have e2:one st' c=one st c:=dB λt Y=>H t (be (by simp[Op.operands]) t Y)
  simp only[act,I,e1,e2,hw]
 |slice t x lo hi mx =>
  have H:=M (by simp[I]) (by simp[I]);simp only[I,cm]at H;have hE:=H EPO (BM ..);have H:=λq O=>H q (BL _ O)
  have J:=dt H (x:=x) (be (by simp[Op.operands]));have c3:∀ n,dh st' lo n=dh st lo n:=λn=>nA λy hy t Y=>H t (BJ _ (be (by simp[Op.operands,hy]) t Y))
  have c1:∀ n,dh st' hi n=dh st hi n:=λn=>nA λy hy t Y=>H t (BJ _ (be (by simp[Op.operands,hy]) t Y))
  have e:one st' x=one st x:=dB J.1;have X:∀ q∈aw [one st x],st' q=st q:=λq O=>J.2 q (jr O)
  have bb:∀ m,mx=some m->dh st' (some m) 0=dh st (some m) 0:=λm hm=>nA λy hy t Y=>H t (BJ _ (be (by simp[Op.operands,hm,DC hy]) t Y))
  simp only[act,I,e,c3,c1,ci X,hE];cases hd:o.dst with
  |none=>cases mx <;> rfl
  |some d =>
   cases mx with
   |none=>simp only[a0 _ _ _ _ hd]
   |some m =>
    simp only[bb m rfl];split
    ·rename_i r j v _ Z _;rw[Z]at X;rw[ci X,it (st:=st) (st':=st') (λz hz=>by simp at hz;subst hz;exact X _ (by simp[aw]))];simp only[a0 _ _ _ _ hd]
    ·rfl
 |fieldAddr t x f =>
  have H:=M (by simp[I]) (by simp[I]);simp only[I,cm]at H;have J:=dt H (x:=x) (be (by simp[Op.operands]));have e:one st' x=one st x:=dB J.1;have X:∀ q∈aw [one st x],st' q=st q:=λq O=>J.2 q (jr O)
  simp only[act,I,e,hw];split
  ·split
   ·split
    ·rfl
    ·rfl
    ·rename_i r j v i sz off Z;rw[Z]at X;rw[X r (by simp[aw])]
    ·rename_i p ks ep a y o' Z;rw[Z,vm]at X;rw[jP X]
    ·rfl
   ·rfl
  ·rfl
 |field t x f =>
  have H:=M (by simp[I]) (by simp[I]);simp only[I,cm]at H;have e1:au st' x=au st x:=dS λt Y=>H t (be (by simp[Op.operands]) t Y)
  simp only[act,I,e1,hw]
 |indexAddr t x i =>
  simp only[I,e8]at hh;have b2:∀ y∈(Op.indexAddr t x i).operands,∀ t,y=.tmp t->bJ (st' t)=bJ (st t):=λy hy t Y=>hh t (BJ _ (be hy t Y))
  have e:one st' x=one st x:=zS (b2 x (by simp[Op.operands]));have e2:one st' i=one st i:=zS (b2 i (by simp[Op.operands]));have X:∀ q∈aw [one st x],bJ (st' q)=bJ (st q):=λq O=>by
   obtain⟨t',bx,O⟩:=rI (jr O);have a5:=be (xs:=(Op.indexAddr t x i).operands) (x:=x) (by simp[Op.operands]) t' bx;rcases O with rfl|O
   ·exact hh q (BJ _ a5)
   ·exact hh q (BK _ (BZ.2 ⟨t',a5,O⟩))
  simp only[act,I,e,e2,hw];split
  ·split
   ·rfl
   ·split
    ·rename_i r j v Z;rw[Z]at X;have O:=X r (by simp[aw]);have hv:(st' r).ver=(st r).ver:=by simp only[bJ,BY]at O;exact O.1
     simp only[aC,hv];cases BP (st r).ver v with
     |false=>rfl
     |true =>
      simp only[cond_true];rcases tN (ye O j) with e3|⟨p,p',h1,h2,E1,E2,e',cb,xs,c4,e3,e4,e5,e6⟩
      ·rw[e3]
      ·rw[e3,e4];simp only[pu,e5,AK,e6]
    ·rfl
    ·rename_i p ks ep cc E' e' xs Z;rw[Z,is]at X;rw[zw X]
    ·rfl
   ·rfl
  ·rfl
 |index t x i =>
  have H:=M (by simp[I]) (by simp[I]);simp only[I,cm]at H;have J:=dt H (x:=x) (be (by simp[Op.operands]));have e1:one st' x=one st x:=dB J.1;have e2:one st' i=one st i:=dB (dt H (x:=i) (be (by simp[Op.operands]))).1;have e3:au st' x=au st x:=dS J.1;simp only[act,I,e1,e2,e3,hw,λe n=>nv (e:=e) n _ J.2]
 |extract x i =>
  have H:=M (by simp[I]) (by simp[I]);simp only[I,cm]at H;have e1:au st' x=au st x:=dS λt Y=>H t (be (by simp[Op.operands]) t Y)
  simp only[act,I,e1,hw]
 |makeFunc fn first a3 =>
  have H:=M (by simp[I]) (by simp[I]);simp only[I,cm]at H;cases fn with
  |func f =>
   have:sv st' a3.toList=sv st a3.toList:=vo (st:=st) (st':=st') a3.toList (some []) (λx J t Y=>H t (be (by simp[Op.operands];exact .inr (by simpa using J)) t Y));simp only[act,I,hw,this]
  |_=>simp only[act,I]
 |call c =>
  have H:=M (by simp[I]) (by simp[I]);simp only[I,cm]at H;simp only[act,I];split
  ·rfl
  ·rename_i d hd;obtain⟨b0,b3⟩:=tO hd h;cases hc:c.callee with
   |value f =>
    simp only[hc]at H;have hT:=H TMP (BM ..);have hE:=H EPO (BL _ (BM ..));have H:=λq O=>H q (BL _ (BL _ O))
    have b5:f∈(Op.call c).operands:=by simp[Op.operands,Call.operands,hc]
    have ad:∀ x∈c.args.toList,x∈(Op.call c).operands:=λx J=>by
     simp only[Op.operands,Call.operands,hc,C8];exact .inr (by simpa using J)
    have a5:∀ x∈(Op.call c).operands,∀ t,x=.tmp t->st' t=st t:=λx J t Y=>H t (by
     unfold kO;exact BJ _ (BJ _ (BJ _ (be J t Y))))
    have e1:one st' f=one st f:=dB (a5 f b5);have e2:c.args.toList.map (au st')=c.args.toList.map (au st):=Ct λx J=>dS (a5 x (ad x J))
    have a4:∀ x∈c.args.toList.map (au st),eS st st' x.2:=by
     intro x J;obtain⟨y,hy,rfl⟩:=BR.1 J;exact qj H (be (ad y hy))
    simp only[e1,e2];split
    ·rename_i g a3 Z;refine tR hT hE ?_ b0 b3;intro x J;rcases BH.1 J with J|J
     ·exact a4 x J
     ·obtain⟨b,hb,rfl⟩:=BR.1 J;have hf:=qj H (be b5);rw[qR Z (by simp)]at hf;exact ph hf _ (BR.2 ⟨b,hb,rfl⟩)
    ·rename_i g a3 Z;refine tR hT hE ?_ b0 b3;intro x J;rcases BH.1 J with J|J
     ·exact a4 x J
     ·obtain⟨cp,c2,rfl⟩:=BR.1 J;exact nD _ (BR.2 ⟨cp,c2,rfl⟩)
    ·rename_i As B φ Z;rw[rM As _ (λx J q O=>(a4 x J).d1 q (fJ O))];simp only[hw]
    ·rfl
   |builtin b =>
    simp only[hc]at H;have hT:=H TMP (BM ..);have H:=λq O=>H q (BL _ O)
    have ad:∀ x∈c.args.toList,x∈(Op.call c).operands:=λx J=>by
     simp only[Op.operands,Call.operands,hc,C8];exact .inr (by simpa using J)
    have J:∀ x∈c.args.toList,one st' x=one st x/\∀ q∈aw [one st x],st' q=st q:=λx J=>by
     have:=dt H (be (ad x J));exact⟨dB this.1,λq O=>this.2 q (jr O)⟩
    cases b with
    |len =>
     dsimp only;split
     ·rename_i x a1;have h1:=J x (by rw[a1];simp);simp only[h1.1,ci h1.2,hw]
     ·rfl
    |append =>
     dsimp only;split
     ·rename_i x y t u a1 _;have h1:=J x (by rw[a1];simp);have h2:=J y (by rw[a1];simp);split
      ·rw[h1.1,h2.1,wD hT h1.2 h2.2 b0]
      ·rfl
     ·rfl
    |min =>
     dsimp only;split
     ·rename_i x y a1;rw[(J x (by rw[a1];simp)).1,(J y (by rw[a1];simp)).1];simp only[hw]
     ·rfl
    |max =>
     dsimp only;split
     ·rename_i x y a1;rw[(J x (by rw[a1];simp)).1,(J y (by rw[a1];simp)).1];simp only[hw]
     ·rfl
    |_=>rfl
   |invoke x n=>rfl
 |_=>simp only[act,I]
end
section
variable {P:Program} {V:Env} {Γ:List Ctr} {T:TypeId->TI} {st st':St} {o:Oper} {R:Type} {all:Array Oper}
def my (Γ:List Ctr)(T:TypeId->TI)(all:Array Oper)(o:Oper)(st:St)(U:Upd):Prop :=
 match o.guard with
 |none=>act Γ T o st some=some U
 |some (j,r)=>∃ t,(all[j]?).bind (·.dst)=some t /\
  ((∃ b,(st t).sh=.one/\(st t).ls=[.bool b]/\((b=r/\act Γ T o st some=some U)\/(b≠r/\U=eO st o)))\/((st t).sh=.und/\U=eO st o))
def jQ (Γ:List Ctr)(T:TypeId->TI)(all:Array Oper)(o:Oper)(st:St)(U:Upd)(t:cJ):Prop :=
 ((∀ q∈U.map (·.1),q∈t.wr\/q∈t.cw)/\(∀ q∈t.wr,q∈U.map (·.1))/\∀ q,q∈U.map (·.1)->q∉t.wr->bJ (ac U st q)=bJ (st q))/\match o.guard with
 |none=>act Γ T o st some=some U/\(∀ q∈fy st o,q∈t.rd)/\∀ q∈e8 st o.op,q∈t.hd
 |some (j,r)=>∃ s,(all[j]?).bind (·.dst)=some s/\s∈t.rd /\
  ((∃ b,(st s).sh=.one/\(st s).ls=[.bool b]/\((b=r/\act Γ T o st some=some U/\(∀ q∈fy st o,q∈t.rd)/\∀ q∈e8 st o.op,q∈t.hd)\/(b≠r/\U=eO st o/\∀ d,o.dst=some d->d∈t.wr))) \/
   ((st s).sh=.und/\U=eO st o/\∀ d,o.dst=some d->d∈t.wr))
theorem tS {α:Type}:∀ {l:List α} {j:Nat} {x:α},l[j]?=some x->l.set j x=l
 |[],_,_,h=>by simp at h
 |y::l,0,x,h=>by simp at h;subst h;rfl
 |y::l,j+1,x,h=>by rw[Cz,tS (by simpa using h)]
theorem AL {U:Upd}(h:act Γ T o st some=some U):∀ q∈d4 st o,bJ (ac U st q)=bJ (st q):=by
 intro q u;unfold d4 at u;split at u
 ·rename_i t x y J;split at u
  ·rename_i r j a1 i sz off hx;simp only[CG]at u;subst u;simp only[act,wrU,J]at h;split at h
   ·cases h
   ·cases O:BP (au st y).2.length (T t).cells&&decide ((au st y).1=bh (T t).agg)&&!decide ((T t).cells=0) with
    |false=>simp[O]at h
    |true =>
     simp only[O,cond_true,hx]at h;split at h
     ·rename_i p hh E e xs hd;cases hc:BP sz e.cells&&decide (off+(au st y).2.length<=e.cells)&&sb q with
      |false=>simp[hc]at h
      |true =>
       simp only[hc,cond_true]at h;obtain⟨_,hl⟩:=fh hd (by simp);have z:∀ (Y:Bool) (I:Option (Nat×Nat)) (v:e.den) (X:Upd),bJ (ac ((q,⟨(st q).ver,(st q).sh,aT (st q).ls j (.own Y I E e (xs.set i v))⟩)::X) st q)=bJ (st q):=by
        intro Y I v X;rw[aQ,bj];simp only[bJ,aT];rw[List.map_set,tS];rw[C4,hl];simp[jC]
       unfold gG at h;obtain⟨a0,_,h⟩:=CE.1 h;split at h
       ·rename_i t _;cases H:t.rest.isEmpty&&aY t.kill&&dz t.frz t.kill&&!((t.kill++t.frz).any λk=>BP k.1 q) with
        |false=>rw[H]at h;cases h
        |true =>
         simp only[H,cond_true]at h;cases hh with
         |none =>
          simp only[BG]at h;rw[<- h];exact z _ _ _ _
         |some hp =>
          obtain⟨hi,M⟩:=hp;simp only at h;cases Z:Cs off M&&Cl M (off+(au st y).2.length) with
          |false =>
           rw[Z]at h;simp only[cond_false,BG]at h;rw[<- h];exact z _ _ _ _
          |true =>
           rw[Z]at h;simp only[cond_true]at h;cases h2:BP i hi <;> rw[h2]at h <;> simp only[cond_true,cond_false,BG]at h <;> rw[<- h] <;> exact z _ _ _ _
       ·cases h
     ·cases h
  ·simp at u
 ·simp at u
theorem pj {t:Nat}{b:Bool}(u:(st t).sh=.one)(r:(st t).ls=[.bool b]):lit st t b=st:=by
 funext q;unfold lit;rcases aj t q ⟨(st t).ver,.one,[.bool b]⟩ st with ⟨rfl,e⟩|⟨_,e⟩
 ·rw[e,<- u,<- r]
 ·exact e
theorem wG {U:Upd}(h:act Γ T o st some=some U):(∀ q∈U.map (·.1),q∈(U.map (·.1)).filter (λq=>!((d4 st o).any (BP q)))\/q∈d4 st o)/\(∀ q∈(U.map (·.1)).filter (λq=>!((d4 st o).any (BP q))),q∈U.map (·.1)) /\
  ∀ q,q∈U.map (·.1)->q∉(U.map (·.1)).filter (λq=>!((d4 st o).any (BP q)))->bJ (ac U st q)=bJ (st q):=by
 have r:∀ q,(d4 st o).any (BP q)=true->q∈d4 st o:=λq u=>by
  obtain⟨x,H,z⟩:=CV.1 u;rw[BN z];exact H
 refine⟨λq u=>?_,λq u=>(CR.1 u).1,λq u I=>?_⟩
 ·cases y:(d4 st o).any (BP q) with
  |true=>exact .inr (r q y)
  |false=>exact .inl (CR.2 ⟨u,by rw[y];rfl⟩)
 ·refine AL h q (r q ?_);cases y:(d4 st o).any (BP q) with
  |true=>rfl
  |false=>exact absurd (CR.2 ⟨u,by rw[y];rfl⟩) I
theorem AM {κ:St->cJ->Option R}{r:R}(h:opK Γ T all o st κ=some r):∃ U t,jQ Γ T all o st U t/\κ (ac U st) t=some r:=by
 have Y:∀ (J:List Nat),act Γ T o st (λU=>κ (ac U st) ⟨J++fy st o,e8 st o.op,(U.map (·.1)).filter (λq=>!((d4 st o).any (BP q))),d4 st o⟩)=some r ->
   ∃ U,act Γ T o st some=some U/\κ (ac U st) ⟨J++fy st o,e8 st o.op,(U.map (·.1)).filter (λq=>!((d4 st o).any (BP q))),d4 st o⟩=some r:=by
  intro J h;rw[tK]at h;obtain⟨U,M,X⟩:=CE.1 h;exact⟨U,M,X⟩
 have u:((∀ q∈(eO st o).map (·.1),q∈o.dst.toList\/q∈([]:List Nat))/\(∀ q∈o.dst.toList,q∈(eO st o).map (·.1))/\∀ q,q∈(eO st o).map (·.1)->q∉o.dst.toList->bJ (ac (eO st o) st q)=bJ (st q)):=by
  unfold eO;cases o.dst with
  |none=>simp
  |some d=>simp
 unfold opK at h;unfold jQ;cases hg:o.guard with
 |none =>
  simp only[hg]at h;obtain⟨U,M,X⟩:=Y [] h;exact⟨U,_,⟨wG M,M,λq I=>by simpa using I,λq I=>I⟩,X⟩
 |some jw =>
  obtain⟨j,O⟩:=jw;simp only[hg]at h;split at h
  ·rename_i t Z;have z:∀ d,o.dst=some d->d∈o.dst.toList:=λd hd=>by simp[hd]
   split at h
   ·rename_i b y H;have hl:∀ b',b'=b->lit st t b'=st:=λb' e=>pj y (by rw[H,e])
    cases b with
    |true =>
     simp only[cond_true,hl true rfl]at h;cases O with
     |true =>
      simp only[cond_true]at h;obtain⟨U,M,X⟩:=Y [t] h;exact⟨U,_,⟨wG M,t,Z,by simp,.inl ⟨true,y,H,.inl ⟨rfl,M,λq I=>BK _ I,λq I=>I⟩⟩⟩,X⟩
     |false =>
      simp only[cond_false]at h;exact⟨eO st o,_,⟨u,t,Z,by simp,.inl ⟨true,y,H,.inr ⟨by simp,rfl,z⟩⟩⟩,h⟩
    |false =>
     simp only[cond_false,hl false rfl]at h;cases O with
     |true =>
      simp only[cond_true]at h;exact⟨eO st o,_,⟨u,t,Z,by simp,.inl ⟨false,y,H,.inr ⟨by simp,rfl,z⟩⟩⟩,h⟩
     |false =>
      simp only[cond_false]at h;obtain⟨U,M,X⟩:=Y [t] h;exact⟨U,_,⟨wG M,t,Z,by simp,.inl ⟨false,y,H,.inl ⟨rfl,M,λq I=>BK _ I,λq I=>I⟩⟩⟩,X⟩
   ·rename_i y;exact⟨eO st o,_,⟨u,t,Z,by simp,.inr ⟨y,rfl,z⟩⟩,h⟩
   ·cases h
  ·cases h
theorem vp {U:Upd}(e:U=eO st o)(u:∀ d,o.dst=some d->st' d=st d):U=eO st' o:=by
 rw[e];unfold eO;cases r:o.dst with
 |none=>rfl
 |some d=>simp only[u d r]
theorem jQ.frame {U:Upd}{t:cJ}(h:jQ Γ T all o st U t)(u:∀ q,q∈t.rd\/q∈t.wr->st' q=st q)(hh:∀ q∈t.hd,bJ (st' q)=bJ (st q)):my Γ T all o st' U:=by
 obtain⟨_,h⟩:=h;have r:act Γ T o st some=some U->(∀ q∈fy st o,q∈t.rd)->(∀ q∈e8 st o.op,q∈t.hd)->act Γ T o st' some=some U:=by
  intro Y I z;rw[Bw (λq y=>u q (.inl (I q y))) (λq y=>hh q (z q y))];exact Y
 unfold my;cases hg:o.guard with
 |none =>
  rw[hg]at h;exact r h.1 h.2.1 h.2.2
 |some jw =>
  obtain⟨j,a1⟩:=jw;rw[hg]at h;obtain⟨s,Y,I,z⟩:=h;have a0:=u s (.inl I);refine⟨s,Y,?_⟩;rw[a0];rcases z with ⟨b,H,Z,X⟩|⟨H,Z,X⟩
  ·refine .inl ⟨b,H,Z,?_⟩;rcases X with ⟨J,M,h9,O⟩|⟨J,M,h9⟩
   ·exact .inl ⟨J,r M h9 O⟩
   ·exact .inr ⟨J,vp M (λd hd=>u d (.inr (h9 d hd)))⟩
  ·exact .inr ⟨H,vp Z (λd hd=>u d (.inr (X d hd)))⟩
theorem wH (hV:ay V)(hT:TOk P T)(hΓ:∀ c∈Γ,bO P c){ops:Array Oper}{i:Nat}(hi:ops[i]?=some o)(O:bM V o)(H:∀ j u,o.guard=some (j,u)->∀ s,(ops[j]?).bind (·.dst)=some s->s<V.nt)
  {U:Upd} (h:my Γ T ops o st U) {a:Act} {w:World} (z:Rel P V st a w) {K:Act->World->Prop} {Q:Exit->Act->World->Prop} (hK:∀ a' w',Rel P V (ac U st) a' w'->K a' w'):wpOp P ops Q i K a w:=by
 obtain⟨W,z⟩:=z;unfold wpOp;simp only[hi];have Y:act Γ T o st some=some U->o.wp P a w K Q:=by
  intro h1;obtain⟨U',h2,X⟩:=Bv hV hT hΓ O h1;cases h2;exact X W a w z K Q hK
 have y:U=eO st o->K (a.put o.dst undef) w:=by
  intro e;refine hK _ _ ?_;subst e;unfold eO;cases hd:o.dst with
  |none=>exact⟨W,z⟩
  |some d=>exact z.putLs hV d (O d hd).1 (O d hd).2 _ .und [] undef [] (CP _) ⟨rfl,rfl⟩ trivial
 unfold my at h;cases M:o.guard with
 |none =>
  rw[M]at h;have J:Region.wanted o (yielded ops a.tmps)=true:=by simp[Region.wanted,M]
  rw[if_pos J];exact .inl (Y h)
 |some jw =>
  obtain⟨j,u⟩:=jw;rw[M]at h;obtain⟨s,h1,h2⟩:=h;have a0:=H j u M s h1;have a2:s<GH:=C0 a0 hV.nt;have r:=z.slots s a2;have a1:s<a.tmps.size:=by rw[z.nt];exact a0
  have I:a.tmps[s]?=some (a.tmps.getD s undef):=by
   rw[BT,BS a1];rfl
  rcases h2 with ⟨b,X,h4,h5⟩|⟨X,h5⟩
  ·have Z:=z.len s;rw[h4]at Z;rw[X]at r;have r:W.cs s=[a.tmps.getD s undef]:=r;have hv:=z.leaf s 0 (.bool b) (a.tmps.getD s undef) (by rw[h4];rfl) (by rw[r];rfl);have hv:a.tmps.getD s undef=.bool b:=hv;have hy:yielded ops a.tmps j=some b:=by simp[yielded,h1,I,hv]
   rcases h5 with ⟨rfl,h6⟩|⟨h6,h7⟩
   ·have J:Region.wanted o (yielded ops a.tmps)=true:=by simp[Region.wanted,M,hy]
    rw[if_pos J];exact .inl (Y h6)
   ·have J:Region.wanted o (yielded ops a.tmps)=false:=by
     simp only[Region.wanted,M,hy];cases b <;> cases u <;> simp at h6 <;> rfl
    rw[J];exact y h7
  ·rw[X]at r;obtain⟨hv,_⟩:=r;have hy:yielded ops a.tmps j=none:=by
    unfold yielded;rw[h1,CL,I,hv];rfl
   have J:Region.wanted o (yielded ops a.tmps)=false:=by simp[Region.wanted,M,hy]
   rw[J];exact y h5
def Run (Γ:List Ctr)(T:TypeId->TI)(all:Array Oper):St->List Oper->List Upd->List cJ->St->Prop
 |st,[],[],[],st'=>st'=st
 |st,o::r,U::y,t::u,st'=>jQ Γ T all o st U t/\Run Γ T all (ac U st) r y u st'
 |_,_,_,_,_=>False
theorem pm:∀ (H:List Oper) (st:St) (y:List cJ) (z:St->List cJ->Option R) (r:R),qo Γ T all H st y z=some r ->
  ∃ I u st',Run Γ T all st H I u st'/\z st' (y++u)=some r
 |[],st,y,z,r,h=>⟨[],[],st,rfl,by simpa[qo]using h⟩
 |o::H,st,y,z,r,h=>by
  simp only[qo]at h;obtain⟨U,t,X,M⟩:=AM h;obtain⟨I,u,st',O,J⟩:=pm H (ac U st) (y++[t]) z r M;exact⟨U::I,t::u,st',⟨X,O⟩,by rw[CD]at J;exact J⟩
theorem jQ.res {U:Upd}{t:cJ}(h:jQ Γ T all o st U t):my Γ T all o st U:=h.frame (λ_ _=>rfl) (λ_ _=>rfl)
theorem vq (Y:ay V)(Z:TOk P T)(hΓ:∀ c∈Γ,bO P c){ops:Array Oper}(y:∀ (i:Nat) (o:Oper),ops[i]?=some o->bM V o)
  (r:∀ (i:Nat) (o:Oper),ops[i]?=some o->∀ j z,o.guard=some (j,z)->∀ s,(ops[j]?).bind (·.dst)=some s->s<V.nt) {Q:Exit->Act->World->Prop} :
  ∀ (u:List Oper) (k:Nat) (st:St) (us:List Upd) (H:List cJ) (st':St),ops.toList.drop k=u->Run Γ T ops st u us H st'->(∀ a w,Rel P V st' a w->Q .normal a w) ->
   ∀ a w,Rel P V st a w->wpOps P ops Q (List.range' k u.length) a w
 |[],k,st,[],[],st',_,h,O,a,w,J=>by
  have h:st'=st:=h;subst h;exact O a w J
 |o::u,k,st,U::us,t::H,st',X,h,O,a,w,J=>by
  obtain⟨h1,h2⟩:=h;have M:ops[k]?=some o:=by
   have:(ops.toList.drop k)[0]?=some o:=by rw[X];rfl
   rw[List.getElem?_drop]at this;simpa using this
  rw[CM,List.range'_succ,wpOps_cons];refine wH Y Z hΓ M (y k o M) (r k o M) h1.res J (λa' w' I=>?_);exact vq Y Z hΓ y r u (k+1) (ac U st) us H st' (by rw[<- Cp,X];rfl) h2 O a' w' I
end
section
variable {P:Program} {V:Env} {Γ:List Ctr} {T:TypeId->TI} {st st':St} {o:Oper} {R:Type} {all:Array Oper}
def de (D:Nat->Bool):List Upd->St->St
 |[],st=>st
 |U::r,st=>de (λj=>D (j+1)) r (bif D 0 then ac U st else st)
theorem js {q:Nat}:∀ {U:Upd} (s u:St),q∈U.map (·.1)->ac U s q=ac U u q
 |[],_,_,h=>by simp at h
 |(r,c)::U,s,u,h=>by
  simp only[ac];cases y:BP q r with
  |true=>rfl
  |false =>
   simp only[cond_false];refine js s u ?_;simp only[B7,BU]at h;rcases h with rfl|h
   ·simp at y
   ·exact h
theorem eN {q:Nat}:∀ {U:Upd} (s:St),q∉U.map (·.1)->ac U s q=s q
 |[],_,_=>rfl
 |(r,c)::U,s,h=>by
  simp only[B7,BU,not_or]at h;have u:BP q r=false:=by
   cases u:BP q r with
   |false=>rfl
   |true=>exact absurd (BN u) h.1
  simp only[ac,u,cond_false];exact eN s h.2
theorem yf {U r:Upd}(h:∀ q,q∈U.map (·.1)->q∉r.map (·.1))(s:St):ac r (ac U s)=ac U (ac r s):=by
 funext q;by_cases u:q∈U.map (·.1)
 ·rw[eN _ (h q u)];exact js _ _ u
 ·rw[eN (U:=U) _ u];by_cases y:q∈r.map (·.1)
  ·exact js _ _ y
  ·rw[eN _ y,eN _ y,eN _ u]
theorem mz:∀ {us:List Upd} {D D':Nat->Bool} {s:St},(∀ j,j<us.length->D j=D' j)->de D us s=de D' us s
 |[],_,_,_,_=>rfl
 |U::us,D,D',s,h=>by
  simp only[de];rw[h 0 (by simp)];exact mz (λj r=>h (j+1) (by simpa using r))
theorem nF:∀ {us:List Upd} {D:Nat->Bool} {s:St},(∀ j,D j=false)->de D us s=s
 |[],_,_,_=>rfl
 |U::us,D,s,h=>by
  simp only[de,h 0,cond_false];exact nF (λj=>h (j+1))
theorem mA {q:Nat}:∀ {us:List Upd} {D D':Nat->Bool} {s r:St},s q=r q->(∀ (j:Nat) (U:Upd),us[j]?=some U->q∈U.map (·.1)->D j=D' j)->de D us s q=de D' us r q
 |[],_,_,_,_,h,_=>h
 |U::us,D,D',s,r,h,H=>by
  simp only[de];refine mA ?_ (λj J M y=>H (j+1) J (by simpa using M) y);by_cases u:q∈U.map (·.1)
  ·rw[H 0 U rfl u];cases D' 0 with
   |true=>exact js _ _ u
   |false=>exact h
  ·have I:∀ b:Bool,(bif b then ac U s else s) q=s q:=by intro b;cases b <;> simp[eN _ u]
   have z:∀ b:Bool,(bif b then ac U r else r) q=r q:=by intro b;cases b <;> simp[eN _ u]
   rw[I,z,h]
theorem nG {U:Upd}:∀ {us:List Upd} {D:Nat->Bool} {s:St},(∀ (j:Nat) (u:Upd),us[j]?=some u->D j=true->∀ q,q∈U.map (·.1)->q∉u.map (·.1))->de D us (ac U s)=ac U (de D us s)
 |[],_,_,_=>rfl
 |u::us,D,s,h=>by
  simp only[de];cases H:D 0 with
  |true =>
   simp only[cond_true];rw[yf (h 0 u rfl H)];exact nG (λj r z y=>h (j+1) r (by simpa using z) y)
  |false =>
   simp only[cond_false];exact nG (λj r z y=>h (j+1) r (by simpa using z) y)
theorem oH {U:Upd}:∀ {us:List Upd} {i:Nat} {D D':Nat->Bool} {s:St},us[i]?=some U->D i=false->(∀ j,D' j=(D j||BP j i)) ->
  (∀ (j:Nat) (u:Upd),us[j]?=some u->i<j->D j=true->∀ q,q∈U.map (·.1)->q∉u.map (·.1))->de D' us s=ac U (de D us s)
 |[],i,_,_,_,h,_,_,_=>by simp at h
 |V::us,0,D,D',s,h,z,r,H=>by
  simp at h;subst h;simp only[de];have y:D' 0=true:=by rw[r 0];simp
  rw[y,z];simp only[cond_true,cond_false];have e:de (λj=>D' (j+1)) us (ac V s)=de (λj=>D (j+1)) us (ac V s):=mz (λj _=>by rw[r (j+1)];simp[BP]);rw[e];exact nG (λj u I J=>H (j+1) u (by simpa using I) (by omega) J)
 |V::us,i+1,D,D',s,h,z,r,H=>by
  simp only[de];have y:D' 0=D 0:=by rw[r 0];simp[BP]
  rw[y];exact oH (i:=i) (by simpa using h) z (λj=>by rw[r (j+1)];simp[BP]) (λj u I J M=>H (j+1) u (by simpa using I) (by omega) M)
theorem qS:∀ {r:List Oper} {us:List Upd} {u:List cJ} {s H:St},Run Γ T all s r us u H->∀ (i:Nat) (o:Oper),r[i]?=some o ->
  ∃ U t,us[i]?=some U/\u[i]?=some t/\jQ Γ T all o (de (λj=>decide (j<i)) us s) U t
 |[],_,_,_,_,_,i,o,h=>by simp at h
 |z::r,[],_,_,_,h,_,_,_=>h.elim
 |z::r,_::_,[],_,_,h,_,_,_=>h.elim
 |z::r,U::us,t::u,s,H,h,0,o,y=>by
  simp at y;subst y;exact⟨U,t,rfl,rfl,by rw[nF (λj=>by simp)];exact h.1⟩
 |z::r,U::us,t::u,s,H,h,i+1,o,y=>by
  obtain⟨I,M,X,O,J⟩:=qS h.2 i o (by simpa using y);refine⟨I,M,by simpa using X,by simpa using O,?_⟩;simp only[de];have e:(λj=>decide (j+1<i+1))=λj=>decide (j<i):=by funext j;simp
  rw[e];simpa using J
theorem vr:∀ {r:List Oper} {us:List Upd} {y:List cJ} {s u:St},Run Γ T all s r us y u->us.length=r.length/\y.length=r.length/\u=de (λ_=>true) us s
 |[],[],[],_,_,h=>⟨rfl,rfl,h⟩
 |[],_::_,_,_,_,h=>h.elim
 |[],[],_::_,_,_,h=>h.elim
 |_::_,[],_,_,_,h=>h.elim
 |_::_,_::_,[],_,_,h=>h.elim
 |o::r,U::us,t::y,s,u,h=>by
  obtain⟨I,z,H⟩:=vr h.2;exact⟨by simp[I],by simp[z],by simpa[de]using H⟩
theorem qT {q:Nat}:∀ {os:List Oper} {us:List Upd} {z:List cJ} {O s':St} {D:Nat->Bool} {F:Nat->Bool} {s sF:St} {B:Prop},Run Γ T all O os us z s'->(∀ (j:Nat) (t:cJ),z[j]?=some t->F j=decide (q∈t.wr)) ->
  bJ (s q)=bJ (sF q)->(B->bJ (sF q)=bJ (O q)) ->
  (∀ (j:Nat) (t:cJ) (U:Upd),z[j]?=some t->us[j]?=some U->D j=true->q∉t.wr->q∈U.map (·.1)->B/\∀ (k:Nat) (t':cJ),k<j->z[k]?=some t'->q∈t'.wr->D k=true) ->
  bJ (de D us s q)=bJ (de (λj=>D j&&F j) us sF q)
 |[],[],[],_,_,_,_,_,_,_,_,_,M,_,_=>M
 |[],_::_,_,_,_,_,_,_,_,_,h,_,_,_,_=>h.elim
 |[],[],_::_,_,_,_,_,_,_,_,h,_,_,_,_=>h.elim
 |_::_,[],_,_,_,_,_,_,_,_,h,_,_,_,_=>h.elim
 |_::_,_::_,[],_,_,_,_,_,_,_,h,_,_,_,_=>h.elim
 |o::os,U::us,t::z,O,s',D,F,s,sF,B,h,hF,M,h2,J=>by
  obtain⟨⟨⟨k1,k2,k3⟩,_⟩,I⟩:=h;have y:=hF 0 t rfl;simp only[de];refine qT (F:=λj=>F (j+1)) (B:=B/\(q∈t.wr->D 0=true)) I (λj t' Y=>hF (j+1) t' (by simpa using Y)) ?_ ?_ ?_
  ·by_cases r:q∈U.map (·.1)
   ·by_cases u:q∈t.wr
    ·rw[y,decide_eq_true u,Ch];cases D 0 with
     |true=>simp only[cond_true];rw[js s sF r]
     |false=>exact M
    ·rw[y,decide_eq_false u,Ca];simp only[cond_false];cases H:D 0 with
     |true =>
      simp only[cond_true];rw[js s O r,k3 q r u];exact (h2 (J 0 t U rfl rfl H u r).1).symm
     |false=>exact M
   ·have e:∀ (b:Bool) (x:St),(bif b then ac U x else x) q=x q:=by intro b x;cases b <;> simp[eN _ r]
    rw[e,e];exact M
  ·rintro⟨hB,H⟩;by_cases r:q∈U.map (·.1)
   ·by_cases u:q∈t.wr
    ·rw[y,decide_eq_true u,Ch,H u];simp only[cond_true];rw[js sF O r]
    ·rw[y,decide_eq_false u,Ca];simp only[cond_false];rw[k3 q r u];exact h2 hB
   ·have e:∀ (b:Bool) (x:St),(bif b then ac U x else x) q=x q:=by intro b x;cases b <;> simp[eN _ r]
    rw[e,eN _ r];exact h2 hB
  ·intro j t' U' Y hU H u r;obtain⟨g1,g2⟩:=J (j+1) t' U' (by simpa using Y) (by simpa using hU) H u r;exact⟨⟨g1,λa0=>g2 0 t (by omega) rfl a0⟩,λk t2 hk X Z=>g2 (k+1) t2 (by omega) (by simpa using X) Z⟩
theorem rN {f:Nat->Nat}{i:Nat}:∀ (l:List Edge) (s:Nat),(l.foldl (λs e=>bif Region.binds .any e then s ||| 2 ^ e.on ||| f e.on else s) s).testBit i=true ->
  s.testBit i=true\/∃ e∈l,Region.binds .any e=true/\(i=e.on\/(f e.on).testBit i=true)
 |[],s,h=>.inl h
 |e::l,s,h=>by
  simp only[DD]at h;rcases rN l _ h with h|⟨y,z,u⟩
  ·cases r:Region.binds .any e with
   |false=>rw[r]at h;exact .inl h
   |true =>
    rw[r]at h;simp only[cond_true,Nat.testBit_or,CW]at h;rcases h with (h|h)|h
    ·exact .inl h
    ·refine .inr ⟨e,BM ..,r,.inl ?_⟩;rw[Nat.testBit_two_pow]at h;exact (of_decide_eq_true h).symm
    ·exact .inr ⟨e,BM ..,r,.inr h⟩
  ·exact .inr ⟨y,BL _ z,u⟩
theorem tT:∀ (z:List Oper) (r:List Nat),(∀ j,j<r.length->(jR z r).getD j 0=r.getD j 0) /\
  ∀ (k:Nat) (o:Oper),z[k]?=some o->∃ u:List Nat,u.length=r.length+k/\(∀ j,j<u.length->u.getD j 0=(jR z r).getD j 0) /\
   (jR z r).getD (r.length+k) 0=o.after.toList.foldl (λs e=>bif Region.binds .any e then s ||| 2 ^ e.on ||| u.getD e.on 0 else s) 0
 |[],r=>⟨λ_ _=>rfl,λk o h=>by simp at h⟩
 |o::z,r=>by
  obtain⟨I,J⟩:=tT z (r++[o.after.toList.foldl (λs e=>bif Region.binds .any e then s ||| 2 ^ e.on ||| r.getD e.on 0 else s) 0]);have y:∀ j,j<r.length->(jR (o::z) r).getD j 0=r.getD j 0:=by
   intro j H;simp only[jR];rw[I j (by simp;omega)];simp[BV,CA H]
  refine⟨y,λk Y h=>?_⟩;cases k with
  |zero =>
   simp at h;subst h;refine⟨r,rfl,λj H=>(y j H).symm,?_⟩;simp only[jR];rw[Nat.add_zero,I r.length (by simp)];simp[BV]
  |succ k =>
   obtain⟨u,M,X,O⟩:=J k Y (by simpa using h);refine⟨u,by simp at M;omega,λj H=>X j H,?_⟩;simp only[jR];have e:r.length+(k+1)=(r++[o.after.toList.foldl (λs e=>bif Region.binds .any e then s ||| 2 ^ e.on ||| r.getD e.on 0 else s) 0]).length+k:=by simp;omega
   rw[e];exact O
theorem jD {ops:Array Oper}{D:Nat->Prop}(z:∀ (j:Nat) (o:Oper),ops[j]?=some o->D j->∀ e∈o.after.toList,Region.binds .any e=true->D e.on) :
  ∀ (n j:Nat),j<n->∀ (o:Oper),ops[j]?=some o->(∀ e∈o.after.toList,Region.binds .any e=true->D e.on)->∀ i,((jR ops.toList []).getD j 0).testBit i=true->D i
 |0,_,h,_,_,_,_,_=>by omega
 |n+1,j,hj,o,I,O,i,X=>by
  obtain⟨r,h1,h2,J⟩:=(tT ops.toList []).2 j o (by simpa using I);simp only[List.length_nil,CQ]at h1 J;rw[J]at X;rcases rN (f:=λk=>r.getD k 0) _ _ X with h|⟨e,M,Y,y⟩
  ·simp at h
  ·rcases y with rfl|y
   ·exact O e M Y
   ·have H:e.on<r.length:=by
     apply CB;intro hn;have:r.getD e.on 0=0:=by
      rw[BV,Cn (by omega)];rfl
     rw[this]at y;simp at y
    rw[h2 _ H]at y;have Z:=O e M Y;have u:e.on<ops.size:=by
     have:=(Cb.1 I).1;omega
    exact jD z n e.on (by omega) ops[e.on] (BS u) (z e.on _ (BS u) Z) i y
theorem fW {a b:List Nat}(h:lZ a b=false){q:Nat}(r:q∈a):q∉b:=by
 intro u;unfold lZ at h;rw[Cf]at h;have:=h q r;simp only[CV,not_exists,not_and]at this;exact this q u (by simp)
theorem lx {r:List Nat}{z:List cJ}(h:pz r z=true){i j:Nat}(u:i<j){x y:cJ}(O:z[i]?=some x)(I:z[j]?=some y):(r.getD j 0).testBit i=true\/x.apart y=true:=by
 unfold pz at h;rw[B6]at h;have M:=(BQ.1 I).1;have J:=h j (by simpa using M);rw[B6]at J;have H:=J i (by simpa using u);simp only[O,I,CW]at H;exact H
theorem qk {p p':Nat->Bool}{i:Nat}(I:p i=true)(r:p' i=false)(h:∀ j,j≠i->p' j=p j):∀ (l:List Nat),l.Nodup->i∈l->l.countP p'+1=l.countP p
 |[],_,z=>by simp at z
 |x::l,H,z=>by
  rw[CH]at H;by_cases u:x=i
  ·subst u;have e:l.countP p'=l.countP p:=by
    apply List.countP_congr;intro y J;rw[h y (λe=>H.1 (e ▸ J))]
   simp[I,r,e]
  ·have M:=qk I r h l H.2 ((BU.1 z).resolve_left (λe=>u e.symm));simp only[C9,h x u];omega
theorem Bx (hV:ay V)(hT:TOk P T)(hΓ:∀ c∈Γ,bO P c){ops:Array Oper}(ed:∀ (i:Nat) (o:Oper),ops[i]?=some o->bM V o)
  (bb:∀ (i:Nat) (o:Oper),ops[i]?=some o->∀ j d2,o.guard=some (j,d2)->∀ s,(ops[j]?).bind (·.dst)=some s->s<V.nt) {Q:Exit->Act->World->Prop}
  {us:List Upd} {ts:List cJ} {s0 s1:St} (a3:Run Γ T ops s0 ops.toList us ts s1) (a4:nL ops=true) (c3:pz (jR ops.toList []) ts=true) (hQ:∀ a w,Rel P V s1 a w->Q .normal a w) :
  ∀ (a0:Nat) (r:Array Bool) (a:Act) (w:World),r.size=ops.size->(DF ops.size).countP (λi=>!r.getD i true)=a0 ->
   (∀ (j:Nat) (o:Oper),ops[j]?=some o->r.getD j false=true->∀ e∈o.after.toList,Region.binds .any e=true->r.getD e.on false=true) ->
   Rel P V (de (λj=>r.getD j false) us s0) a w->wpAny P .any ops Q a0 r a w:=by
 obtain⟨ef,eg,e0⟩:=vr a3;have em:ops.toList.length=ops.size:=Cu;have b9:∀ (r:Array Bool),r.size=ops.size->Region.ready .any ops r=[]->∀ i,i<ops.size->r.getD i false=true:=by
  intro r a1 hr i;induction i using DE with
  |ind i ih =>
   intro hi;cases hl:r.getD i false with
   |true=>rfl
   |false =>
    exfalso;have e4:r.getD i true=false:=by
     rw[BT,BS (by omega)]at hl ⊢;exact hl
    have ho:ops[i]?=some ops[i]:=BS hi;have c0:i∈Region.ready .any ops r:=by
     unfold Region.ready;rw[CR];refine⟨by simpa using hi,?_⟩;rw[e4,ho];simp only[DG,Cy,B9,DA];rw[CT];intro e he;cases ec:Region.binds .any e with
     |false=>rfl
     |true =>
      simp only[Bool.not_true,Bool.false_or];have bl:e.on<i:=by
       unfold nL at a4;rw[B6]at a4;have:=a4 i (by simpa using hi);simp only[ho]at this;rw[B6]at this;have:=this e (by simpa using he);simpa[ec]using this
      exact ih e.on bl (by omega)
    rw[hr]at c0;simp at c0
 have bx:∀ (r:Array Bool) (a:Act) (w:World),r.size=ops.size->Rel P V (de (λj=>r.getD j false) us s0) a w->Region.ready .any ops r=[]->Q .normal a w:=by
  intro r a w a1 hr ba;refine hQ a w ?_;rw[e0];have:de (λ_=>true) us s0=de (λj=>r.getD j false) us s0:=mz (λj J=>(b9 r a1 ba j (by omega)).symm);rw[this];exact hr
 intro a0;induction a0 with
 |zero =>
  intro r a w a1 Y b4 hr;have ba:Region.ready .any ops r=[]:=by
   unfold Region.ready;rw[List.filter_eq_nil_iff];intro i hi hc;rw[Cv]at Y;have:=Y i hi;simp only[BI]at hc;exact this hc.1
  exact⟨ba,bx r a w a1 hr ba⟩
 |succ a0 ih =>
  intro r a w a1 Y b4 hr;refine⟨bx r a w a1 hr,λi hi=>?_⟩;unfold Region.ready at hi;rw[CR]at hi;obtain⟨b0,c1⟩:=hi;have b0:i<ops.size:=by simpa using b0
  have ho:ops[i]?=some ops[i]:=BS b0;rw[ho]at c1;simp only[BI,CK,B9,DA]at c1;obtain⟨ad,a6⟩:=c1;rw[CT]at a6;have X:r.getD i false=false:=by
   rw[BT,BS (by omega)]at ad ⊢;exact ad
  have cc:∀ e∈(ops[i]).after.toList,Region.binds .any e=true->r.getD e.on false=true:=by
   intro e he hb;have:=a6 e (by simpa using he);simpa[hb]using this
  obtain⟨U,t,hU,ht,b2⟩:=qS a3 i ops[i] (by simp);have b3:∀ (j:Nat) (o:Oper),ops[j]?=some o->(λk=>r.getD k false=true) j->∀ e∈o.after.toList,Region.binds .any e=true->(λk=>r.getD k false=true) e.on:=b4;obtain⟨e7,_,_⟩:=b2.1;have O:∀ (j:Nat) (M:Upd),us[j]?=some M->∃ H,ts[j]?=some H/\(∀ q∈M.map (·.1),q∈H.wr\/q∈H.cw)/\∀ q∈H.wr,q∈M.map (·.1):=by
   intro j M J;have a5:j<ops.size:=by
    have:=(BQ.1 J).1;omega
   obtain⟨U2,t2,h1,Z,h3⟩:=qS a3 j ops[j] (by simp[a5]);rw[J]at h1;cases h1;exact⟨t2,Z,h3.1.1,h3.1.2.1⟩
  have d1:∀ (j:Nat) (M:Upd),us[j]?=some M->j≠i->r.getD j false≠decide (j<i)->∃ H,ts[j]?=some H/\(∀ q∈M.map (·.1),q∈H.wr\/q∈H.cw)/\(H.apart t=true\/t.apart H=true):=by
   intro j M J b1 u;obtain⟨H,h1,Z,_⟩:=O j M J;refine⟨H,h1,Z,?_⟩;rcases Nat.lt_or_gt_of_ne b1 with bl|e6
   ·have hl:r.getD j false=false:=by
     cases hl:r.getD j false with
     |false=>rfl
     |true=>rw[hl]at u;simp[bl]at u
    rcases lx c3 bl h1 ht with h3|h3
    ·have:=jD b3 (i+1) i (CP _) ops[i] ho cc j h3;rw[hl]at this;cases this
    ·exact .inl h3
   ·have hl:r.getD j false=true:=by
     cases hl:r.getD j false with
     |true=>rfl
     |false=>rw[hl]at u;simp at u;omega
    have a5:j<ops.size:=by
     have:=(BQ.1 J).1;omega
    have b5:ops[j]?=some ops[j]:=BS a5;rcases lx c3 e6 ht h1 with h3|h3
    ·have:=jD b3 (j+1) j (CP _) ops[j] b5 (b4 j _ b5 hl) i h3;rw[X]at this;cases this
    ·exact .inr h3
  have a2:∀ (x y:cJ),x.apart y=true->(∀ q,q∈x.wr\/q∈x.cw->(q∉y.wr/\q∉y.cw)/\q∉y.rd)/\(∀ q,q∈y.wr\/q∈y.cw->(q∉x.wr/\q∉x.cw)/\q∉x.rd)/\(∀ q∈x.wr,q∉y.hd)/\∀ q∈y.wr,q∉x.hd:=by
   intro x y h;unfold cJ.apart at h;simp only[BI,CK]at h;obtain⟨⟨⟨⟨h1,Z⟩,h3⟩,h4⟩,h5⟩:=h;refine⟨λq I=>?_,λq I=>?_,λq I=>fW h4 I,λq I hx=>fW h5 hx I⟩
   ·have I:=BH.2 I;have:=fW h1 I;simp only[BH,not_or]at this;exact⟨this,fW Z I⟩
   ·have I:=BH.2 I;have:q∉x.wr++x.cw:=λhx=>fW h1 hx I
    simp only[BH,not_or]at this;exact⟨this,λhx=>fW h3 hx I⟩
  have bn:∀ (j:Nat) (M:Upd),us[j]?=some M->j≠i->r.getD j false≠decide (j<i)->∀ q∈M.map (·.1),(q∉t.wr/\q∉t.cw)/\q∉t.rd:=by
   intro j M J b1 u q I;obtain⟨H,_,h1,Z⟩:=d1 j M J b1 u;rcases Z with Z|Z
   ·exact (a2 _ _ Z).1 q (h1 q I)
   ·exact (a2 _ _ Z).2.1 q (h1 q I)
  have c2:∀ (j:Nat) (H:cJ),ts[j]?=some H->j≠i->r.getD j false≠decide (j<i)->∀ q∈H.wr,q∉t.hd:=by
   intro j H J b1 u q I;have a5:j<us.length:=by
    have:=(BQ.1 J).1;omega
   obtain⟨t2,h0,_,Z⟩:=d1 j us[j] (BX a5) b1 u;rw[J]at h0;cases h0;rcases Z with Z|Z
   ·exact (a2 _ _ Z).2.2.1 q I
   ·exact (a2 _ _ Z).2.2.2 q I
  have cp:my Γ T ops ops[i] (de (λj=>r.getD j false) us s0) U:=by
   refine b2.frame (λq I=>?_) (λq I=>?_)
   ·refine mA rfl λj M J cu=>?_
    by_cases z:j=i
    ·subst z;rw[X];simp
    ·apply CB;intro u;have:=bn j M J z u q cu;rcases I with I|I
     ·exact this.2 I
     ·exact this.1.1 I
   ·have dc:∀ (j:Nat) (H:cJ),ts[j]?=some H->(λj=>match ts[j]? with|some H=>decide (q∈H.wr)|none=>false) j=decide (q∈H.wr):=λj H h=>by simp only[h]
    have e1:=qT (q:=q) (D:=λj=>r.getD j false) (F:=λj=>match ts[j]? with|some H=>decide (q∈H.wr)|none=>false) (s:=s0) (sF:=s0) (B:=True) a3 dc rfl (λ_=>rfl) (λj H M J hU hD hw dd=>by
     refine⟨trivial,λk t2 hk cb cy=>?_⟩;obtain⟨t3,h3,h4,_⟩:=O j M hU;rw[J]at h3;cases h3;have e5:=(h4 q dd).resolve_left hw;have a5:j<ops.size:=by
      have:=(BQ.1 hU).1;omega
     have b5:ops[j]?=some ops[j]:=BS a5;rcases lx c3 hk cb J with h5|h5
     ·exact jD b3 (j+1) j (CP _) ops[j] b5 (b4 j _ b5 hD) k h5
     ·exact absurd e5 ((a2 _ _ h5).1 q (.inl cy)).1.2)
    have e2:=qT (q:=q) (D:=λj=>decide (j<i)) (F:=λj=>match ts[j]? with|some H=>decide (q∈H.wr)|none=>false) (s:=s0) (sF:=s0) (B:=True) a3 dc rfl (λ_=>rfl) (λj H M J hU hD hw dd=>by
     refine⟨trivial,λk t2 hk cb cy=>?_⟩;have:=of_decide_eq_true hD;exact decide_eq_true (by omega))
    rw[e1,e2];congr 1;refine mA rfl λj M J cu=>?_
    obtain⟨H,h1,Z,_⟩:=O j M J;simp only[h1];by_cases hw:q∈H.wr
    ·rw[decide_eq_true hw,Ch,Ch];by_cases z:j=i
     ·subst z;rw[X];simp
     ·apply CB;intro u;exact c2 j H h1 z u q hw I
    ·rw[decide_eq_false hw,Ca,Ca]
  refine wH hV hT hΓ ho (ed i _ ho) (bb i _ ho) cp hr λa' w' eb=>?_
  have a9:∀ (b:Bool) (j:Nat),(r.setIfInBounds i true).getD j b=if j=i then true else r.getD j b:=by
   intro b j;simp only[BT,Array.getElem?_setIfInBounds];by_cases z:j=i
   ·subst z;simp[a1,b0]
   ·rw[if_neg (λe=>z e.symm),if_neg z]
  refine ih _ a' w' (by simpa using a1) ?_ ?_ ?_
  ·have:=qk (p:=λj=>!r.getD j true) (p':=λj=>!(r.setIfInBounds i true).getD j true) (i:=i) (by simp[ad]) (by simp[a9]) (λj J=>by simp[a9,J]) (DF ops.size) List.nodup_range (by simpa using b0);omega
  ·intro j o' J c4 e he hb;rw[a9]at c4 ⊢;by_cases cx:e.on=i
   ·rw[if_pos cx]
   ·rw[if_neg cx];by_cases z:j=i
    ·subst z;rw[ho]at J;cases J;exact cc e he hb
    ·rw[if_neg z]at c4;exact b4 j o' J c4 e he hb
  ·have d3:=oH (U:=U) (us:=us) (i:=i) (D:=λj=>r.getD j false) (D':=λj=>(r.setIfInBounds i true).getD j false) (s:=s0) hU X (λj=>by
     simp only[a9];by_cases z:j=i
     ·subst z;simp
     ·have:BP j i=false:=by
       cases hb:BP j i with
       |false=>rfl
       |true=>exact absurd (BN hb) z
      simp[z,this])
    (λj M J ej hD q I e3=>by
     have:=bn j M J (by omega) (by rw[hD];simp;omega) q e3;exact (e7 q I).elim this.1.1 this.1.2)
   rw[d3];exact eb
theorem By (hV:ay V)(hT:TOk P T)(hΓ:∀ c∈Γ,bO P c)(O:P.follows .mixedOrders=true){id:Nat}{ops:Array Oper}{y:Bool}(J:∀ (i:Nat) (o:Oper),ops[i]?=some o->bM V o)
  (u:∀ (i:Nat) (o:Oper),ops[i]?=some o->∀ j X,o.guard=some (j,X)->∀ s,(ops[j]?).bind (·.dst)=some s->s<V.nt) {Q:Exit->Act->World->Prop} {κ:St->Option R} {r:R}
  (h:regK Γ T ops y st κ=some r) (hκ:∀ H,κ H=some r->∀ a w,Rel P V H a w->Q .normal a w) {a:Act} {w:World} (Y:Rel P V st a w):(Code.region id ops y).wp P Q a w:=by
 unfold regK at h;cases y with
 |true =>
  simp only[cond_true]at h;obtain⟨us,Z,H,z,I⟩:=pm _ _ _ _ _ h;simp only[CF]at I;cases M:nL ops&&pz (jR ops.toList []) Z with
  |false=>simp[M]at I
  |true =>
   simp only[M,cond_true]at I;simp only[BI]at M;refine wp_region_any O ?_;have hD:∀ j,(CI ops.size false).getD j false=false:=by
    intro j;simp only[BT,Ci];split <;> rfl
   refine Bx hV hT hΓ J u z M.1 M.2 (hκ H I) ops.size (CI ops.size false) a _ (by simp) ?_ ?_ ?_
   ·rw[List.countP_eq_length.2]
    ·simp
    ·intro i hi;have hi:i<ops.size:=by simpa using hi
     simp[BT,Ci,hi]
   ·intro j o' _ hl;rw[hD]at hl;cases hl
   ·rw[nF (λj=>hD j)];obtain⟨W,Y⟩:=Y;exact⟨W,Y.world hV (w':={ w with drawn:=w.drawn+1 }) (Cq _) rfl rfl rfl (λ_ _=>rfl)⟩
 |false =>
  simp only[cond_false]at h;obtain⟨us,Z,H,z,I⟩:=pm _ _ _ _ _ h;refine wp_region ?_;have:=vq hV hT hΓ J u ops.toList 0 st us Z H (by simp) z (hκ H I) a w Y;rw[Cu,<- List.range_eq_range']at this;exact this
end
section
variable {P:Program} {V:Env} {Γ:List Ctr} {T:TypeId->TI} {st st':St} {o:Oper} {R:Type} {all:Array Oper}
theorem kZ (live:List Nat):∀ (cs:List Coe) (ls:List Leaf),(cZ st live cs ls).length=ls.length
 |[],[]=>rfl
 |_::_,[]=>rfl
 |[],_::ls=>by simp[cZ,kZ live [] ls]
 |_::cs,_::ls=>by simp[cZ,kZ live cs ls]
theorem pn (live:List Nat):∀ (cs:List Coe) (ls:List Leaf) (j:Nat) (l:Leaf),(cZ st live cs ls)[j]?=some l->∃ r,ls[j]?=some r/\(l=.dead\/∃ c,l=bw st live c r)
 |[],[],j,l,h=>by simp[cZ]at h
 |_::_,[],j,l,h=>by simp[cZ]at h
 |[],r::ls,0,l,h=>by simp[cZ]at h;exact⟨r,rfl,.inl h.symm⟩
 |c::cs,r::ls,0,l,h=>by simp[cZ]at h;exact⟨r,rfl,.inr ⟨c,h.symm⟩⟩
 |[],r::ls,j+1,l,h=>by
  simp only[cZ,Ck]at h;obtain⟨y,z,u⟩:=pn live [] ls j l h;exact⟨y,by simpa using z,u⟩
 |c::cs,r::ls,j+1,l,h=>by
  simp only[cZ,Ck]at h;obtain⟨y,z,u⟩:=pn live cs ls j l h;exact⟨y,by simpa using z,u⟩
theorem AN (live:List (Nat×List Coe))(q:Nat):l6 live st q=bQ.none/\q∉live.map (·.1)\/∃ y,l6 live st q=⟨0,(st q).sh,cZ st (live.map (·.1)) y (st q).ls⟩/\q∈live.map (·.1):=by
 have M:∀ (u:List Nat) (l:List (Nat×List Coe)),(av (l.map λr=>(r.1,⟨0,(st r.1).sh,cZ st u r.2 (st r.1).ls⟩)) q=bQ.none/\q∉l.map (·.1)) \/
   ∃ y,av (l.map λr=>(r.1,⟨0,(st r.1).sh,cZ st u r.2 (st r.1).ls⟩)) q=⟨0,(st q).sh,cZ st u y (st q).ls⟩/\q∈l.map (·.1):=by
  intro u l;induction l with
  |nil=>exact .inl ⟨rfl,by simp⟩
  |cons x l O =>
   obtain⟨r,y⟩:=x;by_cases h:q=r
   ·subst h;exact .inr ⟨y,by simp[av,ac],by simp⟩
   ·have z:BP q r=false:=by
     cases z:BP q r with
     |false=>rfl
     |true=>exact absurd (BN z) h
    rcases O with ⟨J,H⟩|⟨I,J,H⟩
    ·refine .inl ⟨?_,by simpa[h]using H⟩;rw[<- J];simp[av,ac,z]
    ·refine .inr ⟨I,?_,by simp only[B7,BU];exact .inr H⟩;rw[<- J];simp[av,ac,z]
 exact M (live.map (·.1)) live
theorem yg {keys:List Nat}{c:Coe}{r:Leaf}(h:am (bw st keys c r)):am r\/r=.nil:=by
 cases r with
 |own p y E e u=>exact .inl trivial
 |nil=>exact .inr rfl
 |_ =>
  exfalso;revert h;cases c <;> simp only[bw] <;> first
   |exact id
   |(cases (!_||_:Bool) <;> first | exact id | (split <;> exact id))
   |(cases (_&&_:Bool) <;> exact id)
   |(cases (List.any _ _:Bool) <;> exact id)
   |(cases (List.all _ _:Bool) <;> exact id)
theorem iO.nw {W W':Wit}{w:World}{c:Bool×Bool×(a:Ty)×a.den}{u:Value}(r:∀ k,W.nw k->W'.nw k)(h:iO V W w c u):iO V W' w c u:=by
 have z:∀ (p:Bool) k,gd V W p k->gd V W' p k:=λp k hk=>hk.imp (r k) id
 unfold iO at h ⊢;split at h
 ·rename_i M;rw[if_pos M];obtain⟨b,ob,g,H,X,Y,I,y,J,O,Z⟩:=h;exact⟨b,ob,g,H,X,Y,I.imp (r b) id,y,J.imp (r g) id,Rd.mono (z _) O,Z⟩
 ·rename_i M;rw[if_neg M];obtain⟨g,H,X,Y,J,O,Z⟩:=h;exact⟨g,H,X,Y,J.imp (r g) id,Rd.mono (z _) O,Z⟩
theorem wI {W W':Wit}{w:World}{keys:List Nat}{bs bs':List Nat}{c:Coe}{M:Leaf}{v:Value}(h:aK P V W st w bs M v)
  (H:∀ k,W.nw k->W'.nw k) (hβ:W'.β=W.β) (a6:∀ q,keys.any (BP q)=true->W'.cs q=W.cs q) (J:∀ b,keys.any (BP b)=true->(st b).sh=.agg->(st' b).sh=.agg)
  (a1:am M->bs'=bs) (a0:M=.nil->bs'=[]) (a2:am M->¬ am (bw st keys c M)->(∃ p E e,c=.ro p E e)->∀ k∈bs,W'.nw k) :
  aK P V W' st' w bs' (bw st keys c M) v:=by
 have I:∀ (p q:Bool),(!q||p)=true->∀ k,gd V W q k->gd V W' p k:=by
  intro p q a4 k z;rcases z with z|⟨Z,z⟩
  ·exact .inl (H k z)
  ·refine .inr ⟨?_,z⟩;subst Z;simpa using a4
 cases c with
 |kill=>simp only[bw];trivial
 |keep =>
  cases M with
  |int k n=>exact h
  |bool b=>exact h
  |str s=>exact h
  |nil=>exact h
  |hdr n=>exact h
  |fn As B φ=>exact h
  |clr f O =>
   obtain⟨us,Z,h2,h3⟩:=h;exact⟨us,Z,h2,λi c u g1 g2=>(h3 i c u g1 g2).nw H⟩
  |al r j n =>
   simp only[bw];cases y:keys.any (BP r)&&BP (st r).ver n with
   |false=>trivial
   |true =>
    simp only[BI]at y;exact⟨DB _,λ_=>by rw[a6 r y.1];exact h.2 (BN y.2)⟩
  |bp b off =>
   simp only[bw];cases y:keys.any (BP b) with
   |false=>trivial
   |true =>
    obtain⟨Z,h2,h3⟩:=h;exact⟨Z,J b y h2,by rw[hβ];exact h3⟩
  |clo f O =>
   simp only[bw];cases y:O.all (λb=>keys.any (BP b)) with
   |false=>trivial
   |true =>
    obtain⟨Z,h2⟩:=h;rw[B6]at y;exact⟨by rw[hβ];exact Z,λb X=>⟨(h2 b X).1,J b (y b X) (h2 b X).2⟩⟩
  |_=>simp only[bw];trivial
 |own p E e =>
  cases M with
  |nil =>
   have hv:v=.slice none 0 0:=h;subst hv;rw[a0 rfl];exact OwH.nil w _ E e
  |own q hh E' e' xs =>
   cases hh with
   |some x=>simp only[bw];trivial
   |none =>
    simp only[bw];cases y:(!q||p) with
    |false=>trivial
    |true =>
     rw[a1 trivial];exact OwH.carry h (I p q y) (λ_ _=>rfl) (λ_ _=>rfl)
  |_=>simp only[bw];trivial
 |ro p E e =>
  cases M with
  |nil =>
   have hv:v=.slice none 0 0:=h;subst hv;exact Rd.nil w _ false E e
  |ro q E' e' xs =>
   simp only[bw];cases y:(!q||p) with
   |false=>trivial
   |true =>
    simp only[cond_true];split
    ·rename_i ys hc;exact Rd.castSh (m:=false) (m':=false) (E:=E) hc (Rd.mono (I p q y) h)
    ·trivial
  |own q hh E' e' xs =>
   cases hh with
   |some x=>simp only[bw];trivial
   |none =>
    have a5:=a2 trivial (by
     simp only[bw];cases (!q||p) with
     |false=>exact id
     |true=>simp only[cond_true];split <;> exact id) ⟨p,E,e,rfl⟩
    simp only[bw];cases y:(!q||p) with
    |false=>trivial
    |true =>
     simp only[cond_true];split
     ·rename_i ys hc;refine Rd.castSh (m:=false) (m':=false) (E:=E) (E':=E') hc (Rd.mono (λk z=>?_) (OwH.rd (m:=false) (E':=E') h));rcases z with z|z
      ·exact I p q y k z
      ·exact .inl (a5 k z)
     ·trivial
  |_=>simp only[bw];trivial
 |rp p =>
  cases M with
  |rpp q a x =>
   simp only[bw];cases y:(!q||p) with
   |false=>trivial
   |true =>
    obtain⟨b,ob,g,o',c,hv,a3,Y,hg,hr,hc⟩:=h;exact⟨b,ob,g,o',c,hv,a3.imp (H b) id,Y,hg.imp (H g) id,Rd.mono (I p q y) hr,hc⟩
  |rp q a x off =>
   simp only[bw];cases y:(!q||p) with
   |false=>trivial
   |true =>
    obtain⟨g,o',c,hv,hg,hr,hc⟩:=h;exact⟨g,o',c,hv,hg.imp (H g) id,Rd.mono (I p q y) hr,hc⟩
  |_=>simp only[bw];trivial
open Classical in
theorem vt (_hV:ay V){a:Act}{w:World}(h:Rel P V st a w)(live:List (Nat×List Coe))(a4:∀ x∈V.fixb,x.1∈live.map (·.1)):Rel P V (l6 live st) a w:=by
 obtain⟨W,h⟩:=h;have J:=AN (st:=st) live;have X:∀ b,Go.Proofs.YtaegajachoklkaaGreatEv.live (l6 live st) b->Go.Proofs.YtaegajachoklkaaGreatEv.live st b:=by
  rintro b ⟨I,z⟩;rcases J b with ⟨e,_⟩|⟨cs,e,_⟩
  ·rw[e]at z;cases z
  ·rw[e]at z;exact⟨I,z⟩
 have a1:∀ (q j:Nat) (l:Leaf),(l6 live st q).ls[j]?=some l->q∈live.map (·.1)/\∃ r,(st q).ls[j]?=some r/\(l=.dead\/∃ c,l=bw st (live.map (·.1)) c r):=by
  intro q j l Y;rcases J q with ⟨e,_⟩|⟨cs,e,H⟩
  ·rw[e]at Y;simp[bQ.none]at Y
  ·rw[e]at Y;exact⟨H,pn _ _ _ _ _ Y⟩
 have b5:∀ (q j:Nat) (l:Leaf),(l6 live st q).ls[j]?=some l->am l->∃ r,(st q).ls[j]?=some r/\(am r\/r=.nil):=by
  intro q j l Y ho;obtain⟨_,r,I,z⟩:=a1 q j l Y;rcases z with rfl|⟨c,rfl⟩
  ·exact ho.elim
  ·exact⟨r,I,yg ho⟩
 have a0:∀ b,(live.map (·.1)).any (BP b)=true->b∈live.map (·.1):=λb O=>by
  rw[CV]at O;obtain⟨x,hx,he⟩:=O;rw[BN he];exact hx
 let y:Nat->Nat->List Nat:=λq j=>if (∃ r,(st q).ls[j]?=some r/\am r) then W.bs q j else []
 let a2:Nat->Prop:=λk=>W.nw k\/∃ q j r l,(st q).ls[j]?=some r/\am r/\(l6 live st q).ls[j]?=some l/\¬ am l/\k∈W.bs q j
 have Z:∀ (q j k:Nat),k∈y q j->(∃ r,(st q).ls[j]?=some r/\am r)/\k∈W.bs q j:=by
  intro q j k M;by_cases hc:∃ r,(st q).ls[j]?=some r/\am r
  ·simp only[y,if_pos hc]at M;exact⟨hc,M⟩
  ·simp only[y,if_neg hc]at M;simp at M
 refine⟨{ β:=W.β,cs:=λq=>if q∈live.map (·.1) then W.cs q else [],bs:=y,nw:=a2 },?_⟩
 exact {
  nt:=h.nt,df:=h.df
  slots:=λt ht=>by
   rcases J t with ⟨e,H⟩|⟨cs,e,H⟩
   ·rw[e];simp[H,bQ.none,ee]
   ·rw[e];simp only[H,if_true];exact h.slots t ht
  boxes:=λb O=>by
   rcases J b with ⟨e,H⟩|⟨cs,e,H⟩
   ·rw[e];exact .inl ⟨rfl,rfl⟩
   ·rw[e];rcases h.boxes b O with ⟨I,z⟩|⟨I,E,z⟩
    ·exact .inl ⟨I,by rw[z];exact List.eq_nil_of_length_eq_zero (by rw[kZ];rfl)⟩
    ·exact .inr ⟨I,E,by simp only[H,if_true];exact z⟩
  len:=λq=>by
   rcases J q with ⟨e,H⟩|⟨cs,e,H⟩
   ·rw[e];simp[H,bQ.none]
   ·rw[e];simp only[H,if_true,kZ];exact h.len q
  one:=λq u hu=>by
   by_cases H:q∈live.map (·.1)
   ·simp only[H,if_true]at hu;exact h.one q u hu
   ·simp only[H,if_false]at hu;simp at hu
  leaf:=λq j l v Y hv=>by
   obtain⟨H,r,I,z⟩:=a1 q j l Y;simp only[H,if_true]at hv;have b3:=h.leaf q j r v I hv;rcases z with rfl|⟨c,rfl⟩
   ·trivial
   ·refine wI (st:=st) (W:=W) (W':={ β:=W.β,cs:=λq=>if q∈live.map (·.1) then W.cs q else [],bs:=y,nw:=a2 }) (keys:=live.map (·.1)) b3 (λk M=>Or.inl M) rfl (λq hq=>if_pos (a0 q hq)) ?_ ?_ ?_ ?_
    ·intro b O b0;have a5:=a0 b O;rcases J b with ⟨_,b4⟩|⟨cs,e,_⟩
     ·exact absurd a5 b4
     ·rw[e];exact b0
    ·intro ho;show y q j=_;simp only[y,if_pos (⟨r,I,ho⟩:∃ r,(st q).ls[j]?=some r/\am r)]
    ·intro e;show y q j=_;have hc:¬ ∃ r,(st q).ls[j]?=some r/\am r:=by
      rintro⟨l1,h3,h4⟩;rw[I,e]at h3;cases h3;exact h4.elim
     simp only[y,if_neg hc]
    ·intro ho hn _ k M;exact .inr ⟨q,j,r,_,I,ho,Y,hn,M⟩
  ownb:=λq j l Y ho k M=>by
   obtain⟨⟨r,I,z⟩,h3⟩:=Z q j k M;obtain⟨q1,q2,q3⟩:=h.ownb q j r I z k h3;refine⟨?_,q2,λb O=>q3 b (X b O)⟩;rintro (hn|⟨q',j',l1,l2,h4,h5,h6,h7,h8⟩)
   ·exact q1 hn
   ·obtain⟨rfl,rfl⟩:=h.sep q j r q' j' l1 I z h4 h5 k h3 h8;rw[Y]at h6;cases h6;exact h7 ho
  sep:=λq j l q' j' l' _ _ _ _ k M b1=>by
   obtain⟨⟨r,I,z⟩,h3⟩:=Z q j k M;obtain⟨⟨a6,a9,ad⟩,b2⟩:=Z q' j' k b1;exact h.sep q j r q' j' a6 I z a9 ad k h3 b2
  box:=λb O=>by
   obtain⟨q1,q2⟩:=h.box b (X b O);refine⟨?_,q2⟩;rintro (hn|⟨q',j',l1,l2,h4,h5,h6,h7,h8⟩)
   ·exact q1 hn
   ·exact (h.ownb q' j' l1 h4 h5 _ h8).2.2 b (X b O) rfl
  inj:=λb b' O a3=>h.inj b b' (X b O) (X b' a3)
  nwlt:=λk M=>by
   rcases M with hn|⟨q',j',l1,l2,h4,h5,h6,h7,h8⟩
   ·exact h.nwlt k hn
   ·exact⟨h.own_lt h4 h5 k h8,(h.ownb q' j' l1 h4 h5 k h8).2.1⟩
  os:=h.os,tape:=h.tape,output:=h.output,size:=h.size,keep:=h.keep
  fixb:=λx hx=>by
   obtain⟨⟨I,z⟩,h3⟩:=h.fixb x hx;refine⟨⟨I,?_⟩,h3⟩;rcases J x.1 with ⟨_,H⟩|⟨cs,e,_⟩
   ·exact absurd (a4 x hx) H
   ·rw[e];exact z
  fixt:=h.fixt }
def exOf:Ex->Exit
 |.normal=>.normal
 |.exit id=>.exit id
 |.ret=>.ret
theorem mB {nt:Nat}{fix:List Nat}(u:V.nt=nt)(r:∀ x∈V.fixt,x.1∈fix)(h:lD nt fix all o=true):bM V o:=by
 intro d H;simp only[lD,H,BI,CK,Cf]at h;obtain⟨⟨I,z⟩,_⟩:=h;refine⟨by rw[u];simpa[CS]using I,λx y e=>?_⟩;exact z _ (r x y) (by simp[e])
end
section
variable {P:Program} {V:Env} {Γ:List Ctr} {T:TypeId->TI} {R:Type}
open Classical in
theorem tU {Q:Exit->Act->World->Prop}{a:Act}{w:World}{c:Code}(J:Nat->Act->World->Prop)(h0:∃ n,J n a w)(hz:∀ a w,¬ J 0 a w)
  (u:∀ n a w,J (n+1) a w->c.wp P (Exit.then (J n) Q) a w):(Code.loop c).wp P Q a w:=by
 have y:∀ (a:Act) (w:World) (n:Nat),J n a w->∃ m,J m a w/\m<=n/\∀ k,J k a w->m<=k:=by
  intro a w n;induction n using DE with
  |ind n ih =>
   intro H;by_cases h:∃ k,k<n/\J k a w
   ·obtain⟨k,I,hJ⟩:=h;obtain⟨m,r,O,M⟩:=ih k I hJ;exact⟨m,r,by omega,M⟩
   ·refine⟨n,H,Cq _,λk I=>?_⟩;apply CB;intro a0;exact h ⟨k,by omega,I⟩
 let z:Act->World->Nat:=λa w=>if h:∃ m,J m a w/\∀ k,J k a w->m<=k then h.choose else 0
 have hμ:∀ a w n,J n a w->J (z a w) a w/\z a w<=n:=by
  intro a w n H;obtain⟨m,r,_,M⟩:=y a w n H;have h:∃ m,J m a w/\∀ k,J k a w->m<=k:=⟨m,r,M⟩;have e:z a w=h.choose:=by simp only[z];rw[dif_pos h]
  rw[e];exact⟨h.choose_spec.1,h.choose_spec.2 n H⟩
 refine wp_loop (λa w=>∃ n,J n a w) z h0 λa w ⟨n,H⟩=>?_
 obtain⟨r,_⟩:=hμ a w n H;cases Z:z a w with
 |zero=>rw[Z]at r;exact absurd r (hz a w)
 |succ m =>
  rw[Z]at r;refine wp_mono (u m a w r) λe a' X Y=>?_
  cases e with
  |normal =>
   have O:J m a' X:=Y;exact⟨⟨m,O⟩,Nat.lt_succ_of_le (hμ a' X m O).2⟩
  |_=>exact Y
theorem zy {st:St}{a:Act}{w:World}(u:Rel P V st a w){t:Nat}(y:t<GH){b:Bool}(I:(st t).sh=.one)(z:(st t).ls=[.bool b]):a.eval (.tmp t)=.bool b:=by
 obtain⟨W,u⟩:=u;have r:=u.slots t y;rw[I]at r;have r:W.cs t=[a.tmps.getD t undef]:=r;have H:=u.leaf t 0 (.bool b) (a.tmps.getD t undef) (by rw[z];rfl) (by rw[r];rfl);exact H
theorem sq (hV:ay V)(hT:TOk P T)(hΓ:∀ c∈Γ,bO P c)(a4:P.follows .mixedOrders=true){fx:List Nat}(a5:∀ x∈V.fixb,x.1∈fx){nt:Nat}{fix:List Nat}(a1:V.nt=nt)(a3:∀ x∈V.fixt,x.1∈fix)
  {L:List (Nat×List (Nat×List Coe))} {X:Nat}:∀ (c:Code),dP nt fix c=true->dl L fx c=true->∀ (st:St) (I:Ex->St->Option R) (r:R) (Q:Exit->Act->World->Prop),evK Γ T L X c st I=some r ->
   (∀ ex J,I ex J=some r->∀ a w,Rel P V J a w->Q (exOf ex) a w)->∀ a w,Rel P V st a w->c.wp P Q a w:=by
 intro c;induction c with
 |skip=>exact λ_ _ st I r Q h z a w u=>wp_skip (z .normal st h a w u)
 |region id a2 a6 =>
  intro hc hlp st I r Q h z a w u;simp only[dP,B6]at hc;have a0:∀ (i:Nat) (o:Oper),a2[i]?=some o->lD nt fix a2 o=true:=λi o hi=>hc o (by simpa using Co hi)
  refine By hV hT hΓ a4 (λi o hi=>mB a1 a3 (a0 i o hi)) (λi o hi j a9 hg s hs=>?_) h (λJ H a w u=>z .normal J H a w u) u;have:=a0 i o hi;simp only[lD,hg,hs,BI]at this;rw[a1];simpa[CS]using this.2
 |seq x y Y Z =>
  intro hc hlp st I r Q h z a w u;simp only[dP,BI]at hc;simp only[dl,BI]at hlp;simp only[evK]at h;refine wp_seq (Y hc.1 hlp.1 st _ r _ h (λex J H a w u=>?_) a w u);cases ex with
  |normal=>exact Z hc.2 hlp.2 J I r Q H z a w u
  |exit id=>exact z (.exit id) J H a w u
  |ret=>exact z .ret J H a w u
 |cond t x y Y Z =>
  intro hc hlp st I r Q h z a w u;simp only[dP,BI]at hc;simp only[dl,BI]at hlp;simp only[evK]at h;unfold zG at h;split at h
  ·rename_i t;split at h
   ·rename_i b H h2;have hv:=zy u (C0 (by have:=hc.1.1;simp only[wN,CS]at this;rw[a1];exact this) hV.nt) H h2;cases b with
    |true =>
     simp only[cond_true]at h;rw[pj H h2]at h;exact wp_cond_true hv (Y hc.1.2 hlp.1 st I r Q h z a w u)
    |false =>
     simp only[cond_false]at h;rw[pj H h2]at h;exact wp_cond_false hv (Z hc.2 hlp.2 st I r Q h z a w u)
   ·cases h
  ·rename_i b;cases b with
   |true=>exact wp_cond_true rfl (Y hc.1.2 hlp.1 st I r Q h z a w u)
   |false=>exact wp_cond_false rfl (Z hc.2 hlp.2 st I r Q h z a w u)
  ·cases h
 |block id c ih =>
  intro hc hlp st I r Q h z a w u;simp only[dP]at hc;simp only[dl]at hlp;simp only[evK]at h;refine wp_block (ih hc hlp st _ r _ h (λex J H a w u=>?_) a w u);cases ex with
  |normal=>exact z .normal J H a w u
  |exit M =>
   simp only[sw]at H;show if M=id then Q .normal a w else Q (.exit M) a w
   by_cases e:M=id
   ·rw[if_pos e];subst e;simp only[Nat.beq_refl,cond_true]at H;exact z .normal J H a w u
   ·rw[if_neg e];have hb:BP M id=false:=by
     cases hb:BP M id with
     |false=>rfl
     |true=>exact absurd (BN hb) e
    rw[hb]at H;exact z (.exit M) J H a w u
  |ret=>exact z .ret J H a w u
 |loop c ih =>
  intro hc hlp st I r Q h z a w u;simp only[dP]at hc;simp only[dl,BI,B6]at hlp;simp only[evK]at h;have O:∀ x∈V.fixb,x.1∈(lC L (eV c)).map (·.1):=λx hx=>by
   obtain⟨r,u,he⟩:=CV.1 (hlp.1 x.1 (a5 x hx));exact BR.2 ⟨r,u,BN he⟩
  refine tU (λn a w=>∃ st,aX (lC L (eV c)) (evK Γ T L X c) n st I=some r/\Rel P V st a w) ⟨X,_,h,vt hV u _ O⟩ ?_ ?_
  ·rintro a w ⟨st,H,_⟩;cases H
  ·rintro n a w ⟨st,H,u⟩;simp only[aX]at H;refine ih hc hlp.2 st _ r _ H (λex J h2 a w u=>?_) a w u;cases ex with
   |normal=>exact⟨_,h2,vt hV u _ O⟩
   |exit id=>exact z (.exit id) J h2 a w u
   |ret=>exact z .ret J h2 a w u
 |exit id=>exact λ_ _ st I r Q h z a w u=>wp_exit (z (.exit id) st h a w u)
 |ret=>exact λ_ _ st I r Q h z a w u=>wp_ret (z .ret st h a w u)
 |_=>intro _ _ st I r Q h;simp[evK]at h
end
section
variable {P:Program} {Γ:List Ctr} {T:TypeId->TI} {R:Type} {w:World} {ro pr:Nat->Prop}
theorem jd {G:Nat->Prop}{p:Bool}:∀ {b:Ty} {h:Option Nat} {pos:Nat} {x:b.den} {cs:List Value} {bs:List Nat},Mx w G b h pos x cs bs->bs.Nodup ->
  ∃ a2:Nat->List Nat,
   (∀ (V:Env) (W:Wit) (st:St),(∀ k,G k->gd V W p k)->∀ (j:Nat) (l:Leaf) (u:Value),h≠some (pos+j)->(aq p b x)[j]?=some l->cs[j]?=some u->aK P V W st w (a2 j) l u) /\
   (∀ (j:Nat) (l:Leaf),h≠some (pos+j)->(aq p b x)[j]?=some l->am l->∀ k∈a2 j,k∈bs) /\
   (∀ (j J:Nat) (l l':Leaf),h≠some (pos+j)->h≠some (pos+J)->(aq p b x)[j]?=some l->am l->(aq p b x)[J]?=some l'->am l'->∀ k,k∈a2 j->k∈a2 J->j=J)
 |.int k,_,_,x,cs,bs,H,_=>by
  obtain⟨rfl,rfl⟩:=H;exact⟨λ_=>[],λV W st _ j l u _ y X=>by cases j with|zero=>simp[aq]at y X;subst y;subst X;rfl|succ j=>simp[aq]at y,λj l _ y _ k r=>by simp at r,λj J l l' _ _ _ _ _ _ k r=>by simp at r⟩
 |.bool,_,_,x,cs,bs,H,_=>by
  obtain⟨rfl,rfl⟩:=H;exact⟨λ_=>[],λV W st _ j l u _ y X=>by cases j with|zero=>simp[aq]at y X;subst y;subst X;rfl|succ j=>simp[aq]at y,λj l _ y _ k r=>by simp at r,λj J l l' _ _ _ _ _ _ k r=>by simp at r⟩
 |.str,_,_,x,cs,bs,H,_=>by
  obtain⟨rfl,rfl⟩:=H;exact⟨λ_=>[],λV W st _ j l u _ y X=>by cases j with|zero=>simp[aq]at y X;subst y;subst X;rfl|succ j=>simp[aq]at y,λj l _ y _ k r=>by simp at r,λj J l l' _ _ _ _ _ _ k r=>by simp at r⟩
 |.unit,_,_,x,cs,bs,H,_=>by
  obtain⟨rfl,rfl⟩:=H;exact⟨λ_=>[],λV W st _ j l u _ y X=>by simp[aq]at y,λj l _ y _ k r=>by simp at r,λj J l l' _ _ _ _ _ _ k r=>by simp at r⟩
 |.hdr,_,_,x,cs,bs,H,_=>by
  obtain⟨⟨A,a9,rfl⟩,rfl⟩:=H;exact⟨λ_=>[],λV W st _ j l u _ y X=>by cases j with|zero=>simp[aq]at y X;subst y;subst X;exact⟨A,a9,rfl⟩|succ j=>simp[aq]at y,λj l _ y _ k r=>by simp at r,λj J l l' _ _ _ _ _ _ k r=>by simp at r⟩
 |.pair b c,h,pos,x,cs,bs,⟨c1,c2,b1,b2,e1,e2,y,X⟩,Y=>by
  subst e1;subst e2;rw[CN]at Y;obtain⟨d1,f2,f3,f4⟩:=jd y Y.1;obtain⟨d2,g2,g3,g4⟩:=jd X Y.2.1;have ad:=cF p b x.1;have b0:=y.len;have I:∀ (j:Nat) (l:Leaf),(aq p b x.1++aq p c x.2)[j]?=some l->(j<b.cells/\(aq p b x.1)[j]?=some l)\/(b.cells<=j/\(aq p c x.2)[j-b.cells]?=some l):=by
   intro j l z;by_cases M:j<b.cells
   ·rw[CA (by omega)]at z;exact .inl ⟨M,z⟩
   ·rw[B8 (by omega),ad]at z;exact .inr ⟨by omega,z⟩
  have a1:∀ j,b.cells<=j->h≠some (pos+j)->h≠some (pos+b.cells+(j-b.cells)):=λj z hh=>by rwa [show pos+b.cells+(j-b.cells)=pos+j by omega]
  refine⟨λj=>if j<b.cells then d1 j else d2 (j-b.cells),λV W st hG j l u hh z hu=>?_,λj l hh z ho k r=>?_,λj J l l' hh a3 z ho Z a4 k r O=>?_⟩
  ·rcases I j l z with ⟨M,z⟩|⟨a0,z⟩
   ·rw[CA (by omega)]at hu;simp only[if_pos M];exact f2 V W st hG j l u hh z hu
   ·rw[B8 (by omega),b0]at hu;simp only[if_neg (show ¬ j<b.cells by omega)];exact g2 V W st hG _ l u (a1 j a0 hh) z hu
  ·rcases I j l z with ⟨M,z⟩|⟨a0,z⟩
   ·simp only[if_pos M]at r;exact BJ _ (f3 j l hh z ho k r)
   ·simp only[if_neg (show ¬ j<b.cells by omega)]at r;exact BK _ (g3 _ l (a1 j a0 hh) z ho k r)
  ·rcases I j l z with ⟨M,z⟩|⟨a0,z⟩ <;> rcases I J l' Z with ⟨a6,Z⟩|⟨a5,Z⟩
   ·simp only[if_pos M]at r;simp only[if_pos a6]at O;exact f4 j J l l' hh a3 z ho Z a4 k r O
   ·simp only[if_pos M]at r;simp only[if_neg (show ¬ J<b.cells by omega)]at O;exact absurd rfl (Y.2.2 k (f3 j l hh z ho k r) k (g3 _ l' (a1 J a5 a3) Z a4 k O))
   ·simp only[if_neg (show ¬ j<b.cells by omega)]at r;simp only[if_pos a6]at O;exact absurd rfl (Y.2.2 k (f3 J l' a3 Z a4 k O) k (g3 _ l (a1 j a0 hh) z ho k r))
   ·simp only[if_neg (show ¬ j<b.cells by omega)]at r;simp only[if_neg (show ¬ J<b.cells by omega)]at O;have:=g4 _ _ l l' (a1 j a0 hh) (a1 J a5 a3) z ho Z a4 k r O;omega
 |.list m E e,h,pos,xs,cs,bs,H,Y=>by
  cases m with
  |false =>
   rw[cn]at H;obtain⟨rfl,A,a9,rfl,X,h3⟩:=H;refine⟨λ_=>[],λV W st hG j l u _ y h4=>?_,λj l _ y _ k r=>by simp at r,λj J l l' _ _ _ _ _ _ k r=>by simp at r⟩;cases j with
   |zero =>
    simp[aq]at y h4;subst y;subst h4;exact Rd.mono hG (⟨A,a9,rfl,X,h3⟩:Rd w G (.list false E e) xs _)
   |succ j=>simp[aq]at y
  |true =>
   refine⟨λ_=>bs,λV W st hG j l u hh y h4=>?_,λj l _ y _ k r=>r,λj J l l' _ _ y _ h3 _ k _ _=>?_⟩
   ·cases j with
    |zero =>
     rw[Nat.add_zero]at hh;rw[bI hh]at H;obtain⟨v,rfl,hO⟩:=H;simp[aq]at y h4;subst y;subst h4;exact⟨Y,OwB.shy (hO.carry hG (λ_ _=>rfl) (λ_ _=>rfl))⟩
    |succ j=>simp[aq]at y
   ·have h7:j<1:=by simpa[aq]using (BQ.1 y).1
    have h8:J<1:=by simpa[aq]using (BQ.1 h3).1
    omega
theorem mC {p:Bool}{off:Nat}:∀ {a:Ty} {pos:Nat} {x:a.den} {E:TypeId} {e:Ty} {xs:List e.den},bd off a pos x=some ⟨E,e,xs⟩->(aq p a x)[off-pos]?=some (.own (p&&e.shy) none E e xs)
 |.pair a b,pos,x,E,e,xs,h=>by
  have H:=cF p a x.1;simp only[bd]at h;simp only[aq];split at h
  ·rename_i u z;simp only[BG]at h;subst h;have y:=gx z;rw[CA (by omega)];exact mC z
  ·have y:=gx h;rw[B8 (by omega),H,show off-pos-a.cells=off-(pos+a.cells) by omega];exact mC h
 |.list m J M,pos,I,E,e,xs,h=>by
  simp only[bd]at h;cases r:m&&BP pos off with
  |false=>simp[r]at h
  |true =>
   rw[r]at h;simp only[cond_true,BG,Sigma.mk.injEq]at h;obtain⟨rfl,h⟩:=h;simp only[BI]at r;obtain⟨rfl,r⟩:=r;have r:=BN r;subst r;rw[heq_eq_eq,Sigma.mk.injEq]at h;obtain⟨rfl,h⟩:=h;rw[heq_eq_eq]at h;subst h;simp[aq]
 |.int _,_,_,_,_,_,h=>by simp[bd]at h
 |.bool,_,_,_,_,_,h=>by simp[bd]at h
 |.str,_,_,_,_,_,h=>by simp[bd]at h
 |.unit,_,_,_,_,_,h=>by simp[bd]at h
 |.hdr,_,_,_,_,_,h=>by simp[bd]at h
theorem tV (V:Env)(W:Wit)(I:V.ro0=ro)(r:V.prot=pr):∀ {cs:List (Bool×Ty)} {x:lV cs} {us:List Value},jO w ro pr cs x us->us.length=(j9 true cs x).length /\
  ∀ (i:Nat) (c:Bool×Bool×(a:Ty)×a.den) (u:Value),(j9 true cs x)[i]?=some c->us[i]?=some u->iO V W w c u
 |[],_,us,h=>by
  have h:us=[]:=h;subst h;exact⟨rfl,λi c u z _=>by simp[j9]at z⟩
 |c::cs,x,us,⟨u,a0,e,z,h2⟩=>by
  subst e;obtain⟨i1,i2⟩:=tV V W I r h2;refine⟨by simp[j9,i1],λi c' u' O X=>?_⟩;cases i with
  |succ i=>exact i2 i c' u' (by simpa[j9]using O) (by simpa using X)
  |zero =>
   simp[j9]at O X;subst O;subst X;have hG:∀ k,ro k->gd V W true k:=λk hk=>.inr ⟨rfl,by rw[I];exact hk⟩
   unfold iO;unfold gR at z;split at z
   ·rename_i H;simp only[H,if_true];obtain⟨b,ob,g,o,Z,hv,J,y,M,Y,hc⟩:=z;exact⟨b,ob,g,o,Z,hv,.inr (by rw[r];exact J),y,.inr (by rw[r];exact M),Y.mono hG,hc⟩
   ·rename_i H;have H:c.1=false:=by simpa using H
    simp only[H,CZ,if_false];obtain⟨g,o,Z,hv,M,Y,hc⟩:=z;exact⟨g,o,Z,by rw[hv];rfl,.inr (by rw[r];exact M),Y.mono hG,hc⟩
structure Ent where
 r:Nat
 c:bQ
 cs:List Value
 bs:Nat->List Nat
 bl:List Nat
 g:Nat
structure ql (P:Program) (w:World) (ro pr:Nat->Prop) (bx:List (Nat×Nat)) (e:Ent):Prop where
 len:e.c.ls.length=e.cs.length
 one:∀ u∈e.cs,u.oneCell'=true
 leaf:∀ (V:Env) (W:Wit) (st:St),V.w0=w->V.ro0=ro->V.prot=pr->(∀ z∈bx,B0<=z.1/\(st z.1).sh=.agg/\W.β z.1=z.2)->∀ (j:Nat) (l:Leaf) (u:Value),e.c.ls[j]?=some l->e.cs[j]?=some u->aK P V W st w (e.bs j) l u
 own:∀ (j:Nat) (l:Leaf),e.c.ls[j]?=some l->am l->∀ k∈e.bs j,k∈e.bl
 sep:∀ (j j':Nat) (l l':Leaf),e.c.ls[j]?=some l->am l->e.c.ls[j']?=some l'->am l'->∀ k,k∈e.bs j->k∈e.bs j'->j=j'
 box:B0<=e.r->e.c.sh=.agg/\e.g∈e.bl/\(∀ (j:Nat) (l:Leaf),e.c.ls[j]?=some l->am l->e.g∉e.bs j)/\(∃ E,w.heap[e.g]?=some (.cells e.cs.toArray E (0,0)))/\(e.r,e.g)∈bx
theorem ql.mono {u r:List (Nat×Nat)}{e:Ent}(h:ql P w ro pr u e)(y:∀ z∈u,z∈r):ql P w ro pr r e :=
  { len:=h.len,one:=h.one,own:=h.own,sep:=h.sep
    leaf:=λV W st Z X J M=>h.leaf V W st Z X J (λz hz=>M z (y z hz))
    box:=λY=>by obtain⟨I,q2,H,O,q5⟩:=h.box Y;exact⟨I,q2,H,O,y _ q5⟩ }
structure wJ (P:Program) (w:World) (ro pr:Nat->Prop) (t:Nat) (pk:PK) (v:Value) (b:List Nat) (bx:List (Nat×Nat)) (es:List Ent):Prop where
 bl:es.flatMap (·.bl)=b
 ok:∀ e∈es,ql P w ro pr bx e
 at_:∀ e∈es,e.r=t\/e.r=B0+t
 nod:(es.map (·.r)).Nodup
 slot:∃ e∈es,e.r=t/\ee e.c.sh v e.cs
 bxs:∀ z∈bx,z.1=B0+t/\(∃ e∈es,e.r=B0+t/\e.g=z.2)
theorem tW (t n:Nat){a:Ty}{x:a.den}{v:Value}{cs:List Value}{b:List Nat}(J:b.Nodup)(h1:da a.isAgg v cs)(M:Mx w ro a none 0 x cs b)(a0:t<B0) :
    ∃ Z,wJ P w ro pr t (.own a) v b [] Z/\[((t,⟨n,bh a.isAgg,aq true a x⟩):Nat×bQ)]=Z.map (λe=>(e.r,e.c)):=by
  obtain⟨I,m1,m2,m3⟩:=jd (P:=P) (p:=true) M J;have H:∀ j,(none:Option Nat)≠some (0+j):=λj=>by simp
  refine⟨[⟨t,⟨n,bh a.isAgg,aq true a x⟩,cs,I,b,0⟩],⟨by simp,?_,by simp,by simp,⟨_,B4 _,rfl,kl h1⟩,by simp⟩,rfl⟩;intro e Y;simp only[CG]at Y;subst Y
  exact { len := by show (aq true a x).length = _; rw [cF, M.len]
          one:=M.one
          leaf:=λV W st _ O _ _ j l u y z=>m1 V W st (λk hk=>.inr ⟨rfl,by rw[O];exact hk⟩) j l u (H j) y z
          own:=λj l y z=>m2 j l (H j) y z
          sep:=λj X l l' y z h5 h6=>m3 j X l l' (H j) (H X) y z h5 h6
          box:=λhr=>absurd hr (by show ¬ B0<=t;omega) }
theorem nY (t:Nat){l:Leaf}{v:Value}{pk:PK}(a0:t<B0)(J:¬ am l)(h1:v.oneCell'=true)(y:∀ (V:Env) (W:Wit) (st:St),V.w0=w->V.ro0=ro->V.prot=pr->aK P V W st w [] l v) :
    ∃ es,wJ P w ro pr t pk v [] [] es/\[((t,⟨0,.one,[l]⟩):Nat×bQ)]=es.map (λe=>(e.r,e.c)):=by
  refine⟨[⟨t,⟨0,.one,[l]⟩,[v],λ_=>[],[],0⟩],⟨by simp,?_,by simp,by simp,⟨_,B4 _,rfl,rfl⟩,by simp⟩,rfl⟩;intro e he;simp only[CG]at he;subst he;have O:∀ (j:Nat) (z:Leaf),[l][j]?=some z->j=0/\z=l:=λj z X=>by
    cases j with
    |zero=>simp at X;exact⟨rfl,X.symm⟩
    |succ j=>simp at X
  exact { len := rfl
          one:=λu Z=>by simp at Z;subst Z;exact h1
          leaf:=λV W st hw Y M _ j z u I H=>by
            obtain⟨rfl,rfl⟩:=O j z I;simp at H;subst H;exact y V W st hw Y M
          own:=λj z I H=>by obtain⟨_,rfl⟩:=O j z I;exact absurd H J
          sep:=λj j' l1 l2 I H=>by obtain⟨_,rfl⟩:=O j l1 I;exact absurd H J
          box:=λhr=>absurd hr (by show ¬ B0<=t;omega) }
def tX:Value->Nat
 |.pointer (some a)=>a.block
 |_=>0
def d8 (t:Nat):List PK->List Value->List (Nat×Nat)
 |.iop _::r,v::u=>(B0+t,tX v)::d8 (t+1) r u
 |_::r,_::u=>d8 (t+1) r u
 |_,_=>[]
def d9 (t:Nat):List PK->List Value->List (Nat×Value)
 |.io _::r,v::u=>(t,v)::d9 (t+1) r u
 |.iop _::r,v::u=>(t,v)::d9 (t+1) r u
 |_::r,_::u=>d9 (t+1) r u
 |_,_=>[]
def PK.bx (t:Nat)(v:Value):PK->List (Nat×Nat)
 |.iop _=>[(B0+t,tX v)]
 |_=>[]
theorem Bz (t:Nat)(a0:t<B0){pk:PK}{ps:List PK}{x:ab (pk::ps)}{v:Value}{b:List Nat}(a1:b.Nodup)(h:nV P w ro pr pk x.1 v b) :
    ∃ es,wJ P w ro pr t pk v b (pk.bx t v) es/\c5 t (pk::ps) x=es.map (λe=>(e.r,e.c))++c5 (t+1) ps x.2:=by
  cases pk with
  |rd a =>
    obtain⟨rfl,cs,h1,h2⟩:=h;refine⟨[⟨t,⟨0,bh a.isAgg,cG true a x.1⟩,cs,λ_=>[],[],0⟩],⟨by simp,?_,by simp,by simp,⟨_,B4 _,rfl,kl h1⟩,by simp[PK.bx]⟩,rfl⟩;intro e he;simp only[CG]at he;subst he;have b3:∀ (V:Env) (W:Wit) (st:St),V.ro0=ro->aB P V W st w (cG true a x.1) cs:=λV W st J=>fa (G:=ro) (λk I=>.inr ⟨rfl,by rw[J];exact I⟩) h2
    have b5:∀ (j:Nat) (l:Leaf),(cG true a x.1)[j]?=some l->¬ am l:=λj l M=>by
      have hl:=gJ true a x.1;have hc:=h2.len;have c1:=(BQ.1 M).1;exact ((b3 ⟨w,ro,[],0,[],[]⟩ ⟨λ_=>0,λ_=>[],λ_ _=>[],λ_=>False⟩ (λ_=>bQ.none) rfl).at_ j l _ M (BX (by omega))).2.1
    exact { len := by show (cG true a x.1).length = _; rw [gJ, h2.len]
            one:=h2.one
            leaf:=λV W st _ J _ _ j l u y H=>((b3 V W st J).at_ j l u y H).1
            own:=λj l y H=>absurd H (b5 j l y)
            sep:=λj j' l l' y H=>absurd H (b5 j l y)
            box:=λhr=>absurd hr (by show ¬ B0<=t;omega) }
  |own a =>
    obtain⟨cs,h1,h2⟩:=h;obtain⟨es,y,H⟩:=tW (P:=P) (pr:=pr) t 0 a1 h1 h2 a0;exact⟨es,⟨y.bl,y.ok,y.at_,y.nod,y.slot,y.bxs⟩,by rw[<- H];rfl⟩
  |io a =>
    obtain⟨cs,h1,h2⟩:=h;obtain⟨es,y,H⟩:=tW (P:=P) (pr:=pr) t 7 a1 h1 h2 a0;exact⟨es,⟨y.bl,y.ok,y.at_,y.nod,y.slot,y.bxs⟩,by rw[<- H];rfl⟩
  |rref a =>
    obtain⟨rfl,h⟩:=h;unfold gR at h;rw[if_neg (by simp)]at h;obtain⟨g,o,c,hv,hg,hr,hc⟩:=h;subst hv;obtain⟨es,y,H⟩:=nY (P:=P) (w:=w) (ro:=ro) (pr:=pr) t (pk:=.rref a) (l:=.rp true a x.1 0) (v:=.pointer (some ⟨g,o,none⟩)) a0 id rfl (λV W st hw J O=>⟨g,o,c,rfl,.inr (by rw[O];exact hg),hr.mono (λk I=>.inr ⟨rfl,by rw[J];exact I⟩),hc⟩);exact⟨es,y,by rw[<- H];rfl⟩
  |rref2 a =>
    obtain⟨rfl,h⟩:=h;unfold gR at h;rw[if_pos rfl]at h;obtain⟨b,ob,g,o,c,hv,hb,a6,hg,hr,hc⟩:=h;subst hv;obtain⟨es,y,H⟩:=nY (P:=P) (w:=w) (ro:=ro) (pr:=pr) t (pk:=.rref2 a) (l:=.rpp true a x.1) (v:=.pointer (some ⟨b,ob,none⟩)) a0 id rfl (λV W st hw J O=>⟨b,ob,g,o,c,rfl,.inr (by rw[O];exact hb),a6,.inr (by rw[O];exact hg),hr.mono (λk I=>.inr ⟨rfl,by rw[J];exact I⟩),hc⟩);exact⟨es,y,by rw[<- H];rfl⟩
  |fn As B =>
    obtain⟨rfl,h⟩:=h;have bb:v.oneCell'=true:=by
      obtain⟨f,c0,e,_⟩:=h;rw[e];rfl
    obtain⟨es,y,H⟩:=nY (P:=P) (w:=w) (ro:=ro) (pr:=pr) t (pk:=.fn As B) (l:=.fn As B x.1) (v:=v) a0 id bb (λV W st hw J O=>by
      show ij P V.w0 V.prot As B x.1 v;rw[hw,O];exact h)
    exact⟨es,y,by rw[<- H];rfl⟩
  |clo f cs =>
    obtain⟨rfl,us,e,h⟩:=h;subst e;obtain⟨es,y,H⟩:=nY (P:=P) (w:=w) (ro:=ro) (pr:=pr) t (pk:=.clo f cs) (l:=.clr f (j9 true cs x.1)) (v:=.func (.func f) #[] us.toArray) a0 id rfl (λV W st hw J O=>by
      obtain⟨i1,i2⟩:=tV V W J O h;exact⟨us,rfl,i1,i2⟩)
    exact⟨es,y,by rw[<- H];rfl⟩
  |iop a =>
    obtain⟨g,c,E,b0,hv,hg,hm,rfl⟩:=h;subst hv;rw[CH]at a1;obtain⟨a5,m1,m2,m3⟩:=jd (P:=P) (p:=true) hm a1.2;have hn:∀ j,(none:Option Nat)≠some (0+j):=λj=>by simp
    have Y:t≠B0+t:=by simp[B0]
    refine⟨[⟨t,⟨0,.one,[.bp (B0+t) 0]⟩,[.pointer (some ⟨g,0,none⟩)],λ_=>[],[],0⟩,⟨B0+t,⟨0,.agg,aq true a x.1⟩,c,a5,g::b0,g⟩],
      ⟨by simp,?_,λe he=>by simp at he;rcases he with rfl|rfl <;> simp,by rw[B7,B7,DH,CH];exact⟨by simpa using Y,by simp⟩,⟨_,BM ..,rfl,rfl⟩,λz hz=>?_⟩,rfl⟩
    · intro e he
      simp only[BU,List.not_mem_nil,or_false]at he;rcases he with rfl|rfl
      · have h0:∀ (j:Nat) (l':Leaf),[Leaf.bp (B0+t) 0][j]?=some l'->j=0/\l'=.bp (B0+t) 0:=λj l' M=>by
          cases j with
          |zero=>simp at M;exact⟨rfl,M.symm⟩
          |succ j=>simp at M
        exact { len := rfl
                one:=λu hu=>by simp at hu;subst hu;rfl
                leaf:=λV W st hw J O hb j l' u y H=>by
                  obtain⟨rfl,rfl⟩:=h0 j l' y;simp at H;subst H;obtain⟨q1,q2,q3⟩:=hb (B0+t,g) (B4 _);exact⟨q1,q2,by rw[q3]⟩
                own:=λj l' y H=>by obtain⟨_,rfl⟩:=h0 j l' y;exact H.elim
                sep:=λj j' l1 l2 y H=>by obtain⟨_,rfl⟩:=h0 j l1 y;exact H.elim
                box:=λhr=>absurd hr (by show ¬ B0<=t;omega) }
      · exact { len := by show (aq true a x.1).length = _; rw [cF, hm.len]
                one:=hm.one
                leaf:=λV W st _ J _ _ j l u y H=>m1 V W st (λk I=>.inr ⟨rfl,by rw[J];exact I⟩) j l u (hn j) y H
                own:=λj l y H k I=>BL _ (m2 j l (hn j) y H k I)
                sep:=λj j' l l' y H h5 h6=>m3 j j' l l' (hn j) (hn j') y H h5 h6
                box:=λ_=>⟨rfl,BM ..,λj l y H I=>a1.1 (m2 j l (hn j) y H g I),⟨E,hg⟩,B4 _⟩ }
    · simp only[PK.bx,CG]at hz
      subst hz;exact⟨rfl,_,BL _ (B4 _),rfl,rfl⟩
  |hol a c off =>
    obtain⟨cs,u,b0,b1,E,e,xs,h1,h2,y,H,h5,h6⟩:=h;have a2:=bu.1 a1;have ba:b0.Nodup:=bu.2 λk=>by have:=a2 k;have:=h6 k;omega
    have b2:b1.Nodup:=bu.2 λk=>by have:=a2 k;have:=h6 k;omega
    have a4:∀ k,k∈b0->k∉b1:=λk I Z=>by
      have:=a2 k;have:=h6 k;have:=B5.2 I;have:=B5.2 Z;omega
    have b9:∀ k∈b0,k∈b:=λk I=>B5.1 (by have:=h6 k;have:=B5.2 I;omega)
    have b4:∀ k∈b1,k∈b:=λk I=>B5.1 (by have:=h6 k;have:=B5.2 I;omega)
    obtain⟨a5,m1,m2,m3⟩:=jd (P:=P) (p:=true) h2 ba;have Y:∀ j,j≠c->(some c:Option Nat)≠some (0+j):=λj M=>by simp;omega
    have a9:=mC (p:=true) H;rw[Nat.sub_zero]at a9;have bn:(aq true a x.1.1).getD c .dead=.own (true&&e.shy) none E e xs:=by rw[BV,a9];rfl
    refine⟨[⟨t,⟨0,bh a.isAgg,aT (aq true a x.1.1) c (.own (true&&e.shy) (some (x.1.2,off)) E e xs)⟩,cs,λj=>if j=c then b1 else a5 j,b,0⟩],
      ⟨by simp,?_,by simp,by simp,⟨_,B4 _,rfl,kl h1⟩,by simp[PK.bx]⟩,?_⟩
    · intro en he
      simp only[CG]at he;subst he;have X:∀ (j:Nat) (l:Leaf),(aT (aq true a x.1.1) c (.own (true&&e.shy) (some (x.1.2,off)) E e xs))[j]?=some l->(j=c/\l=.own (true&&e.shy) (some (x.1.2,off)) E e xs)\/(j≠c/\(aq true a x.1.1)[j]?=some l):=by
        intro j l M;rcases aS _ _ _ _ _ M with ⟨q1,q2,_⟩|⟨q1,q2⟩
        · exact .inl ⟨q1,q2⟩
        · exact .inr ⟨q1,q2⟩
      exact { len := by show (aT (aq true a x.1.1) c _).length = _; simp only [aT, List.length_set]; rw [cF, h2.len]
              one:=h2.one
              leaf:=λV W st _ J _ _ j l u' h7 h8=>by
                have h8:cs[j]?=some u':=h8;rcases X j l h7 with ⟨rfl,rfl⟩|⟨M,h7⟩
                · rw[y]at h8
                  simp only[BG]at h8;subst h8;simp only[if_true];exact⟨b2,OwB.shy (p:=true) (h5.carry (λk I=>.inr ⟨rfl,by rw[J];exact I⟩) (λ_ _=>rfl) (λ_ _=>rfl))⟩
                · simp only[if_neg M]
                  exact m1 V W st (λk I=>.inr ⟨rfl,by rw[J];exact I⟩) j l u' (Y j M) h7 h8
              own:=λj l h7 h8 k I=>by
                rcases X j l h7 with ⟨rfl,rfl⟩|⟨M,h7⟩
                · simp only[if_true]at I;exact b4 k I
                · simp only[if_neg M]at I;exact b9 k (m2 j l (Y j M) h7 h8 k I)
              sep:=λj j' l l' h7 h8 h9 ad k I Z=>by
                rcases X j l h7 with ⟨rfl,rfl⟩|⟨M,h7⟩ <;> rcases X j' l' h9 with ⟨rfl,rfl⟩|⟨a3,h9⟩
                · rfl
                · simp only[if_true]at I;simp only[if_neg a3]at Z
                  exact absurd I (a4 k (m2 j' l' (Y j' a3) h9 ad k Z))
                · simp only[if_neg M]at I;simp only[if_true]at Z
                  exact absurd Z (a4 k (m2 j l (Y j M) h7 h8 k I))
                · simp only[if_neg M]at I;simp only[if_neg a3]at Z
                  exact m3 j j' l l' (Y j M) (Y j' a3) h7 h8 h9 ad k I Z
              box:=λhr=>absurd hr (by show ¬ B0<=t;omega) }
    · show (t,(⟨0,bh a.isAgg,aT (aq true a x.1.1) c (uM x.1.2 off ((aq true a x.1.1).getD c .dead))⟩:bQ))::c5 (t+1) ps x.2=_
      rw[bn];rfl
theorem tY:∀ {ps:List PK} {x:ab ps} {u:List Value} {r:List (List Nat)},c8 P w ro pr ps x u r->u.length=ps.length
 |[],_,_,_,h=>by rw[h.1];rfl
 |_::_,_,_,_,⟨_,_,_,_,e,_,_,h⟩=>by rw[e,CM,CM,tY h]
theorem vu:∀ (ps:List PK) (x:ab ps) (Z:List Value) (H:List (List Nat)) (t:Nat),c8 P w ro pr ps x Z H->H.flatten.Nodup->t+ps.length<=B0 ->
  ∃ Y:List Ent,c5 t ps x=Y.map (λe=>(e.r,e.c))/\Y.flatMap (·.bl)=H.flatten/\(∀ e∈Y,ql P w ro pr (d8 t ps Z) e) /\
   (∀ e∈Y,(t<=e.r/\e.r<t+ps.length)\/(B0+t<=e.r/\e.r<B0+t+ps.length))/\(Y.map (·.r)).Nodup /\
   (∀ (i:Nat) (v:Value),Z[i]?=some v->∃ e∈Y,e.r=t+i/\ee e.c.sh v e.cs)/\(∀ z∈d8 t ps Z,∃ e∈Y,e.r=z.1/\e.g=z.2/\B0<=z.1)
 |[],x,Z,H,t,⟨e1,e2⟩,_,_=>by
  subst e1;subst e2;exact⟨[],rfl,rfl,by simp,by simp,by simp,λi v h=>by simp at h,by simp[d8]⟩
 |pk::ps,x,Z,H,t,⟨v,X,b,a1,e1,e2,h1,h2⟩,M,hB=>by
  subst e1;subst e2;rw[BW,CN]at M;simp only[CM]at hB;obtain⟨a4,J,p2⟩:=Bz t (by omega) (ps:=ps) (x:=x) M.1 h1;obtain⟨a2,q1,q2,q3,q4,q5,q6,q7⟩:=vu ps x.2 X a1 (t+1) h2 M.2.1 (by omega);have a0:d8 t (pk::ps) (v::X)=pk.bx t v++d8 (t+1) ps X:=by cases pk <;> rfl
  refine⟨a4++a2,by rw[p2,q1,CX],by rw[List.flatMap_append,J.bl,q2,BW],λe y=>?_,λe y=>?_,?_,λi u hi=>?_,λz I=>?_⟩
  ·rw[a0];rcases BH.1 y with y|y
   ·exact (J.ok e y).mono (λz I=>BJ _ I)
   ·exact (q3 e y).mono (λz I=>BK _ I)
  ·simp only[CM];rcases BH.1 y with y|y
   ·rcases J.at_ e y with h|h <;> omega
   ·rcases q4 e y with h|h <;> omega
  ·rw[CX,CN];refine⟨J.nod,q5,λa ha b' a3 e0=>?_⟩;subst e0;obtain⟨e,y,rfl⟩:=BR.1 ha;obtain⟨e',a5,e1⟩:=BR.1 a3;rcases J.at_ e y with h|h <;> rcases q4 e' a5 with h'|h' <;> omega
  ·cases i with
   |zero =>
    simp at hi;subst hi;obtain⟨e,y,h3,O⟩:=J.slot;exact⟨e,BJ _ y,by omega,O⟩
   |succ i =>
    obtain⟨e,y,h3,O⟩:=q6 i u (by simpa using hi);exact⟨e,BK _ y,by omega,O⟩
  ·rw[a0]at I;rcases BH.1 I with I|I
   ·obtain⟨h3,e,y,O,h5⟩:=J.bxs z I;exact⟨e,BJ _ y,by rw[O,h3],h5,by rw[h3];exact Nat.le_add_right _ _⟩
   ·obtain⟨e,y,O,h5,h6⟩:=q7 z I;exact⟨e,BK _ y,O,h5,h6⟩
def ge (w:World)(ro:Nat->Prop)(ps:List PK)(u:List Value)(r:List (List Nat))(nt:Nat):Env:=⟨w,ro,r.flatten,nt,d8 0 ps u,d9 0 ps u⟩
theorem nZ:∀ {I:List Ent},(I.flatMap (·.bl)).Nodup->∀ e∈I,∀ z∈I,∀ k,k∈e.bl->k∈z.bl->e=z
 |[],_,e,M,_,_,_,_,_=>by simp at M
 |x::I,u,e,M,z,O,k,J,r=>by
  rw[List.flatMap_cons,CN]at u;rcases BU.1 M with H|H <;> rcases BU.1 O with y|y
  ·rw[H,y]
  ·rw[H]at J;exact absurd rfl (u.2.2 k J k (BZ.2 ⟨z,y,r⟩))
  ·rw[y]at r;exact absurd rfl (u.2.2 k r k (BZ.2 ⟨e,H,J⟩))
  ·exact nZ u.2.1 e H z y k J r
theorem yh:∀ {I:List Ent},(I.map (·.r)).Nodup->∀ e∈I,∀ z∈I,e.r=z.r->e=z
 |[],_,e,J,_,_,_=>by simp at J
 |x::I,u,e,J,z,M,O=>by
  rw[B7,CH]at u;rcases BU.1 J with H|H <;> rcases BU.1 M with y|y
  ·rw[H,y]
  ·exact absurd (BR.2 ⟨z,y,by rw[<- O,H]⟩) u.1
  ·exact absurd (BR.2 ⟨e,H,by rw[O,y]⟩) u.1
  ·exact yh u.2 e H z y O
theorem rO:∀ (u:List Ent) (q:Nat),(av (u.map λe=>(e.r,e.c)) q=bQ.none/\u.find? (λe=>e.r==q)=none)\/∃ e∈u,e.r=q/\u.find? (λe=>e.r==q)=some e/\av (u.map λe=>(e.r,e.c)) q=e.c
 |[],q=>.inl ⟨rfl,rfl⟩
 |e::u,q=>by
  by_cases h:e.r=q
  ·refine .inr ⟨e,BM ..,h,by simp[h],?_⟩;simp[av,ac,h]
  ·have y:BP q e.r=false:=by
    cases y:BP q e.r with
    |false=>rfl
    |true=>exact absurd (BN y).symm h
   have M:av ((e::u).map λe=>(e.r,e.c)) q=av (u.map λe=>(e.r,e.c)) q:=by simp[av,ac,y]
   have X:(e::u).find? (λe=>e.r==q)=u.find? (λe=>e.r==q):=by simp[h]
   rw[M,X];rcases rO u q with z|⟨J,z,H,I,O⟩
   ·exact .inl z
   ·exact .inr ⟨J,BL _ z,H,I,O⟩
theorem vv:∀ {ps:List PK} {r:List Value} {t:Nat} {z:Nat×Value},z∈d9 t ps r->∃ i,z.1=t+i/\r[i]?=some z.2
 |[],_,_,_,h=>by simp[d9]at h
 |u::ps,[],_,_,h=>by cases u <;> simp[d9]at h
 |u::ps,v::r,t,z,h=>by
  have:z=(t,v)\/z∈d9 (t+1) ps r:=by cases u <;> simp[d9]at h <;> first|exact h|exact .inr h
  rcases this with rfl|h
  ·exact⟨0,rfl,rfl⟩
  ·obtain⟨i,H,y⟩:=vv h;exact⟨i+1,by omega,by simpa using y⟩
theorem vw {ps:List PK}{x:ab ps}{M:List Value}{J:List (List Nat)}{nt:Nat}(h:c8 P w ro (λk=>k<w.heap.size/\k∉J.flatten) ps x M J)(a3:J.flatten.Nodup)
  (c4:ps.length<=nt) (hB:nt<=GH):Rel P (ge w ro ps M J nt) (av (c5 0 ps x)) { tmps:=M.toArray++CI (nt-M.length) undef,defers:=[] } w:=by
 have c3:=tY h;have cb:GH<=B0:=by decide
 obtain⟨Y,q1,q2,q3,q4,q5,q6,q7⟩:=vu ps x M J 0 h a3 (by omega);rw[q1];have bn:=rO Y;have a2:∀ e∈Y,∀ H∈Y,e.r=H.r->e=H:=by
  intro e he H b3 hr;exact yh q5 e he H b3 hr
 rw[<- q2]at a3;have a0:∀ e∈Y,∀ k∈e.bl,k∈J.flatten:=λe he k Z=>by rw[<- q2];exact BZ.2 ⟨e,he,Z⟩
 have hE:∀ q,(av (Y.map λe=>(e.r,e.c)) q=bQ.none/\Y.find? (λe=>e.r==q)=none)\/∃ e∈Y,e.r=q/\Y.find? (λe=>e.r==q)=some e/\av (Y.map λe=>(e.r,e.c)) q=e.c:=bn;have a1:∀ q,live (av (Y.map λe=>(e.r,e.c))) q->∃ e∈Y,e.r=q/\B0<=e.r/\Y.find? (λe=>e.r==q)=some e:=by
  rintro q ⟨h1,h2⟩;rcases hE q with ⟨I,_⟩|⟨e,I,y,h5,O⟩
  ·rw[I]at h2;cases h2
  ·exact⟨e,I,y,by rw[y];exact h1,h5⟩
 let β:Nat->Nat:=λq=>match Y.find? (λe=>e.r==q) with|some e=>e.g|none=>0
 let cs:Nat->List Value:=λq=>match Y.find? (λe=>e.r==q) with|some e=>e.cs|none=>[]
 let bs:Nat->Nat->List Nat:=λq j=>match Y.find? (λe=>e.r==q) with|some e=>e.bs j|none=>[]
 have a9:∀ z∈d8 0 ps M,B0<=z.1/\(av (Y.map λe=>(e.r,e.c)) z.1).sh=.agg/\β z.1=z.2:=by
  intro z hz;obtain⟨e,he,h1,h2,I⟩:=q7 z hz;refine⟨I,?_⟩;rcases hE z.1 with ⟨_,y⟩|⟨H,y,h5,O,h7⟩
  ·exfalso;rw[C3]at y;exact y e he (by simp[h1])
  ·have:H=e:=a2 H y e he (by rw[h5,h1]);subst this;rw[h7];exact⟨((q3 H he).box (by rw[h1];exact I)).1,by simp only[β,O];exact h2⟩
 refine⟨{ β:=β,cs:=cs,bs:=bs,nw:=λ_=>False },?_⟩;have b9:(ge w ro ps M J nt).prot=λk=>k<w.heap.size/\k∉J.flatten:=rfl
 exact {
  nt:=by show (M.toArray++CI (nt-M.length) undef).size=nt;simp;omega
  df:=rfl
  slots:=λt ht=>by
   show ee _ ((M.toArray++CI (nt-M.length) undef).getD t undef) (cs t);by_cases hq:t<ps.length
   ·have hv:=BX (show t<M.length by omega);have:(M.toArray++CI (nt-M.length) undef).getD t undef=M[t]:=by
     rw[BT,Cc (by simp;omega)];simp[hv]
    rw[this];obtain⟨e,he,h1,h2⟩:=q6 t _ hv;rw[CQ]at h1;rcases hE t with ⟨_,y⟩|⟨H,y,h5,O,h7⟩
    ·exfalso;rw[C3]at y;exact y e he (by simp[h1])
    ·have:H=e:=a2 H y e he (by rw[h5,h1]);subst this;rw[h7];simp only[cs,O];exact h2
   ·rcases hE t with ⟨I,y⟩|⟨H,y,h5,O,h7⟩
    ·rw[I];simp only[cs,y];rfl
    ·rcases q4 H y with h8|h8 <;> omega
  boxes:=λb hb=>by
   rcases hE b with ⟨I,y⟩|⟨H,y,h5,O,h7⟩
   ·rw[I];exact .inl ⟨rfl,rfl⟩
   ·obtain⟨g1,g2,g3,⟨E,g4⟩,g5⟩:=(q3 H y).box (by rw[h5];exact hb);rw[h7];exact .inr ⟨g1,E,by simp only[β,cs,O];exact g4⟩
  len:=λq=>by
   rcases hE q with ⟨I,y⟩|⟨H,y,h5,O,h7⟩
   ·rw[I];simp only[cs,y];rfl
   ·rw[h7];simp only[cs,O];exact (q3 H y).len
  one:=λq u hu=>by
   have hu:u∈cs q:=hu;rcases hE q with ⟨I,y⟩|⟨H,y,h5,O,h7⟩
   ·simp only[cs,y]at hu;simp at hu
   ·simp only[cs,O]at hu;exact (q3 H y).one u hu
  leaf:=λq j l v X hv=>by
   have hv:(cs q)[j]?=some v:=hv;rcases hE q with ⟨I,y⟩|⟨H,y,h5,O,h7⟩
   ·rw[I]at X;simp[bQ.none]at X
   ·rw[h7]at X;simp only[cs,O]at hv;show aK P _ _ _ w (bs q j) l v;simp only[bs,O];exact (q3 H y).leaf (ge w ro ps M J nt) _ _ rfl rfl rfl a9 j l v X hv
  ownb:=λq j l X ho k Z=>by
   have Z:k∈bs q j:=Z;rcases hE q with ⟨I,y⟩|⟨H,y,h5,O,h7⟩
   ·rw[I]at X;simp[bQ.none]at X
   ·rw[h7]at X;simp only[bs,O]at Z;have b2:=(q3 H y).own j l X ho k Z;refine⟨id,λhp=>hp.2 (a0 H y k b2),λb hb e0=>?_⟩;obtain⟨e2,g1,g2,g3,g4⟩:=a1 b hb;have a6:=(q3 e2 g1).box g3;have e0:β b=k:=e0;simp only[β,g4]at e0;have:=nZ a3 H y e2 g1 k b2 (by rw[<- e0];exact a6.2.1);subst this;exact a6.2.2.1 j l X ho (by rw[e0];exact Z)
  sep:=λq j l q' j' l' X ho a5 b1 k Z a4=>by
   have Z:k∈bs q j:=Z;have a4:k∈bs q' j':=a4;rcases hE q with ⟨I,y⟩|⟨e1,y,h5,O,h7⟩
   ·rw[I]at X;simp[bQ.none]at X
   ·rcases hE q' with ⟨c2,ad⟩|⟨e2,ad,c1,bx,b4⟩
    ·rw[c2]at a5;simp[bQ.none]at a5
    ·rw[h7]at X;rw[b4]at a5;simp only[bs,O]at Z;simp only[bs,bx]at a4;have:=nZ a3 e1 y e2 ad k ((q3 e1 y).own j l X ho k Z) ((q3 e2 ad).own j' l' a5 b1 k a4);subst this;exact⟨by rw[<- h5,<- c1],(q3 e1 y).sep j j' l l' X ho a5 b1 k Z a4⟩
  box:=λb hb=>by
   obtain⟨e2,g1,g2,g3,g4⟩:=a1 b hb;have a6:=(q3 e2 g1).box g3;refine⟨id,λhp=>hp.2 ?_⟩;show β b∈_;simp only[β,g4];exact a0 e2 g1 _ a6.2.1
  inj:=λb b' hb c0 e0=>by
   obtain⟨e1,g1,g2,g3,g4⟩:=a1 b hb;obtain⟨e2,b0,bb,ba,b5⟩:=a1 b' c0;have e0:β b=β b':=e0;simp only[β,g4,b5]at e0;have:=nZ a3 e1 g1 e2 b0 e1.g ((q3 e1 g1).box g3).2.1 (by rw[e0];exact ((q3 e2 b0).box ba).2.1);subst this;rw[<- g2,<- bb]
  nwlt:=λk Z=>Z.elim
  os:=rfl,tape:=rfl,output:=rfl,size:=Cq _,keep:=λ_ _=>rfl
  fixb:=λz hz=>by
   obtain⟨h1,h2,I⟩:=a9 z hz;exact⟨⟨h1,h2⟩,I⟩
  fixt:=λz hz=>by
   obtain⟨i,h1,h2⟩:=vv hz;rw[CQ]at h1;show (M.toArray++CI (nt-M.length) undef).getD z.1 undef=z.2;rw[h1,BT,Cc (by simpa using (BQ.1 h2).1)];simp[h2] }
end
section
variable {P:Program} {V:Env} {W:Wit} {Γ:List Ctr} {T:TypeId->TI} {R:Type} {st:St} {a:Act} {w:World} {ro:Nat->Prop}
theorem BA (hT:TOk P T)(h:an P V W st a w)(x:ResultVar)(I:pA st T x≠.off) :
  ∃ v J,(match x with|.tmp t=>(pure (a.tmps.getD t undef):Sem Value)|.cell b t=>(do loadVar t (<- asAddr (a.tmps.getD b undef)):Sem Value)).run P w=.ok v w /\
   ee (pA st T x) v J/\aB P V W st w (vB st T x) J:=by
 cases x with
 |tmp t =>
  obtain⟨J,h1,M⟩:=cR h (.tmp t);exact⟨_,J,rfl,h1,M⟩
 |cell t u =>
  simp only[pA]at I ⊢;split at I
  ·rename_i b off Y;cases X:decide ((st b).sh=.agg)&&Cs (off+(T u).cells) (st b).ls.length&&!BP (T u).cells 0 with
   |false=>rw[X]at I;exact absurd rfl I
   |true =>
    simp only[Y,X,cond_true,vB];simp only[BI,decide_eq_true_eq,CK]at X;obtain⟨⟨h1,M⟩,h3⟩:=X;have M:off+(T u).cells<=(st b).ls.length:=CC M;have Z:T u≠.none:=by
     intro e;rw[e]at h3;simp[TI.cells]at h3
    obtain⟨hp,_,_,_,_⟩:=bt h (.tmp t) (by rw[Y];simp);rw[Y]at hp;obtain⟨hB,a0,H⟩:=hp;have H:a.tmps.getD t undef=.pointer (some ⟨W.β b,off,none⟩):=H;rcases h.boxes b hB with ⟨O,_⟩|⟨_,E,O⟩
    ·rw[a0]at O;cases O
    ·have r:cV w (W.β b) 0 (W.cs b):=λi v H=>by
      rw[CQ,cell_of_row w (W.β b) i _ E (0,0) O];simpa using H
     have a2:=h.len b;have z:=r.sub off (T u).cells;rw[CQ]at z;obtain⟨v,y,a1⟩:=oe (hT u) Z z (by simp;omega);refine⟨v,_,?_,a1,((iA h b).drop off).take _⟩;simp only[H];simpa[asAddr]using y
  ·exact absurd rfl I
def nH (a:Act):ResultVar->Sem Value
 |.tmp t=>pure (a.tmps.getD t undef)
 |.cell b t=>do loadVar t (<- asAddr (a.tmps.getD b undef))
def nI (P:Program)(a:Act)(w:World):List ResultVar->List Value->Prop
 |[],u=>u=[]
 |x::y,u=>∃ v r,u=v::r/\(nH a x).run P w=.ok v w/\nI P a w y r
theorem rP:∀ (l:List ResultVar) (u:List Value),nI P a w l u->(l.mapM (nH a)).run P w=.ok u w
 |[],_,h=>by rw[show _=_ from h];rfl
 |x::l,_,⟨v,r,e,z,y⟩=>by subst e;simp[Cr,z,rP l r y]
theorem AO (b:Bool):bh b≠.off:=by cases b <;> simp[bh]
def RK.isBox:RK->Bool
 |.box _=>true
 |_=>false
theorem tZ (hV:ay V)(hT:TOk P T)(h:an P V W st a w)(b2:V.ro0=ro){fx:List Nat}:∀ (rs:List RK) (I:List ResultVar) (y:cH (ai rs)),kq st T fx rs I=some y ->
  ∀ {G:Nat->Prop},(∀ k,bm V W y.p y.frz k->G k) ->
  ∃ (us:List Value) (H:List (List Nat)) (bx:List Nat),nI P a w I us/\gy w G ro rs y.val us H/\(∀ k,H.flatten.count k=(aW W y.kill).count k+(bx.map W.β).count k) /\
   (∀ b∈bx,live st b/\fx.any (BP b)=false)/\bx.length=rs.countP RK.isBox/\(∀ z∈y.frz,aA st z)/\∀ z∈y.kill,aA st z
 |[],[],y,J,G,hG=>by
  simp only[kq,BG]at J;subst J;exact⟨[],[],[],rfl,⟨rfl,rfl⟩,λk=>by simp[aW],by simp,rfl,by simp,by simp⟩
 |[],_::_,_,J,_,_=>by simp[kq]at J
 |_::_,[],_,J,_,_=>by simp[kq]at J
 |r::rs,x::I,y,J,G,hG=>by
  simp only[kq]at J;cases O:decide (pA st T x=r.sh) with
  |false=>simp[O]at J
  |true =>
   simp only[O,cond_true]at J;have O:=of_decide_eq_true O;split at J
   ·rename_i X y2 u b4;simp only[BG]at J;subst J;obtain⟨v,a3,ad,M,Z⟩:=BA hT h x (by rw[O];cases r <;> simp only[RK.sh] <;> first|exact AO _|simp);rw[O]at M;have a1:∀ k,bm V W X.p X.frz k->G k:=λk Y=>hG k (dQ.1 k Y)
    have b5:∀ k,bm V W y2.p y2.frz k->G k:=λk Y=>hG k (dQ.2 k Y)
    obtain⟨us,H,bx,i1,i2,i3,i4,i5,i6,i7⟩:=tZ hV hT h b2 rs I y2 b4 b5;have a5:(nH a x).run P w=.ok v w:=by cases x <;> exact ad
    have a4:∀ (b:List Nat) (a0:List Nat),p9 w G ro r X.val v b->(∀ k,b.count k=(aW W X.kill).count k+(a0.map W.β).count k)->(∀ b∈a0,live st b/\fx.any (BP b)=false)->a0.length=(if r.isBox then 1 else 0)->(∀ z∈X.frz,aA st z)->(∀ z∈X.kill,aA st z) ->
      ∃ (us:List Value) (H:List (List Nat)) (bx:List Nat),nI P a w (x::I) us/\gy w G ro (r::rs) (X.val,y2.val) us H/\(∀ k,H.flatten.count k=(aW W (X.kill++y2.kill)).count k+(bx.map W.β).count k) /\
       (∀ b∈bx,live st b/\fx.any (BP b)=false)/\bx.length=(r::rs).countP RK.isBox/\(∀ z∈X.frz++y2.frz,aA st z)/\∀ z∈X.kill++y2.kill,aA st z:=by
     intro b a0 f1 f2 f3 f4 f5 f6;refine⟨v::us,b::H,a0++bx,⟨v,us,rfl,a5,i1⟩,⟨v,us,b,H,rfl,rfl,f1,i2⟩,λk=>?_,λz hz=>(BH.1 hz).elim (f3 z) (i4 z),?_,λz hz=>(BH.1 hz).elim (f5 z) (i6 z),λz hz=>(BH.1 hz).elim (f6 z) (i7 z)⟩
     ·rw[BW,B3,f2 k,i3 k,dI,B3,CX,B3];omega
     ·rw[List.length_append,f4,i5,C9];cases r.isBox <;> simp <;> omega
    cases r with
    |v b =>
     simp only[sd]at u;obtain⟨g1,g2,g3⟩:=dO (pos:=0) h Z u;exact a4 (aW W X.kill) [] ⟨a3,gz M,g1.mono a1⟩ (λk=>by simp) (by simp) rfl g2 g3
    |bv b =>
     simp only[sd,BO]at u;obtain⟨⟨p,z⟩,hz,rfl⟩:=u;have g1:=eE h Z hz;refine a4 [] [] ⟨rfl,a3,gz M,g1.mono λk Y=>?_⟩ (λk=>by simp[aW]) (by simp) rfl (λz hz=>ek Z hz) (by simp);rcases Y with (Y|⟨_,Y⟩)|Y
     ·exact .inl (a1 k (.inl (.inl Y)))
     ·exact .inr (by rw[<- b2];exact Y)
     ·exact .inl (a1 k (.inr Y))
    |box b =>
     simp only[sd]at u;split at u
     ·rename_i b0 b3;cases a2:!(fx.any (BP b0)) with
      |false=>rw[a2]at u;cases u
      |true =>
       rw[a2]at u;simp only[cond_true]at u;have M:a3=[v]:=M;subst M;rw[b3]at Z;obtain⟨hB,b1,a9⟩:=Z.1.1;obtain⟨g1,g2,g3⟩:=dO (pos:=0) h (iA h b0) u;rcases h.boxes b0 hB with ⟨h8,_⟩|⟨_,E,h8⟩
       ·rw[b1]at h8;cases h8
       ·exact a4 (W.β b0::aW W X.kill) [b0] ⟨W.β b0,W.cs b0,E,_,a9,h8,g1.mono a1,rfl⟩ (λk=>by
         rw[CY,B7,DH,CY,List.count_nil];omega) (λb' a6=>by
         simp at a6;subst a6;exact⟨⟨hB,b1⟩,by simpa using a2⟩) rfl g2 g3
     ·cases u
   ·cases J
theorem mD (hV:ay V)(h:an P V W st a w){w0:World}{pr:Nat->Prop}(a5:V.nt<=GH):∀ (ps:List PK) (x:ab ps) (vs:List Value) (a9:List (List Nat)) (t:Nat) (o:cH (ah ps)),c8 P w0 ro pr ps x vs a9->ig st t ps=some o->t+ps.length<=V.nt ->
  (∀ z∈d9 t ps vs,a.tmps.getD z.1 undef=z.2)->(∀ z∈d8 t ps vs,live st z.1/\W.β z.1=z.2)->∀ {G:Nat->Prop},(∀ k,bm V W o.p o.frz k->G k) ->
  ∃ r,bK w G ps o.val vs r/\(∀ k,r.flatten.count k=(aW W o.kill).count k+((bG t ps).map W.β).count k)/\(∀ z∈o.frz,aA st z)/\(∀ z∈o.kill,aA st z)/\∀ b∈bG t ps,live st b
 |[],x,vs,a9,t,o,⟨e1,e2⟩,y,_,_,_,G,hG=>by
  simp only[ig,BG]at y;subst y;subst e1;exact⟨[],trivial,λk=>by simp[aW,bG],by simp,by simp,by simp[bG]⟩
 |pk::ps,x,vs,a9,t,o,⟨v,M,b,a0,e1,e2,h1,h2⟩,y,ht,a2,a1,G,hG=>by
  subst e1;subst e2;simp only[CM]at ht;have u:∀ (o':cH (ah ps)),ig st (t+1) ps=some o'->d9 t (pk::ps) (v::M)=d9 (t+1) ps M->d8 t (pk::ps) (v::M)=d8 (t+1) ps M->(∀ k,bm V W o'.p o'.frz k->G k) ->
    ∃ r,bK w G ps o'.val M r/\(∀ k,r.flatten.count k=(aW W o'.kill).count k+((bG (t+1) ps).map W.β).count k)/\(∀ z∈o'.frz,aA st z)/\(∀ z∈o'.kill,aA st z)/\∀ b∈bG (t+1) ps,live st b:=by
   intro o' ad e1 e2 b1;exact mD hV h a5 ps x.2 M a0 (t+1) o' h2 ad (by omega) (λz H=>a2 z (by rw[e1];exact H)) (λz H=>a1 z (by rw[e2];exact H)) b1
  cases pk with
  |io b =>
   simp only[ig]at y;split at y
   ·rename_i y1 y2 Z a6;simp only[BG]at y;subst y;obtain⟨r,J,I,O,X,Y⟩:=mD hV h a5 ps x.2 M a0 (t+1) y2 h2 a6 (by omega) (λz H=>a2 z (BL _ H)) (λz H=>a1 z H) (λk hk=>hG k (dQ.2 k hk));cases hb:decide ((au st (.tmp t)).1=bh b.isAgg) with
    |false=>rw[hb]at Z;cases Z
    |true =>
     rw[hb]at Z;simp only[cond_true]at Z;obtain⟨cs,h3,h4⟩:=cR h (.tmp t);rw[of_decide_eq_true hb]at h3;have hv:a.eval (.tmp t)=v:=a2 (t,v) (BM ..);rw[hv]at h3;obtain⟨g1,g2,g3⟩:=dO (pos:=0) h h4 Z;refine⟨aW W y1.kill::r,⟨?_,J⟩,λk=>?_,λz H=>(BH.1 H).elim (g2 z) (O z),λz H=>(BH.1 H).elim (g3 z) (X z),Y⟩
     ·unfold jB;rw[if_neg (by simp)];exact⟨cs,gz h3,g1.mono (λk hk=>hG k (dQ.1 k hk))⟩
     ·rw[BW,B3,I k,dI,B3];show _=_+((bG (t+1) ps).map W.β).count k;omega
   ·cases y
  |iop b =>
   simp only[ig]at y;split at y
   ·rename_i y1 y2 Z a6;simp only[BG]at y;subst y;obtain⟨r,J,I,O,X,Y⟩:=mD hV h a5 ps x.2 M a0 (t+1) y2 h2 a6 (by omega) (λz H=>a2 z (BL _ H)) (λz H=>a1 z (BL _ H)) (λk hk=>hG k (dQ.2 k hk));obtain⟨g,c,E,b0,hv,_,_,_⟩:=h1;subst hv;obtain⟨a3,hβ⟩:=a1 (B0+t,tX (.pointer (some ⟨g,0,none⟩))) (BM ..);have hβ:W.β (B0+t)=g:=hβ;obtain⟨g1,g2,g3⟩:=dO (pos:=0) h (iA h (B0+t)) Z;rcases h.boxes (B0+t) a3.1 with ⟨h8,_⟩|⟨_,E',h8⟩
    ·have:=a3.2;rw[h8]at this;cases this
    ·refine⟨(g::aW W y1.kill)::r,⟨?_,J⟩,λk=>?_,λz H=>(BH.1 H).elim (g2 z) (O z),λz H=>(BH.1 H).elim (g3 z) (X z),λb' a4=>?_⟩
     ·unfold jB;rw[if_pos rfl];exact⟨g,W.cs (B0+t),E',_,rfl,by rw[<- hβ];exact h8,g1.mono (λk hk=>hG k (dQ.1 k hk)),rfl⟩
     ·rw[BW,B3,I k,dI,B3,CY];show _=_+(W.β (B0+t)::(bG (t+1) ps).map W.β).count k;rw[CY,hβ];omega
     ·rcases BU.1 a4 with rfl|a4
      ·exact a3
      ·exact Y b' a4
   ·cases y
  |rd b =>
   obtain⟨r,J,I,O,X,Y⟩:=u o y rfl rfl hG;exact⟨[]::r,⟨rfl,J⟩,λk=>by rw[BW,CF];exact I k,O,X,Y⟩
  |own b =>
   obtain⟨r,J,I,O,X,Y⟩:=u o y rfl rfl hG;exact⟨[]::r,⟨rfl,J⟩,λk=>by rw[BW,CF];exact I k,O,X,Y⟩
  |rref b =>
   obtain⟨r,J,I,O,X,Y⟩:=u o y rfl rfl hG;exact⟨[]::r,⟨rfl,J⟩,λk=>by rw[BW,CF];exact I k,O,X,Y⟩
  |rref2 b =>
   obtain⟨r,J,I,O,X,Y⟩:=u o y rfl rfl hG;exact⟨[]::r,⟨rfl,J⟩,λk=>by rw[BW,CF];exact I k,O,X,Y⟩
  |fn As B =>
   obtain⟨r,J,I,O,X,Y⟩:=u o y rfl rfl hG;exact⟨[]::r,⟨rfl,J⟩,λk=>by rw[BW,CF];exact I k,O,X,Y⟩
  |clo f cs =>
   obtain⟨r,J,I,O,X,Y⟩:=u o y rfl rfl hG;exact⟨[]::r,⟨rfl,J⟩,λk=>by rw[BW,CF];exact I k,O,X,Y⟩
  |hol b c off =>
   obtain⟨r,J,I,O,X,Y⟩:=u o y rfl rfl hG;exact⟨[]::r,⟨rfl,J⟩,λk=>by rw[BW,CF];exact I k,O,X,Y⟩
end
section
variable {P:Program} {Γ:List Ctr} {T:TypeId->TI} {w:World} {ro:Nat->Prop}
theorem uJ {fn:Func}{a:Act}{w:World}{r:List Value}(h:nI P a w fn.results.toList r):(results fn a.tmps).run P w=.ok (if h:r.toArray.size=1 then r.toArray[0] else .tuple r.toArray) w:=by
 have z:=rP _ _ h;have e:results fn a.tmps=(fn.results.mapM (nH a) >>= λu=>pure (if h:u.size=1 then u[0] else .tuple u)):=by
  unfold results;congr 1
 have y:(fn.results.mapM (nH a)).run P w=.ok r.toArray w:=by
  rw[Array.mapM_eq_mapM_toList];simp[z]
 rw[e];simp only[CU,y,CO,C5]
theorem BB (us:List Value):sn us (if h:us.toArray.size=1 then us.toArray[0] else .tuple us.toArray):=by
 match us with
 |[]=>rfl
 |[u]=>rfl
 |u::r::us =>
  rw[dif_neg (by simp)];rfl
theorem rQ:∀ (ps:List PK) (t:Nat),(bG t ps).Nodup/\∀ b∈bG t ps,B0+t<=b
 |[],t=>⟨Cd,by simp[bG]⟩
 |I::ps,t=>by
  obtain⟨z,u⟩:=rQ ps (t+1);have y:∀ b∈bG (t+1) ps,B0+t<=b:=λb r=>by have:=u b r;omega
  cases I with
  |iop a =>
   refine⟨CH.2 ⟨λH=>?_,z⟩,λb r=>?_⟩
   ·have:=u _ H;omega
   ·rcases BU.1 r with rfl|r
    ·exact Cq _
    ·exact y b r
  |_=>exact⟨z,y⟩
theorem BC {u:List RK}(h:qq u=true):u.countP RK.isBox<=1:=by
 unfold qq at h;split at h
 ·simp[RK.isBox]
 ·rw[Cv.2]
  ·exact DB _
  ·intro r y;rw[B6]at h;have:=h r y;cases r <;> simp[RK.isV,RK.isBox]at this ⊢
theorem rR {β:Nat->Nat}:∀ {bs:List Nat},bs.Nodup->(∀ b∈bs,∀ u∈bs,β b=β u->b=u)->(bs.map β).Nodup
 |[],_,_=>Cd
 |b::bs,z,H=>by
  rw[CH]at z;rw[B7,CH];refine⟨λJ=>?_,rR z.2 (λx M y I=>H x (BL _ M) y (BL _ I))⟩;obtain⟨u,r,e⟩:=BR.1 J;have:=H u (BL _ r) b (BM ..) e;exact z.1 (by rw[<- this];exact r)
theorem yi (hT:TOk P T){c:Ctr}(c1:qq c.rs=true){vs:List Value}{J:List (List Nat)}{fn:Func}{nt:Nat}(hV:ay (ge w ro c.ps vs J nt)){x:ab c.ps}{pr:Nat->Prop}(b4:c8 P w ro pr c.ps x vs J)(bn:c.ps.length<=nt){ex:Ex}{s1:St}{y:ai c.rs×ah c.ps}
  (r:cY T c.ps c.rs c.fresh fn.results.toList ex s1=some y) {a:Act} {w':World} (u:Rel P (ge w ro c.ps vs J nt) s1 a w') :
  (ex=.normal\/ex=.ret)/\∃ v,(results fn a.tmps).run P w'=.ok v w'/\tD c w ro vs J y (.returned v) w':=by
 obtain⟨W,u⟩:=u;have ba:ex=.normal\/ex=.ret:=by
  cases ex with
  |normal=>exact .inl rfl
  |ret=>exact .inr rfl
  |exit id=>cases r
 refine⟨ba,?_⟩;have r:finR T c.ps c.rs c.fresh fn.results.toList s1=some y:=by
  rcases ba with rfl|rfl <;> exact r
 unfold finR at r;split at r
 ·rename_i M O c2 c0;cases X:aY (M.kill++O.kill)&&dz (M.frz++O.frz) (M.kill++O.kill)&&(!c.fresh||!(M.p||O.p)) with
  |false=>rw[X]at r;cases r
  |true =>
   rw[X]at r;simp only[cond_true,BG]at r;subst r;simp only[BI]at X;obtain⟨⟨bl,c3⟩,bb⟩:=X;let N:Nat->Prop:=λk=>W.nw k\/∃ z∈M.frz++O.frz,k∈W.bs z.1 z.2
   have hG:∀ (p:Bool) (a9:List (Nat×Nat)),(p=true->(M.p||O.p)=true)->(∀ z∈a9,z∈M.frz++O.frz)->∀ k,bm (ge w ro c.ps vs J nt) W p a9 k->N k\/(c.fresh=false/\ro k):=by
    intro p a9 hp H k I;rcases I with (I|⟨hq,I⟩)|⟨z,Z,I⟩
    ·exact .inl (.inl I)
    ·refine .inr ⟨?_,I⟩;rw[hp hq]at bb;simpa using bb
    ·exact .inl (.inr ⟨z,H z Z,I⟩)
   obtain⟨us,ad,bx,r1,r2,r3,r4,r5,r6,r7⟩:=tZ hV hT u rfl c.rs fn.results.toList M c2 (G:=λk=>N k\/(c.fresh=false/\ro k)) (hG M.p M.frz (by intro h;simp[h]) (λz H=>BJ _ H));obtain⟨b2,o1,o2,o3,o4,o5⟩:=mD hV u hV.nt c.ps x vs J 0 O b4 c0 (by rw[CQ];exact bn) (λz H=>u.fixt z H) (λz H=>u.fixb z H) (G:=λk=>N k\/(c.fresh=false/\ro k)) (hG O.p O.frz (by intro h;simp[h]) (λz H=>BK _ H));have a0:∀ z∈M.kill++O.kill,aA s1 z:=λz H=>(BH.1 H).elim (r7 z) (o4 z)
   have a1:∀ z∈M.frz++O.frz,aA s1 z:=λz H=>(BH.1 H).elim (r6 z) (o3 z)
   have a4:∀ k,k<w'.heap.size->¬ (ge w ro c.ps vs J nt).prot k->qa w w' J.flatten k:=by
    intro k I hp;refine⟨I,?_⟩;by_cases cc:k<w.heap.size
    ·right;apply CB;intro hn;exact hp ⟨cc,hn⟩
    ·exact .inl (by omega)
   have c4:∀ k,N k->qa w w' J.flatten k:=by
    rintro k (I|⟨z,H,I⟩)
    ·exact a4 k (u.nwlt k I).1 (u.nwlt k I).2
    ·obtain⟨l,h7,h8⟩:=a1 z H;exact a4 k (u.own_lt h7 h8 k I) (u.ownb z.1 z.2 l h7 h8 k I).2.1
   have Y:∀ b∈bx++bG 0 c.ps,live s1 b:=λb R=>(BH.1 R).elim (λR=>(r4 b R).1) (o5 b)
   have b9:(bx++bG 0 c.ps).Nodup:=by
    rw[CN];refine⟨?_,(rQ c.ps 0).1,λb R b' b3 e=>?_⟩
    ·have:=BC c1;rw[<- r5]at this
     match bx,this with
     |[],_=>exact Cd
     |[b],_=>simp
    ·subst e;have:=Cf.1 (r4 b R).2 b b3;simp at this
   have b0:=rR (β:=W.β) b9 (λb R b' b3 e=>u.inj b b' (Y b R) (Y b' b3) e);have a5:∀ k,(b2.flatten++ad.flatten).count k=(aW W (M.kill++O.kill)).count k+((bx++bG 0 c.ps).map W.β).count k:=λk=>by
    rw[B3,o2 k,r3 k,dI,B3,CX,B3];omega
   have cb:=bu.1 (gQ u bl a0);have a6:∀ k∈b2.flatten++ad.flatten,(∃ z∈M.kill++O.kill,k∈W.bs z.1 z.2)\/∃ b,live s1 b/\W.β b=k:=λk I=>by
    have h5:=B5.2 I;rw[a5 k]at h5;by_cases h6:k∈aW W (M.kill++O.kill)
    ·exact .inl (gl.1 h6)
    ·have:=Ce.2 h6;obtain⟨b,R,e⟩:=BR.1 (B5.1 (show 0<((bx++bG 0 c.ps).map W.β).count k by omega));exact .inr ⟨b,Y b R,e⟩
   refine⟨_,uJ r1,_,us,N,b2,ad,rfl,BB us,u.size,u.os,u.tape,u.output,λk h1 h2=>u.keep k ⟨h1,h2⟩,c4,o1,r2,bu.2 λk=>?_,λk I=>?_⟩
   ·rw[a5 k];have h5:=cb k;have h6:=bu.1 b0 k;by_cases h7:k∈(bx++bG 0 c.ps).map W.β
    ·have:(aW W (M.kill++O.kill)).count k=0:=Ce.2 λhm=>by
      obtain⟨b,R,e⟩:=BR.1 h7;obtain⟨z,H,a3⟩:=gl.1 hm;obtain⟨l,hl,ho⟩:=a0 z H;exact (u.ownb z.1 z.2 l hl ho k a3).2.2 b (Y b R) e
     omega
    ·have:=Ce.2 h7;omega
   ·rcases a6 k I with ⟨z,H,a3⟩|⟨b,R,e⟩
    ·obtain⟨l,hl,ho⟩:=a0 z H;have h9:=u.ownb z.1 z.2 l hl ho k a3;refine⟨a4 k (u.own_lt hl ho k a3) h9.2.1,?_⟩;rintro (hn|⟨z',Z,a2⟩)
     ·exact h9.1 hn
     ·obtain⟨l',b5,b1⟩:=a1 z' Z;obtain⟨e1,e2⟩:=u.sep z.1 z.2 l z'.1 z'.2 l' hl ho b5 b1 k a3 a2;exact nM c3 z' Z (by rw[show z'=z from Prod.ext e1.symm e2.symm];exact H)
    ·subst e;have h9:=u.box b R;refine⟨a4 _ (u.box_lt R) h9.2,?_⟩;rintro (hn|⟨z',Z,a2⟩)
     ·exact h9.1 hn
     ·obtain⟨l',b5,b1⟩:=a1 z' Z;exact (u.ownb z'.1 z'.2 l' b5 b1 _ a2).2.2 b R rfl
 ·cases r
theorem ki:∀ {ps:List PK} {u:List Value} {t:Nat} {z:Nat×Value},z∈d9 t ps u->z.1∈gj t ps
 |[],_,_,_,h=>by simp[d9]at h
 |r::ps,[],_,_,h=>by cases r <;> simp[d9]at h
 |r::ps,v::u,t,z,h=>by
  cases r <;> simp only[d9,gj,BU]at h ⊢ <;> first
   |exact ki h
   |exact h.imp (λe=>by rw[e]) ki
theorem kj:∀ {ps:List PK} {u:List Value} {t:Nat} {z:Nat×Nat},z∈d8 t ps u->z.1∈bG t ps
 |[],_,_,_,h=>by simp[d8]at h
 |r::ps,[],_,_,h=>by cases r <;> simp[d8]at h
 |r::ps,v::u,t,z,h=>by
  cases r <;> simp only[d8,bG,BU]at h ⊢ <;> first
   |exact kj h
   |exact h.imp (λe=>by rw[e]) kj
theorem dZ {f:FuncId}{fn:Func}{c:Code}(y:P.funcs[f]?=some fn)(H:(fn.name== "runtime.NumGoroutine")=false) (z:fn.body=some c):fU P f:=by
 intro u w;have r:fn.name≠ "runtime.NumGoroutine" := by simpa using H
 simp[callFunc,y,r,z]
theorem po (hT:TOk P T)(hΓ:∀ c∈Γ,bO P c)(R:P.follows .mixedOrders=true){c:Ctr}{fn:Func}(hf:P.funcs[c.f]?=some fn)(hn:(fn.name== "runtime.NumGoroutine")=false)
  {L:List (Nat×List (Nat×List Coe))} {a0:Nat} (O:fn.body.isSome=true) (M:∀ x,evF Γ T L a0 fn c.ps c.rs c.fresh x=c.den x):bO P c:=by
 obtain⟨u,O⟩:=Option.isSome_iff_exists.1 O;refine⟨dZ hf hn O,λw ro x vs a5 y H a4 a3 J=>?_⟩;rw[<- M]at J;unfold evF at J;simp only[O]at J;cases r:dP fn.ntmps (gj 0 c.ps) u&&Cs c.ps.length fn.ntmps&&Cs fn.ntmps GH&&qq c.rs&&dl L (bG 0 c.ps) u with
 |false=>simp[r]at J
 |true =>
  simp only[r,cond_true]at J;simp only[BI]at r;obtain⟨⟨⟨⟨h1,h2⟩,h3⟩,h4⟩,h5⟩:=r;have h2:=CC h2;have h3:=CC h3;have hV:ay (ge w ro c.ps vs a5 fn.ntmps):=⟨λk hk=>a4 k hk,h3⟩;have Y:=vw (P:=P) (ro:=ro) H a3 h2 h3;refine calls_of_wp hf O ?_;rw[C6];refine sq hV hT hΓ R (λz hz=>kj hz) (nt:=fn.ntmps) (fix:=gj 0 c.ps) rfl (λz hz=>ki hz) u h1 h5 _ _ y _ J (λex s1 Z a' w' hr=>?_) _ _ Y;obtain⟨a1,v,X,I⟩:=yi hT h4 hV H h2 Z hr;have a2:a'.defers=[]:=by obtain⟨W,hr⟩:=hr;exact hr.df
  rcases a1 with rfl|rfl <;> exact⟨a2,v,X,I⟩
end
section
variable {P:Program}
def szB (P:Program)(t:TypeId)(n:Nat):Bool :=
 match P.info? t with
 |some i=>BP i.size n
 |none=>false
theorem fR {t:TypeId}{n:Nat}(h:szB P t n=true):bP P t n:=by
 unfold szB at h;unfold bP;split at h
 ·rename_i i r;rw[r];simp only[B9];rw[BN h]
 ·cases h
def ua (P:Program)(t:TypeId)(agg:Bool):Bool :=
 match P.underlying t with
 |some (.struct _)|some (.array _ _)=>agg
 |some _=>!agg
 |none=>false
theorem qU {t:TypeId}{agg:Bool}(h:ua P t agg=true):(P.underlying t).map (λd=>match d with|.struct _|.array _ _=>true|_=>false)=some agg:=by
 unfold ua at h;split at h
 ·rename_i r;rw[r];simp[h]
 ·rename_i r;rw[r];simp[h]
 ·rename_i d y u r;rw[r];simp only[B9,BG];cases agg with
  |true=>cases h
  |false =>
   cases d <;> first|rfl|(exact absurd r (y _))|(exact absurd r (u _ _))
 ·cases h
theorem AP {t:TypeId}{agg:Bool}(h:(P.underlying t).map (λd=>match d with|.struct _|.array _ _=>true|_=>false)=some agg)(w:World):(isAgg t).run P w=.ok agg w:=by
 unfold isAgg;cases r:P.underlying t with
 |none=>simp[r]at h
 |some u =>
  rw[r]at h;simp only[B9,BG]at h;subst h;rw[CU,run_underlying r w];cases u <;> rfl
def lQ (P:Program)(f:Field)(off:Nat)(b:Ty):Bool:=(f.name != "_")&&BP f.offset off&&szB P f.type b.cells&&ua P f.type b.isAgg
def eqF (P:Program)(g:Ty->TypeId->Bool):List Field->Nat->Ty->Bool
 |[],_,_=>false
 |[f],off,b=>lQ P f off b&&g b f.type
 |f::r,off,.pair b c=>lQ P f off b&&g b f.type&&eqF P g r (off+b.cells) c
 |_,_,_=>false
def eqT (P:Program):Nat->Ty->TypeId->Bool
 |0,_,_=>false
 |n+1,a,t=>match a with
  |.int k=>(match P.underlying t with|some (.int k')=>decide (k'=k)|_=>false)
  |.bool=>(match P.underlying t with|some .bool=>true|_=>false)
  |.str=>(match P.underlying t with|some .string=>true|_=>false)
  |.pair b c=>(match P.underlying t with|some (.struct fs)=>!P.stoodInHeld t&&eqF P (eqT P n) fs.toList 0 (.pair b c)|_=>false)
  |_=>false
theorem zz:∀ (b:Ty),b.isAgg=false->b.cells=1
 |.int _,_=>rfl
 |.bool,_=>rfl
 |.str,_=>rfl
 |.list _ _ _,_=>rfl
 |.hdr,_=>rfl
 |.unit,h=>by cases h
 |.pair _ _,h=>by cases h
theorem mE {f:Field}{off:Nat}{b:Ty}(h:lQ P f off b=true){xs p c s:List Value}(M:xs=p++c++s)(J:p.length=off)(I:c.length=b.cells)(w:World) :
  ∃ v,(part f.type xs.toArray f.offset).run P w=.ok v w/\da b.isAgg v c:=by
 unfold lQ at h;simp only[BI]at h;obtain⟨⟨⟨_,y⟩,O⟩,R⟩:=h;have y:=BN y;have r:=AP (qU R) w;have H:=dq (fR O) w;have u:(xs.drop off).take b.cells=c:=by
  rw[M,CD,<- J,List.drop_left,<- I,List.take_left]
 cases z:b.isAgg with
 |true =>
  rw[z]at r;refine⟨.agg c.toArray,?_,rfl⟩;have e:xs.toArray.extract off (off+b.cells)=c.toArray:=by
   rw[List.extract_toArray,List.extract_eq_take_drop,Nat.add_sub_cancel_left,u]
  simp only[part,CU,r,CO,if_true,H,C5,y,e]
 |false =>
  rw[z]at r;have X:=zz b z;rw[X]at I
  match c,I with
  |[v],_ =>
   refine⟨v,?_,rfl⟩;have e:xs.toArray[off]?=some v:=by
    simp only[List.getElem?_toArray];rw[M,CD,B8 (by omega)];simp[J]
   simp only[part,CU,r,CO,CZ,if_false,y,e,C5]
def zT (P:Program)(d:Nat)(b:Ty)(t:TypeId):Prop:=∀ (w:World) (G:Nat->Prop) (x y:b.den) (u z:Value) (H r:List Value),da b.isAgg u H->Rd w G b x H->da b.isAgg z r->Rd w G b y r ->
 (Op.equalIn d t u z).run P w=.ok (b.eqv x y) w
theorem yj {d:Nat}{g:Ty->TypeId->Bool}(hg:∀ b t,g b t=true->zT P d b t):∀ (fs:List Field) (off:Nat) (b:Ty),eqF P g fs off b=true->∀ (w:World) (G:Nat->Prop) (x y:b.den) (z X u O:List Value),
  z.length=off->u.length=off->Rd w G b x X->Rd w G b y O->(Op.eqFields d (z++X).toArray (u++O).toArray fs).run P w=.ok (b.eqv x y) w
 |[],_,_,h=>by simp[eqF]at h
 |[f],off,b,h=>by
  intro w G x y z X u O r H hx hy;simp only[eqF,BI]at h;obtain⟨v1,h1,h2⟩:=mE h.1 (xs:=z++X) (p:=z) (c:=X) (s:=[]) (by simp) r hx.len w;obtain⟨v2,h3,h4⟩:=mE h.1 (xs:=u++O) (p:=u) (c:=O) (s:=[]) (by simp) H hy.len w;have h5:=hg b f.type h.2 w G x y v1 v2 X O h2 hx h4 hy;have hn:f.name≠ "_" := by
   have:=h.1;unfold lQ at this;simp only[BI]at this;simpa using this.1.1.1
  simp only[Op.eqFields,if_pos hn,CU,h1,h3,h5,CO];cases b.eqv x y <;> simp
 |f::J::fs,off,.pair b c,h=>by
  intro w G x y z X u O r H hx hy;simp only[eqF,BI]at h;obtain⟨⟨Y,a1⟩,R⟩:=h;obtain⟨Z,c2,rfl,I,a0⟩:=hx;obtain⟨d1,d2,rfl,M,a2⟩:=hy;obtain⟨v1,h1,h2⟩:=mE Y (xs:=z++(Z++c2)) (p:=z) (c:=Z) (s:=c2) (by simp) r I.len w;obtain⟨v2,h3,h4⟩:=mE Y (xs:=u++(d1++d2)) (p:=u) (c:=d1) (s:=d2) (by simp) H M.len w;have h5:=hg b f.type a1 w G x.1 y.1 v1 v2 Z d1 h2 I h4 M;have h6:=yj hg (J::fs) (off+b.cells) c R w G x.2 y.2 (z++Z) c2 (u++d1) d2 (by simp[r,I.len]) (by simp[H,M.len]) a0 a2;rw[CD,CD]at h6;have hn:f.name≠ "_" := by
   unfold lQ at Y;simp only[BI]at Y;simpa using Y.1.1.1
  rw[Op.eqFields];simp only[if_pos hn,CU,h1,h3,h5,CO];show _=Result.ok (b.eqv x.1 y.1&&c.eqv x.2 y.2) w;cases b.eqv x.1 y.1 with
  |false=>simp
  |true=>simpa using h6
 |f::J::fs,off,.int _,h=>by simp[eqF]at h
 |f::J::fs,off,.bool,h=>by simp[eqF]at h
 |f::J::fs,off,.str,h=>by simp[eqF]at h
 |f::J::fs,off,.unit,h=>by simp[eqF]at h
 |f::J::fs,off,.list _ _ _,h=>by simp[eqF]at h
 |f::J::fs,off,.hdr,h=>by simp[eqF]at h
theorem rS (x y:ByteArray):(x==y)=decide (x=y):=by
 rw[beq_toListBytes];by_cases h:x=y
 ·subst h;simp
 ·rw[decide_eq_false h];cases r:(x.toList==y.toList) with
  |false=>rfl
  |true =>
   exfalso;apply h;have:=eq_of_beq r;rw[Cw,Cw]at this;apply ByteArray.ext;exact Array.ext' this
theorem yk:∀ (n:Nat) (a:Ty) (t:TypeId),eqT P n a t=true->∀ d,n<=d->zT P d a t
 |0,_,_,h=>by simp[eqT]at h
 |n+1,a,t,h=>by
  intro d hd;obtain⟨d,rfl⟩:∃ d',d=d'+1:=⟨d-1,by omega⟩;intro w G x y O R M I u H r z;cases a with
  |int k =>
   simp only[eqT]at h;split at h
   ·rename_i X J;have hk:=of_decide_eq_true h;subst hk;have H:M=[.int X x]:=H;have z:I=[.int X y]:=z;have u:M=[O]:=u;have r:I=[R]:=r;rw[H]at u;rw[z]at r;simp at u r;subst u;subst r;simp[Op.equalIn,run_underlying J,Ty.eqv];rfl
   ·cases h
  |bool =>
   simp only[eqT]at h;split at h
   ·rename_i J;have H:M=[.bool x]:=H;have z:I=[.bool y]:=z;have u:M=[O]:=u;have r:I=[R]:=r;rw[H]at u;rw[z]at r;simp at u r;subst u;subst r;simp[Op.equalIn,run_underlying J,Ty.eqv]
   ·cases h
  |str =>
   simp only[eqT]at h;split at h
   ·rename_i J;have H:M=[.string x]:=H;have z:I=[.string y]:=z;have u:M=[O]:=u;have r:I=[R]:=r;rw[H]at u;rw[z]at r;simp at u r;subst u;subst r;have:=rS x y;simp[Op.equalIn,run_underlying J,Ty.eqv,this]
   ·cases h
  |pair b c =>
   simp only[eqT]at h;split at h
   ·rename_i Y J;simp only[BI,CK]at h;have Z:P.fieldsOf t=Y:=by simp[Program.fieldsOf,J]
    have u:O=.agg M.toArray:=u;have r:R=.agg I.toArray:=r;subst u;subst r;rw[run_equalIn_struct (P:=P) w d t _ _ (by rw[Z];exact J) h.1,Z];have:=yj (P:=P) (λb t hb=>yk n b t hb d (by omega)) Y.toList 0 (.pair b c) h.2 w G x y [] M [] I rfl rfl H z;simpa using this
   ·cases h
  |unit=>simp[eqT]at h
  |hdr=>simp[eqT]at h
  |list m E e=>simp[eqT]at h
theorem AQ {t:TypeId}{a:Ty}(h:eqT P 64 a t=true)(u:a.isAgg=true):EqAt P t a:=by
 intro _ w G x y z r I H;have:=yk 64 a t h Op.maxDepth (by decide) w G x y (.agg z.toArray) (.agg r.toArray) z r (by rw[u];rfl) I (by rw[u];rfl) H;exact this
def wK:Value->Value->Bool
 |.int k n,.int u z=>decide (k=u)&&decide (n=z)
 |.bool b,.bool r=>b==r
 |.string s,.string y=>decide (s.toList=y.toList)
 |.slice none 0 0,.slice none 0 0=>true
 |.pointer none,.pointer none=>true
 |.nilFunc,.nilFunc=>true
 |_,_=>false
def k6:List Value->List Value->Bool
 |[],[]=>true
 |v::y,u::r=>wK v u&&k6 y r
 |_,_=>false
theorem zA {v u:Value}(h:wK v u=true):v=u:=by
 unfold wK at h;split at h
 ·simp only[BI,decide_eq_true_eq]at h;rw[h.1,h.2]
 ·rw[eq_of_beq h]
 ·rename_i s r;have:s=r:=by
   have y:=rS s r;rw[beq_toListBytes,of_decide_eq_true h]at y;simpa using y.symm
  rw[this]
 ·rfl
 ·rfl
 ·rfl
 ·cases h
theorem mF:∀ {r us:List Value},k6 r us=true->r=us
 |[],[],_=>rfl
 |v::r,u::us,h=>by
  simp only[k6,BI]at h;rw[zA h.1,mF h.2]
 |[],_::_,h=>by simp[k6]at h
 |_::_,[],h=>by simp[k6]at h
def zB (P:Program)(t:TypeId)(agg:Bool)(cs:List Value):Bool :=
 match P.info? t with
 |some i=>match i.zero with
  |some (.agg r)=>agg&&k6 r.toList cs
  |some v=>!agg&&k6 [v] cs
  |none=>false
 |none=>false
theorem yl {t:TypeId}{cs:List Value}(h:zB P t true cs=true):d5 P t (.agg cs.toArray):=by
 unfold zB at h;unfold d5;split at h
 ·rename_i i u;rw[u];split at h
  ·rename_i y r;simp only[Cy]at h;rw[B9,r,<- mF h,Array.toArray_toList]
  ·cases h
  ·cases h
 ·cases h
theorem lR {t:TypeId}{v:Value}(h:zB P t false [v]=true):d5 P t v:=by
 unfold zB at h;unfold d5;split at h
 ·rename_i i y;rw[y];split at h
  ·cases h
  ·rename_i u _ r;simp only[DG,Cy]at h;have:=mF h;simp only[Cm,and_true]at this;rw[B9,r,this]
  ·cases h
 ·cases h
def kp (P:Program)(n:Nat):List Field->List (Nat×Nat×Bool)->Bool
 |[],[]=>true
 |f::u,(off,k,agg)::r=>BP f.offset off&&szB P f.type k&&ua P f.type agg&&Cl 0 k&&Cs (off+k) n&&(agg||BP k 1)&&kp P n u r
 |_,_=>false
def isU8:Ty->Bool
 |.int .u8=>true
 |_=>false
def u8B (P:Program)(E:TypeId):Bool :=
 match P.underlying E with
 |some (.int .u8)=>true
 |_=>false
def tiB (P:Program)(t:TypeId):TI->Bool
 |.int k=>(match P.underlying t with|some (.int k')=>decide (k'=k)|_=>false)&&szB P t 1&&zB P t false [.int k 0]
 |.bool=>(match P.underlying t with|some .bool=>true|_=>false)&&szB P t 1&&zB P t false [.bool false]
 |.str=>(match P.underlying t with|some .string=>true|_=>false)&&szB P t 1&&zB P t false [.string ByteArray.empty]
 |.slice E e r=>(match P.underlying t with|some (.slice E')=>BP E' E|_=>false)&&szB P t 1&&zB P t false [.slice none 0 0]&&Cl 0 e.cells&&Cl 0 r &&
  szB P E e.cells&&(match P.info? E with | some i=>BP i.bytes r&&(match i.zero with | some z=>k6 z.cells.toList (zeroCells e) | none=>false) | none=>false)&&(!isU8 e||u8B P E)
 |.arr e n=>(match P.underlying t with|some (.array m E)=>BP m n&&szB P E e.cells&&ua P E e.isAgg|_=>false)&&Cl 0 e.cells&&szB P t (n*e.cells)&&zB P t true (List.replicate n (zeroCells e)).flatten
 |.struct a u=>(match P.underlying t with | some (.struct y)=>kp P a.cells y.toList u | _=>false)&&szB P t a.cells&&zB P t true (zeroCells a)&&a.isAgg&&(!a.flat||eqT P 64 a t)&&!P.eqGuardType P.depth t
 |.ptr=>(match P.underlying t with|some (.pointer _)=>true|_=>false)&&szB P t 1&&zB P t false [.pointer none]
 |.fn=>(match P.underlying t with|some (.func _ _ _)=>true|_=>false)&&szB P t 1&&zB P t false [.nilFunc]
 |.none=>true
theorem qm {n:Nat}:∀ {fs:List Field} {xs:List (Nat×Nat×Bool)},kp P n fs xs=true ->
  fs.mapM (λf=>(P.info? f.type).map λi=>(f.offset,i.size))=some (xs.map λx=>(x.1,x.2.1)) /\
  ∀ (i off k:Nat) (agg:Bool),xs[i]?=some (off,k,agg)->(agg=false->k=1)/\∃ f:Field,fs[i]?=some f/\f.offset=off/\0<k/\off+k<=n/\bP P f.type k /\
   (P.underlying f.type).map (λd=>match d with|.struct _|.array _ _=>true|_=>false)=some agg
 |[],[],_=>⟨rfl,λi off k agg h=>by simp at h⟩
 |[],_::_,h=>by simp[kp]at h
 |_::_,[],h=>by simp[kp]at h
 |f::fs,(off,k,agg)::xs,h=>by
  simp only[kp,BI,CW]at h;obtain⟨⟨⟨⟨⟨⟨H,h2⟩,Y⟩,Z⟩,h5⟩,u⟩,h7⟩:=h;have H:=BN H;have r:=fR h2;obtain⟨h8,h9⟩:=qm h7;constructor
  ·unfold bP at r;cases I:P.info? f.type with
   |none=>rw[I]at r;cases r
   |some i =>
    rw[I]at r;simp only[B9,BG]at r;simp[Cr,I,h8,r,H]
  ·intro i y O z J;cases i with
   |zero =>
    simp at J;obtain⟨rfl,rfl,rfl⟩:=J;refine⟨λha=>?_,f,rfl,H,by simpa[CS]using Z,CC h5,r,qU Y⟩;rcases u with u|u
    ·rw[ha]at u;cases u
    ·exact BN u
   |succ i =>
    obtain⟨X,M,q2,R⟩:=h9 i y O z (by simpa using J);exact⟨X,M,by simpa using q2,R⟩
theorem BD {t:TypeId}{i:TI}(h:tiB P t i=true):oO P t i:=by
 cases i with
 |none=>trivial
 |int k =>
  simp only[tiB,BI]at h;obtain⟨⟨r,I⟩,H⟩:=h;split at r
  ·rename_i k' u;rw[of_decide_eq_true r]at u;exact⟨u,fR I,lR H⟩
  ·cases r
 |bool =>
  simp only[tiB,BI]at h;obtain⟨⟨r,I⟩,H⟩:=h;split at r
  ·rename_i u;exact⟨u,fR I,lR H⟩
  ·cases r
 |str =>
  simp only[tiB,BI]at h;obtain⟨⟨r,I⟩,H⟩:=h;split at r
  ·rename_i u;exact⟨u,fR I,lR H⟩
  ·cases r
 |ptr =>
  simp only[tiB,BI]at h;obtain⟨⟨r,I⟩,H⟩:=h;split at r
  ·rename_i e u;exact⟨⟨e,u⟩,fR I,lR H⟩
  ·cases r
 |fn =>
  simp only[tiB,BI]at h;obtain⟨⟨r,I⟩,H⟩:=h;split at r
  ·rename_i x y z u;exact⟨⟨x,y,z,u⟩,fR I,lR H⟩
  ·cases r
 |slice E e a1 =>
  simp only[tiB,BI]at h;obtain⟨⟨⟨⟨⟨⟨⟨r,I⟩,H⟩,X⟩,M⟩,Z⟩,R⟩,J⟩:=h;have a0:e=.int .u8->P.underlying E=some (.int .u8):=by
   intro he;subst he;have J:u8B P E=true:=by simpa[isU8]using J
   unfold u8B at J;split at J
   ·rename_i hq;exact hq
   ·cases J
  split at r
  ·rename_i E' u;rw[BN r]at u;split at R
   ·rename_i ti Y;simp only[BI]at R;obtain⟨h8,h9⟩:=R;split at h9
    ·rename_i z hz;have O:=fR Z;unfold bP at O;rw[Y]at O;simp only[B9,BG]at O;exact⟨u,fR I,lR H,by simpa[CS]using X,⟨by simpa[CS]using M,a0⟩,ti,z,Y,O,BN h8,hz,mF h9⟩
    ·cases h9
   ·cases R
  ·cases r
 |arr e n =>
  simp only[tiB,BI]at h;obtain⟨⟨⟨r,I⟩,H⟩,X⟩:=h;split at r
  ·rename_i m E u;simp only[BI]at r;obtain⟨⟨M,Z⟩,R⟩:=r;rw[BN M]at u;exact⟨⟨E,u,fR Z,qU R⟩,by simpa[CS]using I,fR H,yl X⟩
  ·cases r
 |struct a a2 =>
  simp only[tiB,BI,CW,CK]at h;obtain⟨⟨⟨⟨⟨r,I⟩,H⟩,X⟩,M⟩,Z⟩:=h;split at r
  ·rename_i fs u;obtain⟨R,h8⟩:=qm r;refine⟨⟨fs,u,R,λi off n agg hx=>?_⟩,fR I,yl H,?_,Z⟩
   ·obtain⟨q1,f,q2,q3⟩:=h8 i off n agg hx;exact⟨q1,f,by simpa using q2,q3⟩
   ·intro hf;rcases M with M|M
    ·rw[hf]at M;cases M
    ·exact AQ M X hf
  ·cases r
def tlB (P:Program):List (TypeId×TI)->Bool
 |[]=>true
 |x::l=>tiB P x.1 x.2&&tlB P l
theorem je:∀ {l:List (TypeId×TI)},tlB P l=true->TOk P (gD l):=by
 intro l h;refine sE ?_;induction l with
 |nil=>simp
 |cons x l u =>
  simp only[tlB,BI]at h;intro y r;rcases BU.1 r with rfl|r
  ·exact BD h.1
  ·exact u h.2 y r
end
section
variable {P:Program} {T:TypeId->TI}
theorem k7 (hT:TOk P T)(M:P.follows .mixedOrders=true){f:FuncId}{fn:Func}(hf:P.funcs[f]?=some fn)(hn:(fn.name== "runtime.NumGoroutine")=false) {E:TypeId} {e:Ty} {rs:List RK} {r:Bool}
  {a0:ab [PK.rd (.list false E e)]->Option (ai rs×ah [PK.rd (.list false E e)])} {R0 A B C:Code} {rid:Nat} {o0 o1:Oper} {d0 q t t':Nat} {x0:Operand} {L:List (Nat×List (Nat×List Coe))} {K:Nat}
  (hb:fn.body=some (.seq R0 (.seq (.seq (.region rid #[o0,o1] false) (.cond (.tmp q) A B)) C))) (bb:o0.guard=none) (dc:o0.op=.move x0) (bn:o1.op=.binOp .eql t (.tmp d0) (.const (.slice none 0 0)) t') (c1:o1.guard=none) (b0:o1.dst=some q)
  {E':TypeId} (ht:P.underlying t=some (.slice E'))
  (a4:(dP fn.ntmps [] (.seq R0 (.seq (.seq (.region rid #[o0,o1] false) (.cond (.tmp q) A B)) C))&&Cs 1 fn.ntmps&&Cs fn.ntmps GH&&qq rs&&dl L [] (.seq R0 (.seq (.seq (.region rid #[o0,o1] false) (.cond (.tmp q) A B)) C)))=true)
  {S1:ab [PK.rd (.list false E e)]->St}
  (b9:∀ x,evK [] T L K R0 (av (c5 0 [PK.rd (.list false E e)] x)) (oN (λs _=>act [] T o0 s (λU=>some (ac U s))) (λ_ _=>none))=some (S1 x))
  (O:∀ x,one (S1 x) (.tmp d0)=.ro true E e x.1)
  (hF:∀ x,evK [] T L K (.seq (.cond (.tmp q) A B) C) (ac (cf (S1 x) [] q .one [.bool false]) (S1 x)) (cY T [PK.rd (.list false E e)] rs r fn.results.toList)=a0 x)
  (c2:∀ x y,x.1=[]->a0 x=some y->evK [] T L K (.seq (.cond (.tmp q) A B) C) (ac (cf (S1 x) [] q .one [.bool true]) (S1 x)) (cY T [PK.rd (.list false E e)] rs r fn.results.toList)=some y) :
  bO P ⟨f,[PK.rd (.list false E e)],rs,r,a0⟩:=by
 refine⟨dZ hf hn hb,λw ro x vs u y Z d2 cu hy=>?_⟩;simp only[BI]at a4;obtain⟨⟨⟨⟨h1,h2⟩,h3⟩,h4⟩,h5⟩:=a4;have h2:=CC h2;have h3:=CC h3;have hV:ay (ge w ro [PK.rd (.list false E e)] vs u fn.ntmps):=⟨λk hk=>d2 k hk,h3⟩;have b3:=vw (P:=P) (ro:=ro) Z cu h2 h3;have hnoΓ:∀ c∈([]:List Ctr),bO P c:=by simp
 have a6:∀ z∈(ge w ro [PK.rd (.list false E e)] vs u fn.ntmps).fixb,z.1∈([]:List Nat):=λz hz=>kj (ps:=[PK.rd (.list false E e)]) hz
 have Y:∀ z∈(ge w ro [PK.rd (.list false E e)] vs u fn.ntmps).fixt,z.1∈([]:List Nat):=λz hz=>ki (ps:=[PK.rd (.list false E e)]) hz
 simp only[dP,BI]at h1;simp only[dl,BI]at h5;obtain⟨cx,⟨bx,d3⟩,cp⟩:=h1;obtain⟨cc,⟨_,cy⟩,cw⟩:=h5;refine calls_of_wp hf hb ?_;rw[C6];generalize c4:bodyPost P fn (tD ⟨f,[PK.rd (.list false E e)],rs,r,a0⟩ w ro vs u y)=Q;have hQ:∀ ex s1,cY T [PK.rd (.list false E e)] rs r fn.results.toList ex s1=some y->∀ a H,Rel P (ge w ro [PK.rd (.list false E e)] vs u fn.ntmps) s1 a H->Q (exOf ex) a H:=by
  intro ex s1 b5 a' H J;obtain⟨c3,v,X,a9⟩:=yi (c:=⟨f,[PK.rd (.list false E e)],rs,r,a0⟩) hT h4 hV Z h2 b5 J;have d1:a'.defers=[]:=by obtain⟨W,J⟩:=J;exact J.df
  subst c4;rcases c3 with rfl|rfl <;> exact⟨d1,v,X,a9⟩
 have b2:∀ (b:Bool),evK [] T L K (.seq (.cond (.tmp q) A B) C) (ac (cf (S1 x) [] q .one [.bool b]) (S1 x)) (cY T [PK.rd (.list false E e)] rs r fn.results.toList)=some y ->
   ∀ a H,Rel P (ge w ro [PK.rd (.list false E e)] vs u fn.ntmps) (ac (cf (S1 x) [] q .one [.bool b]) (S1 x)) a H->(Code.cond (.tmp q) A B).wp P (Exit.then (C.wp P Q) Q) a H:=by
  intro b b1 a H J;refine sq hV hT hnoΓ M a6 (nt:=fn.ntmps) (fix:=[]) rfl Y (.cond (.tmp q) A B) (by simp only[dP,BI];exact d3) (by simp only[dl,BI];exact cy) _ _ y _ b1 (λex s1 I a H J=>?_) a H J;cases ex with
  |normal=>exact sq hV hT hnoΓ M a6 (nt:=fn.ntmps) (fix:=[]) rfl Y C cp cw s1 _ y Q I hQ a H J
  |exit bl=>exact hQ (.exit bl) s1 I a H J
  |ret=>exact hQ .ret s1 I a H J
 have a3:∀ (i:Nat) (o:Oper),(#[o0,o1]:Array Oper)[i]?=some o->lD fn.ntmps [] #[o0,o1] o=true:=λi o hi=>by
  simp only[B6]at bx;exact bx o (by simpa using Co hi)
 refine wp_seq (sq hV hT hnoΓ M a6 (nt:=fn.ntmps) (fix:=[]) rfl Y R0 cx cc _ _ (S1 x) _ (b9 x) (λex s0 I a H J=>?_) _ _ b3);cases ex with
 |exit bl=>cases I
 |ret=>cases I
 |normal =>
  have I:act [] T o0 s0 (λU=>some (ac U s0))=some (S1 x):=I;rw[tK]at I;obtain⟨U,hU,I⟩:=CE.1 I;simp only[BG]at I;refine wp_seq (wp_seq (wp_region ?_));have a2:DF (#[o0,o1]:Array Oper).size=[0,1]:=rfl;rw[a2,wpOps_cons];refine wH hV hT hnoΓ (ops:=#[o0,o1]) (i:=0) (o:=o0) rfl (mB rfl Y (a3 0 o0 rfl)) (λj dd hg=>by rw[bb]at hg;cases hg) (U:=U) (by unfold my;rw[bb];exact hU) J (λa1 w1 R=>?_);rw[I]at R;rw[wpOps_cons];obtain⟨W1,R⟩:=R;have a5:bM (ge w ro [PK.rd (.list false E e)] vs u fn.ntmps) o1:=mB rfl Y (a3 1 o1 rfl);obtain⟨h7,_,_,_,_⟩:=bt R (.tmp d0) (by rw[O x];simp);rw[O x]at h7;obtain⟨A',b4,hv,_,cb⟩:=h7;have hv:a1.eval (.tmp d0)=.slice A' x.1.length b4:=by simpa using hv
  have ba:A'=none->x.1=[]:=λhA=>by
   cases hx:x.1 with
   |nil=>rfl
   |cons y ys =>
    obtain⟨g,o,c0,_⟩:=cb (by rw[hx];simp);rw[hA]at c0;cases c0
  have b1:evK [] T L K (.seq (.cond (.tmp q) A B) C) (ac (cf (S1 x) [] q .one [.bool A'.isNone]) (S1 x)) (cY T [PK.rd (.list false E e)] rs r fn.results.toList)=some y:=by
   cases hA:A' with
   |none=>exact c2 x y (ba hA) hy
   |some ad=>exact (hF x).trans hy
  have X:(execOp a1.eval o1).run P w1=.ok (.value (.bool A'.isNone)) w1:=by
   have:=Lib.run_eql_slice_nil (P:=P) w1 t E' A' x.1.length b4 0 0 ht;have hc:a1.eval (.const (.slice none 0 0))=.slice none 0 0:=rfl;simp[execOp,bn,hv,hc,eqGuard,this]
  unfold wpOp;have hi:(#[o0,o1]:Array Oper)[1]?=some o1:=rfl;simp only[hi];have hw:Region.wanted o1 (yielded #[o0,o1] a1.tmps)=true:=by simp[Region.wanted,c1]
  rw[if_pos hw];refine .inl (dW X ?_);rw[b0];show Exit.then _ _ _ _ _;exact b2 _ b1 _ _ (R.putLs hV q (a5 q b0).1 (a5 q b0).2 _ .one [.bool A'.isNone] (.bool A'.isNone) [.bool A'.isNone] (CP _) rfl ⟨⟨rfl,id,rfl⟩,trivial⟩)
end
open Go.ChangeShapes Go.WideShapes
section
variable {H:Type} {enc:TypeId×Value->H} {P:Program}
theorem mI (O:laidOutB P=true){W W':World}{M:Nat->Bool}:∀ {y:List TypeId} {z:List Value} {ds:List (DataW H)} {ps:List MemPlace},(∀ t∈y,P.readableRec t=true/\t<P.types.size) ->
  DataW.TrodAll enc P W 0 (λ_=>true) true y z ds ps->(∀ x∈ps,W.sameAt W' x)->(∀ x∈ps,M x.block=true)->DataW.TrodAll enc P W' 0 M true y z ds ps
 |[],[],[],_,_,h,_,_=>h
 |[],[],_::_,_,_,h,_,_=>h.elim
 |[],_::_,_,_,_,h,_,_=>h.elim
 |_::_,[],_,_,_,h,_,_=>h.elim
 |_::_,_::_,[],_,_,h,_,_=>h.elim
 |t::y,v::z,d::ds,ps,I,⟨p,q,Y,X,e⟩,J,u=>by
  subst e;refine⟨p,q,WideElems.Trod_stays O (I t (BM ..)).1 (I t (BM ..)).2 Y (λx r=>J x (BJ _ r)) (λx r=>u x (BJ _ r)),
   mI O (λR Z=>I R (BL _ Z)) X (λx r=>J x (BK _ r)) (λx r=>u x (BK _ r)),rfl⟩
theorem r9 (hl:laidOutB P=true){f:Func}{s:ChangeSpec}{J X z a1:Bool}{W W':World}{I:Array Value}{ds gs:List (DataW H)}{r:List MemPlace}
  (hW:DataW.Whole enc P f.params.toList s.vars J W I.toList ds gs r) (y:s.vars=[]) (hb:Below W.heap.size W W') (Z:∀ t∈f.params.toList,P.readableRec t=true/\t<P.types.size)
  {tb:TypeId} (R:f.resultTypes=#[tb]) (u:P.underlying tb=some .bool) (a2:(s.fn H (ds++gs)).results=[.lit (.bool true)]) (a0:(s.fn H (ds++gs)).args=ds) (a3:(s.fn H (ds++gs)).vars=[]) :
  s.post enc P f J X z a1 W I (.bool true) W':=by
 have O:∀ p∈r,p.block<W.heap.size:=λp hp=>by simpa using hW.lt p hp
 have a4:=hW;obtain⟨p,q,hA,hV,e,hz,hn⟩:=hW;rw[y]at hV;obtain⟨rfl,rfl⟩:=trodVars_none hV;simp only[List.append_nil]at e;subst e;have Y:∀ x∈r,W.sameAt W' x:=λx hx=>hb.same (O x hx)
 have a6:(Value.bool true).resultList f.resultTypes.size=[.bool true]:=by rw[R];rfl
 have hr:∀ (b:Nat) (M:Nat->Bool) (hd:Bool),DataW.TrodAll enc P W' b M hd f.resultTypes.toList ((Value.bool true).resultList f.resultTypes.size) (s.fn H (ds++[])).results []:=by
  intro b M hd;rw[a6,a2,R];exact trodAll_mk1 (shut_bool u true)
 have ha:∀ (M:Nat->Bool),(∀ x∈r,M x.block=true)->DataW.TrodAll enc P W' 0 M true f.params.toList I.toList (s.fn H (ds++[])).args r:=by
  intro M a9;rw[a0];exact mI hl Z hA Y a9
 have hv:∀ (M:Nat->Bool),DataW.TrodVars enc P W' M s.vars (s.fn H (ds++[])).vars []:=by
  intro M;rw[y,a3];rfl
 refine⟨ds,[],r,[],r,[],a4,hr _ _ _,ha _ (λx hx=>by simpa using O x hx),hv _,hb.frame _,λ_=>⟨ok_one R rfl (okWide_bool_mk u true),_,_,([]++r)++[],⟨[]++r,[],trodAll_append (ha _ (λ_ _=>rfl)) (hr _ _ _),hv _,rfl,?_,?_⟩,?_⟩⟩
 ·intro b off hp;have hp:MemPlace.cell b off∈r:=by simpa using hp
  rw[hb.frozen (p:=⟨b,off,none⟩) (O _ hp)];exact hz b off hp
 ·intro a5;have:=hn a5;simpa using this
 ·intro x hx _;simpa using hx
end
section
variable {H:Type} {enc:TypeId×Value->H} {P:Program} {w:World} {base:Nat} {spare:Nat->Bool} {held:Bool}
def shF (P:Program)(g:Ty->TypeId->Bool):List Field->Nat->Ty->Bool
 |[],_,_=>false
 |[f],off,b=>BP f.offset off&&BP (P.cellsOf f.type) b.cells&&g b f.type
 |f::r,off,.pair b c=>BP f.offset off&&BP (P.cellsOf f.type) b.cells&&g b f.type&&shF P g r (off+b.cells) c
 |_,_,_=>false
def shT (P:Program):Nat->Ty->TypeId->Bool
 |0,_,_=>false
 |n+1,a,t=>match a with
  |.int k=>(match P.underlying t with|some (.int k')=>decide (k'=k)|_=>false)
  |.bool=>(match P.underlying t with|some .bool=>true|_=>false)
  |.str=>(match P.underlying t with|some .string=>true|_=>false)
  |.pair b c=>(match P.underlying t with|some (.struct fs)=>shF P (shT P n) fs.toList 0 (.pair b c)&&BP (P.cellsOf t) (b.cells+c.cells)|_=>false)
  |.list _ E e=>(match P.underlying t with|some (.slice E')=>BP E' E&&BP (P.cellsOf E) e.cells&&Cl 0 e.cells&&shT P n e E|_=>false)
  |.unit=>false
  |.hdr=>false
def Sm:(a:Ty)->a.den->Prop
 |.int k,n=>(Lit.int k n).wf=true
 |.pair a b,x=>Sm a x.1/\Sm b x.2
 |.list _ _ e,r=>r.length<=maxLen/\∀ x∈(r:List e.den),Sm e x
 |.bool,_=>True
 |.str,s=>s.size<=maxLen
 |.unit,_=>True
 |.hdr,_=>True
theorem k8 {α β:Type}{f:α->Option β}:∀ (l:List α) (r:List β),l.mapM f=some r->r.length=l.length/\∀ (i:Nat) (x:α),l[i]?=some x->∃ y,f x=some y/\r[i]?=some y
 |[],r,h=>by
  simp at h;subst h;exact⟨rfl,λi x R=>by simp at R⟩
 |x::l,r,h=>by
  rw[Cr]at h;cases J:f x with
  |none=>rw[J]at h;cases h
  |some y =>
   rw[J]at h;cases z:l.mapM f with
   |none=>rw[z]at h;cases h
   |some O =>
    rw[z]at h;cases h;obtain⟨X,M⟩:=k8 l O z;refine⟨by simp[X],λi u I=>?_⟩;cases i with
    |zero=>simp at I;subst I;exact⟨y,J,rfl⟩
    |succ i=>simpa using M i u (by simpa using I)
theorem rT {a:Addr}{n:Nat}{cs:List Value}(h:w.cells? base a n=some cs):base<=a.block/\cs.length=n/\∀ i u,cs[i]?=some u->w.cell? (a.add i)=some u:=by
 unfold World.cells? at h;split at h
 ·rename_i O;obtain⟨I,J⟩:=k8 _ _ h;refine⟨O,by simpa using I,λi u r=>?_⟩;have R:i<n:=by have:=(BQ.1 r).1;rw[I]at this;simpa using this
  obtain⟨y,M,z⟩:=J i i (by simp[R]);rw[r]at z;cases z;exact M
 ·cases h
theorem oI {g:Ty->TypeId->Bool}{rd:TypeId->List Value->Option (DataW H×List MemPlace)}
  (O:∀ b t,g b t=true->∀ cs d,rd t cs=some d->∃ x:b.den,Rd w (λk=>k<w.heap.size) b x cs/\Sm b x) :
  ∀ (fs:List Field) (off:Nat) (b:Ty),shF P g fs off b=true->∀ (cs:List Value),cs.length=off+b.cells ->
   (∀ f∈fs,∃ d,rd f.type ((cs.drop f.offset).take (P.cellsOf f.type))=some d)->∃ x:b.den,Rd w (λk=>k<w.heap.size) b x (cs.drop off)/\Sm b x
 |[],_,_,h=>by simp[shF]at h
 |[f],off,b,h=>by
  intro cs I M;simp only[shF,BI]at h;obtain⟨⟨z,u⟩,R⟩:=h;have z:=BN z;have u:=BN u;obtain⟨d,J⟩:=M f (BM ..);rw[z,u,List.take_of_length_le (by simp;omega)]at J;exact O b f.type R _ d J
 |f::r::fs,off,.pair b c,h=>by
  intro cs I M;simp only[shF,BI]at h;obtain⟨⟨⟨z,u⟩,R⟩,h4⟩:=h;have z:=BN z;have u:=BN u;have I:cs.length=off+(b.cells+c.cells):=I;obtain⟨d,J⟩:=M f (BM ..);rw[z,u]at J;obtain⟨x,hx,Y⟩:=O b f.type R _ d J;obtain⟨y,hy,Z⟩:=oI O (r::fs) (off+b.cells) c h4 cs (by omega) (λf0 X=>M f0 (BL _ X));refine⟨(x,y),⟨_,_,?_,hx,hy⟩,Y,Z⟩;rw[<- Cp,List.take_append_drop]
 |f::r::fs,off,.int _,h=>by simp[shF]at h
 |f::r::fs,off,.bool,h=>by simp[shF]at h
 |f::r::fs,off,.str,h=>by simp[shF]at h
 |f::r::fs,off,.unit,h=>by simp[shF]at h
 |f::r::fs,off,.list _ _ _,h=>by simp[shF]at h
 |f::r::fs,off,.hdr,h=>by simp[shF]at h
theorem oJ {β:Type}(Q:Nat->β->Prop):∀ (n:Nat),(∀ i,i<n->∃ x,Q i x)->∃ u:List β,u.length=n/\∀ i x,u[i]?=some x->Q i x
 |0,_=>⟨[],rfl,λi x h=>by simp at h⟩
 |n+1,h=>by
  obtain⟨u,I,J⟩:=oJ Q n (λi O=>h i (by omega));obtain⟨x,M⟩:=h n (by omega);refine⟨u++[x],by simp[I],λi y r=>?_⟩;by_cases O:i<n
  ·rw[CA (by omega)]at r;exact J i y r
  ·have z:i<(u++[x]).length:=(BQ.1 r).1;have:i=n:=by simp at z;omega
   subst this;rw[B8 (by omega),I,Nat.sub_self]at r;simp at r;subst r;exact M
theorem qW:∀ (n:Nat) (a:Ty) (t:TypeId),shT P n a t=true->∀ (I:Nat) (cs:List Value) (d:DataW H×List MemPlace),DataW.trod enc P w base spare held I t cs=some d ->
    ∃ x:a.den,Rd w (λk=>k<w.heap.size) a x cs/\Sm a x
  |0,_,_,h=>by simp[shT]at h
  |n+1,a,t,h=>by
    intro I cs d z;cases I with
    |zero=>simp[DataW.trod]at z
    |succ I =>
      cases a with
      |int k =>
        simp only[shT]at h;split at h
        · rename_i k' O
          have hk:=of_decide_eq_true h;subst hk;simp only[DataW.trod,O]at z;split at z <;> first|(rename_i M;cases M;done)|skip
          all_goals first
            | (rename_i k1 k2 m J
               cases J;split at z
               · rename_i hw
                 obtain⟨rfl,hw⟩:=hw;exact⟨m,rfl,hw⟩
               · cases z)
            |cases z
        · cases h
      |bool =>
        simp only[shT]at h;split at h
        · rename_i O
          simp only[DataW.trod,O]at z;split at z <;> first|(rename_i M;cases M;done)|skip
          all_goals first
            |(rename_i b J;exact⟨b,rfl,trivial⟩)
            |cases z
        · cases h
      |str =>
        simp only[shT]at h;split at h
        · rename_i O
          simp only[DataW.trod,O]at z;split at z <;> first|(rename_i M;cases M;done)|skip
          all_goals first
            | (rename_i b J
               split at z
               · rename_i hb
                 exact⟨b,rfl,hb⟩
               · cases z)
            |cases z
        · cases h
      |unit=>simp[shT]at h
      |hdr=>simp[shT]at h
      |pair b c =>
        simp only[shT]at h;split at h
        · rename_i fs O
          simp only[BI]at h;obtain⟨h1,Y⟩:=h;have Y:=BN Y;simp only[DataW.trod,O]at z;split at z
          · rename_i a4
            simp only[BO]at z;obtain⟨ys,b4,_⟩:=z;obtain⟨h3,h4⟩:=k8 _ _ b4;have:=oI (w:=w) (rd:=DataW.trod enc P w base spare held I) (λb t hb cs d z=>qW n b t hb I cs d z) fs.toList 0 (.pair b c) h1 cs (by rw[a4,Y,CQ];rfl) (λf hf=>by
              obtain⟨i,hi,e⟩:=Cx hf;obtain⟨y,h5,_⟩:=h4 i f (by rw[BX hi,e]);exact⟨y,h5⟩)
            simpa using this
          · cases z
        · cases h
      |list m E e =>
        simp only[shT]at h;split at h
        · rename_i E' O
          simp only[BI]at h;obtain⟨⟨⟨h1,Y⟩,h3⟩,h4⟩:=h;have h1:=BN h1;subst h1;have Y:=BN Y;have h3:0<e.cells:=by simpa[CS]using h3
          simp only[DataW.trod,O]at z;split at z <;> first|(rename_i M;cases M;done)|skip
          all_goals first
            |cases z;done
            |skip
          · exact⟨[],Rd.nil w _ m _ e,DB _,by simp⟩
          · rename_i E2 R a6 b0 J
            cases J;split at z
            · rename_i hc
              obtain⟨b3,bn,bb⟩:=hc;obtain⟨ba,a2,_⟩:=CE.1 z;obtain⟨h5,h6⟩:=k8 _ _ a2;have b2:∀ i,i<a6->∃ x:e.den,∃ c,w.cells? base (R.add (i*e.cells)) e.cells=some c/\Rd w (λk=>k<w.heap.size) e x c/\Sm e x:=by
                intro i hi;obtain⟨y,h7,_⟩:=h6 i i (by simp[hi]);obtain⟨c,h8,h9⟩:=CE.1 h7;rw[Y]at h8;obtain⟨x,hx,b9⟩:=qW n e _ h4 I c y h9;exact⟨x,c,h8,hx,b9⟩
              obtain⟨xs,b1,a0⟩:=oJ (λi (x:e.den)=>∃ c,w.cells? base (R.add (i*e.cells)) e.cells=some c/\Rd w (λk=>k<w.heap.size) e x c/\Sm e x) a6 b2;refine⟨xs,⟨some R,b0,by rw[b1],by omega,λhp=>?_⟩,by omega,λx hx=>?_⟩
              · have b5:0<xs.length:=hp
                obtain⟨c,Z,a5,_⟩:=a0 0 xs[0] (BX b5);obtain⟨_,bl,X⟩:=rT Z;have h0:0<c.length:=by omega
                have r:=X 0 c[0] (BX h0);have e0:(R.add (0*e.cells)).add 0=R:=by simp[Addr.add]
                rw[e0]at r;have a1:R.spot=none/\R.block<w.heap.size:=by
                  unfold World.cell? at r;split at r
                  · rename_i hh
                    split at r
                    · cases r
                    · rename_i hs
                      refine⟨by simpa using hs,(Cb.1 hh).1⟩
                  · cases r
                obtain⟨g,o,sp⟩:=R;obtain⟨a9,a3⟩:=a1;simp only at a9 a3;subst a9;refine⟨g,o,rfl,a3,λj x hj=>?_⟩;obtain⟨c,Z,a5,_⟩:=a0 j x hj;obtain⟨_,_,X⟩:=rT Z;refine⟨c,a5,λi u hi=>?_⟩;have:=X i u hi
                rwa [fb,fb]at this
              · obtain⟨j,hj,e1⟩:=Cx hx
                obtain⟨c,_,_,hs⟩:=a0 j x (by rw[BX hj,e1]);exact hs
            · cases z
        · cases h
end
section
variable {H:Type} {enc:TypeId×Value->H} {P:Program} {w:World}
theorem zC {n:Nat}{a:Ty}{t:TypeId}(r:shT P (n+1) a t=true){v:Value}{d:DataW H}{p:List MemPlace}(J:DataW.Trod enc P w 0 (λ_=>true) true t v d p){base:Nat}(u:DI P w .any base t v) :
  ∃ x:a.den,(∃ z,da a.isAgg v z/\Rd w (λk=>k<w.heap.size) a x z)/\Sm a x:=by
 obtain⟨I,J⟩:=J;obtain⟨x,X,M⟩:=qW (n+1) a t r I _ _ J;refine⟨x,⟨v.cells.toList,?_,X⟩,M⟩;cases a with
 |int k =>
  simp only[shT]at r;split at r
  ·rename_i Y y;obtain⟨n,rfl⟩:=okWide_int y u;rfl
  ·cases r
 |bool =>
  simp only[shT]at r;split at r
  ·rename_i y;obtain⟨n,rfl⟩:=okWide_bool y u;rfl
  ·cases r
 |str =>
  simp only[shT]at r;split at r
  ·rename_i y;obtain⟨n,rfl⟩:=okWide_string y u;rfl
  ·cases r
 |list m E e =>
  simp only[shT]at r;split at r
  ·rename_i E' y;obtain⟨A,O,R,rfl⟩:=okWide_slice y u;rfl
  ·cases r
 |unit=>simp[shT]at r
 |hdr=>simp[shT]at r
 |pair b c =>
  simp only[shT]at r;split at r
  ·rename_i Z y;obtain⟨z,rfl,_⟩:=okWide_struct y u;show Value.agg z=.agg (Value.agg z).cells.toList.toArray;simp[Value.cells]
  ·cases r
def Sms:(as:List Ty)->ab (as.map .rd)->Prop
 |[],_=>True
 |a::as,x=>Sm a x.1/\Sms as x.2
def ub (P:Program):List Ty->List TypeId->Bool
 |[],[]=>true
 |a::as,t::r=>shT P 64 a t&&ub P as r
 |_,_=>false
theorem rU {pr:Nat->Prop}:∀ (as:List Ty) (z:List TypeId) (u:List Value) (ds:List (DataW H)) (ps:List MemPlace),ub P as z=true->DataW.TrodAll enc P w 0 (λ_=>true) true z u ds ps ->
  (∃ r,∀ (j:Nat) (t:TypeId) (v:Value),z[j]?=some t->u[j]?=some v->DI P w .any r t v)->∃ x:ab (as.map .rd),c8 P w (λk=>k<w.heap.size) pr (as.map .rd) x u (as.map λ_=>[])/\Sms as x
 |[],[],[],[],_,_,_,_=>⟨(),⟨rfl,rfl⟩,trivial⟩
 |[],[],[],_::_,_,_,h,_=>h.elim
 |[],[],_::_,_,_,_,h,_=>h.elim
 |[],_::_,_,_,_,h,_,_=>by simp[ub]at h
 |_::_,[],_,_,_,h,_,_=>by simp[ub]at h
 |_::_,_::_,[],_,_,_,h,_=>h.elim
 |_::_,_::_,_::_,[],_,_,h,_=>h.elim
 |a::as,t::z,v::u,d::ds,ps,J,⟨p,q,h1,h2,_⟩,⟨r,I⟩=>by
  simp only[ub,BI]at J;obtain⟨x,hx,M⟩:=zC (n:=63) J.1 h1 (I 0 t v rfl rfl);obtain⟨y,Z,O⟩:=rU as z u ds q J.2 h2 ⟨r,λj Y v' R X=>I (j+1) Y v' (by simpa using R) (by simpa using X)⟩;exact⟨(x,y),⟨v,u,[],_,rfl,rfl,⟨rfl,hx⟩,Z⟩,M,O⟩
theorem zD (tys:List Ty):(tys.map λ_=>([]:List Nat)).flatten=[]:=by
 induction tys with
 |nil=>rfl
 |cons a tys r=>simp
theorem ym {f:FuncId}{tys:List Ty}{y:Bool}{O:ab (tys.map PK.rd)->Option (ai [.v .bool]×ah (tys.map PK.rd))}(hs:bO P ⟨f,tys.map .rd,[.v .bool],y,O⟩){x:ab (tys.map .rd)}{Z:List Value}{o:ah (tys.map .rd)}
  (hx:c8 P w (λk=>k<w.heap.size) (λk=>k<w.heap.size) (tys.map .rd) x Z (tys.map λ_=>[])) (hd:O x=some ((true,()),o)):Calls P f Z.toArray w (λe w'=>e=.returned (.bool true)/\Below w.heap.size w w'):=by
 have R:=zD tys;have:=hs.2 w (λk=>k<w.heap.size) x Z _ _ (hx.mono (λ_ h=>h) (λk I=>⟨I,by rw[R];simp⟩)) (λk I=>⟨I,by rw[R];simp⟩) (by rw[R];exact Cd) hd;refine this.mono λe w' hp=>?_
 obtain⟨v,us,N,a5,a4,rfl,r,a1,X,Y,a2,a0,_,_,J,_,_⟩:=hp;refine⟨?_,⟨X,Y,a2,a1,λk I=>a0 k I (by rw[R];simp)⟩⟩;obtain⟨u,a6,b,a3,e1,e2,⟨cs,z,M⟩,e3,e4⟩:=J;subst e3;subst e1;have r:v=u:=r;subst r;have z:cs=[v]:=z;have M:cs=[.bool true]:=M.1;rw[z]at M;simp only[Cm,and_true]at M;rw[M]
end
end Go.Proofs.YtaegajachoklkaaGreatEv
