/- One operation looks at some slots alone. -/
import Derived.Test.YtaegajachoklkabGreatE3
import Derived.Laws.StructEq
import Derived.Lib.SliceRun
import Derived.ProofKit
set_option linter.unusedVariables false
set_option linter.unusedSimpArgs false
open Array renaming getElem?_eq_getElem->BS,getD_eq_getD_getElem?->BT,replicate->CI,all_eq_true_iff_forall_mem->CT,getElem?_eq_some_iff->Cb,getElem?_append_left->Cc,getElem?_replicate->Ci,mem_of_getElem?->Co,length_toList->Cu,mem_append->C8
open Bool renaming and_eq_true->BI,not_eq_true'->CK,or_eq_true->CW,false_eq_true->CZ,and_false->Ca,and_true->Ch,true_and->Cy,not_false->DG
open Classical renaming byContradiction->CB
open Go.ByteArray renaming toList_eq->Cw
open Go.Result renaming andThen_ok->CO
open Go.Sem renaming run_bind->CU,run_pure->C5
open Go.Value renaming okWide->DI
open List renaming mem_append->BH,mem_append_left->BJ,mem_append_right->BK,mem_cons_of_mem->BL,mem_cons_self->BM,getElem?_eq_some_iff->BQ,mem_map->BR,mem_cons->BU,getD_eq_getElem?_getD->BV,flatten_cons->BW,getElem?_eq_getElem->BX,mem_flatMap->BZ,count_append->B3,mem_singleton_self->B4,count_pos_iff->B5,all_eq_true->B6,map_cons->B7,getElem?_append_right->B8,getElem?_append_left->CA,append_assoc->CD,nil_append->CF,mem_singleton->CG,nodup_cons->CH,length_cons->CM,nodup_append->CN,mem_filter->CR,any_eq_true->CV,map_append->CX,count_cons->CY,nodup_nil->Cd,count_eq_zero->Ce,any_eq_false->Cf,all_cons->Cg,getElem?_cons_succ->Ck,getElem?_eq_none->Cn,drop_drop->Cp,mapM_cons->Cr,map_congr_left->Ct,countP_eq_zero->Cv,getElem_of_mem->Cx,set_cons_succ->Cz,find?_eq_none->C3,getElem?_map->C4,size_toArray->C6,mem_toArray->C7,countP_cons->C9,foldl_cons->DD,range->DF,map_nil->DH
open List.cons renaming injEq->Cm
open Nat renaming eq_of_beq_eq_true->BN,beq->BP,le_of_ble_eq_true->CC,lt_succ_self->CP,zero_add->CQ,blt_eq->CS,blt->Cl,le_refl->Cq,ble->Cs,lt_of_lt_of_le->C0,zero_le->DB,strongRecOn->DE
open Option renaming map_eq_some_iff->BO,map_some->B9,bind_eq_some_iff->CE,bind_assoc->CJ,bind_some->CL,bind_none->Cj,getD_some->DA
open Option.some renaming injEq->BG,inj->DC
open Prod.mk renaming injEq->BY
namespace Go.Proofs.YtaegajachoklkabGreatEv
open Go Go.RowKit
section
variable {P:Program} {V:Env} {Γ:List Ctr} {T:TypeId->TI} {st st':St} {o:Oper} {R:Type} {κ:Upd->Option R} {r:R}
theorem gB {α β:Type}(b:Bool)(x y:Option α)(f:α->Option β):(bif b then x else y).bind f=bif b then x.bind f else y.bind f:=by cases b <;> rfl
theorem wz {b:Option (Bool×Nat×Nat)}{U:Upd}:jZ st b U κ=(jZ st b U some).bind κ:=by
 unfold jZ;split
 ·split
  ·simp only[CJ];congr 1;funext y;split <;> rfl
  ·rfl
 ·rfl
theorem wA {d:Nat}{f:FuncId}{xs:List (aI×List Leaf)}:js Γ st d f xs κ=(js Γ st d f xs some).bind κ:=by
 unfold js;cases lT Γ f with
 |none=>rfl
 |some c =>
  simp only[gA,CJ];congr 1;funext u;cases oJ Γ (ac u.1 st) c.ps u.2.1 with
  |none=>rfl
  |some g =>
   simp only[gB,CJ,Cj];congr 2;funext y;exact wz
theorem mE {z:St}{H:Upd}{d:Nat}{E:TypeId}{e:Ty}{u:Nat}{p:Bool}{xs:List e.den}{ks:List (Nat×Nat)}{y:Leaf}:dP st z H d E e u p xs ks y κ=(dP st z H d E e u p xs ks y some).bind κ:=by
 unfold dP;split
 ·simp only[gB,Cj,CL]
 ·rfl
theorem tI {z:Upd}{d:Nat}{E:TypeId}{e:Ty}{u:Nat}{x y:Leaf}:el st z d E e u x y κ=(el st z d E e u x y some).bind κ:=by
 unfold el;split
 ·split
  ·rw[gB,<- mE];rfl
  ·rfl
 ·exact mE
 ·rfl
theorem tJ {d:Nat}{E:TypeId}{e:Ty}{u:Nat}{x y:Leaf}:iw st d E e u x y κ=(iw st d E e u x y some).bind κ:=by
 unfold iw;simp only[hH,gB,CJ,<- tI]
theorem nr {r j i off n:Nat}{p:Bool}{E:TypeId}{e:Ty}{xs:List e.den}{h:Option (Nat×Nat)}{ls:List Leaf}:gG st r j i off n p E e xs h ls κ=(gG st r j i off n p E e xs h ls some).bind κ:=by
 unfold gG;simp only[CJ];congr 1;funext u;split
 ·rw[gB];congr 1;split
  ·rfl
  ·simp only[gB,CL]
 ·rfl
theorem tK:act Γ T o st κ=(act Γ T o st some).bind κ:=by
 cases u:o.op <;> simp only[act,wrU,u] <;> (repeat' split) <;>
  (try simp only[gB,CJ,Cj,CL]) <;> (try rfl) <;> (try exact wA) <;> (try (rw[tJ];done)) <;> (try (rw[nr];done)) <;> (try (rw[<- nr];done))
theorem bm {q:Nat}(h:st' q=st q):∀ (U:Upd),ac U st' q=ac U st q
 |[]=>h
 |(r,c)::U=>by simp only[ac,bm h U]
theorem dO {x:Operand}(h:∀ t,x=.tmp t->st' t=st t):au st' x=au st x:=by
 cases x with
 |tmp t=>simp only[au,h t rfl]
 |_=>rfl
theorem dz {x:Operand}(h:∀ t,x=.tmp t->st' t=st t):one st' x=one st x:=by
 unfold one;rw[dO h]
theorem lp:∀ (y u:List Leaf),aw (y++u)=aw y++aw u
 |[],_=>rfl
 |l::y,u=>by cases l <;> simp[aw,lp y u]
theorem aL (l:Leaf)(ls:List Leaf):aw (l::ls)=aw [l]++aw ls:=lp [l] ls
theorem fG:∀ (n:Nat) (ls:List Leaf) (q:Nat),q∈aw (ls.drop n)->q∈aw ls
 |0,_,_,h=>h
 |n+1,[],_,h=>h
 |n+1,l::ls,q,h=>by rw[aL];exact BK _ (fG n ls q h)
theorem rF:∀ (n:Nat) (ls:List Leaf) (q:Nat),q∈aw (ls.take n)->q∈aw ls
 |0,_,_,h=>by simp[aw]at h
 |n+1,[],_,h=>by simp[aw]at h
 |n+1,l::ls,q,h=>by
  rw[List.take_succ_cons,aL,BH]at h;rw[aL,BH];exact h.imp id (rF n ls q)
theorem qM:∀ {ls:List Leaf} {k:Nat} {l:Leaf},ls[k]?=some l->∀ q∈aw [l],q∈aw ls
 |[],_,_,h,_,_=>by simp at h
 |y::ls,0,l,h,q,u=>by simp at h;subst h;rw[aL];exact BJ _ u
 |y::ls,k+1,l,h,q,u=>by rw[aL];exact BK _ (qM (by simpa using h) q u)
theorem jN {ks:List (Nat×Nat×Nat)}{ep:Nat}(h:∀ q∈EPO::ks.map (·.1),st' q=st q):bq st' ks ep=bq st ks ep:=by
 unfold bq;rw[h EPO (BM ..)];congr 1;induction ks with
 |nil=>rfl
 |cons k ks y =>
  rw[Cg,Cg,y (λq u=>h q (by simp at u ⊢;rcases u with u|u;exact .inl u;exact .inr (.inr u))),h k.1 (by simp)]
theorem is {p:Bool}{ks:List (Nat×Nat×Nat)}{ep:Nat}{u:Option (Nat×Nat×Nat)}{E:TypeId}{e:Ty}{xs:List e.den}:aw [.nal p ks ep u E e xs]=EPO::ks.map (·.1):=by simp[aw]
theorem vo {p:Bool}{ks:List (Nat×Nat×Nat)}{ep:Nat}{a:Ty}{x:a.den}{off:Nat}:aw [.np p ks ep a x off]=EPO::ks.map (·.1):=by simp[aw]
theorem ci {l:Leaf}(h:∀ q∈aw [l],st' q=st q):aC st' l=aC st l:=by
 cases l with
 |al r j v=>simp only[aC,h r (by simp[aw])]
 |nal p y ep u E e z=>rw[is]at h;simp only[aC,jN h]
 |_=>rfl
theorem jX:∀ (a:Ty) (ls:List Leaf) (p:Bool) (x:a.den) (u:List Leaf),a7 st a ls=some (p,x,u)->∃ I,ls=I++u
 |.int k,ls,p,x,u,h=>by
  simp only[a7]at h;split at h
  ·split at h
   ·simp at h;exact⟨[_],by rw[<- h.2.2];rfl⟩
   ·cases h
  ·cases h
 |.bool,ls,p,x,u,h=>by
  simp only[a7]at h;split at h
  ·simp at h;exact⟨[_],by rw[<- h.2.2];rfl⟩
  ·cases h
 |.str,ls,p,x,u,h=>by
  simp only[a7]at h;split at h
  ·simp at h;exact⟨[_],by rw[<- h.2.2];rfl⟩
  ·cases h
 |.unit,ls,p,x,u,h=>by
  simp only[a7,BG,BY]at h;exact⟨[],by rw[h.2.2];rfl⟩
 |.hdr,ls,p,x,u,h=>by
  simp only[a7]at h;split at h
  ·split at h
   ·simp at h;exact⟨[_],by rw[<- h.2.2];rfl⟩
   ·cases h
  ·cases h
 |.pair a b,ls,p,x,u,h=>by
  simp only[a7]at h;split at h
  ·rename_i q y H M;split at h
   ·rename_i X z J O;simp at h;obtain⟨I,e1⟩:=jX a ls q y H M;obtain⟨Y,Z⟩:=jX b H X z J O;exact⟨I++Y,by rw[e1,Z,h.2.2,CD]⟩
   ·cases h
  ·cases h
 |.list m E e,ls,p,x,u,h=>by
  simp only[a7]at h;split at h
  ·split at h
   ·simp at h;exact⟨[_],by rw[<- h.2.2];rfl⟩
   ·cases h
  ·cases h
theorem gC:∀ (a:Ty) (ls:List Leaf),(∀ q∈aw ls,st' q=st q)->a7 st' a ls=a7 st a ls
 |.int k,ls,h=>rfl
 |.bool,ls,h=>rfl
 |.str,ls,h=>rfl
 |.unit,ls,h=>rfl
 |.hdr,ls,h=>by
  cases ls with
  |nil=>rfl
  |cons l ls =>
   simp only[a7];rw[ci (l:=l) (λq z=>h q (by rw[aL];exact BJ _ z))]
 |.pair a b,ls,h=>by
  simp only[a7,gC a ls h];cases I:a7 st a ls with
  |none=>rfl
  |some x =>
   obtain⟨p,y,u⟩:=x;obtain⟨J,H⟩:=jX a ls p y u I;simp only;rw[gC b u (λq z=>h q (by rw[H,lp];exact BK _ z))]
 |.list m E e,ls,h=>by
  cases ls with
  |nil=>rfl
  |cons l ls =>
   simp only[a7];rw[ci (l:=l) (λq z=>h q (by rw[aL];exact BJ _ z))]
theorem eL {a:Ty}{ls:List Leaf}(h:∀ q∈aw ls,st' q=st q):cN st' a ls=cN st a ls:=by
 unfold cN;rw[gC a ls h]
theorem nu {e:Ty}:∀ (n:Nat) (ls:List Leaf),(∀ q∈aw ls,st' q=st q)->fF st' e n ls=fF st e n ls
 |0,_,_=>rfl
 |n+1,ls,h=>by
  simp only[fF,eL (ls:=ls.take e.cells) (λq u=>h q (rF _ _ q u)),nu n (ls.drop e.cells) (λq u=>h q (fG _ _ q u))]
theorem jm:∀ {ls:List Leaf},(∀ q∈aw ls,st' q=st q)->bw st' ls=bw st ls
 |[],_=>rfl
 |l::ls,h=>by
  have z:=jm (ls:=ls) (λq u=>h q (by rw[aL];exact BK _ u));cases l with
  |al r j v=>simp only[bw,z,ci (l:=.al r j v) (λq u=>h q (by rw[aL];exact BJ _ u))]
  |nal p H ep y E e I=>simp only[bw,z,ci (l:=.nal p H ep y E e I) (λq u=>h q (by rw[aL];exact BJ _ u))]
  |_=>simpa[bw]using z
theorem pb:∀ {ls:List Leaf},(∀ q∈aw ls,st' q=st q)->bZ st' ls=bZ st ls
 |[],_=>rfl
 |l::ls,h=>by
  have y:=pb (ls:=ls) (λq u=>h q (by rw[aL];exact BK _ u));cases l with
  |al r j v=>simp only[bZ,y,ci (l:=.al r j v) (λq u=>h q (by rw[aL];exact BJ _ u))]
  |_=>simpa[bZ]using y
theorem qN:∀ {ls:List Leaf},(∀ q∈aw ls,st' q=st q)->dr st' ls=dr st ls
 |[],_=>rfl
 |l::ls,h=>by
  have u:=qN (ls:=ls) (λq y=>h q (by rw[aL];exact BK _ y));cases l with
  |nal p H ep z E e I =>
   cases z with
   |none=>simp only[dr,u,ci (l:=.nal p H ep none E e I) (λq y=>h q (by rw[aL];exact BJ _ y))]
   |some x=>simpa[dr]using u
  |_=>simpa[dr]using u
theorem pc {ls:List Leaf}(h:∀ q∈aw ls,st' q=st q):dD st' ls=dD st ls:=by
 unfold dD;induction ls with
 |nil=>rfl
 |cons l ls y =>
  rw[B7,B7,y (λq u=>h q (by rw[aL];exact BK _ u))];unfold gi;rw[ci (λq u=>h q (by rw[aL];exact BJ _ u))]
theorem ez:∀ {ls:List Leaf} {x:Nat×Nat},x∈bw st ls->x.1∈aw ls
 |[],_,h=>by simp[bw]at h
 |l::ls,x,h=>by
  cases l with
  |al r j v =>
   simp only[bw,BH]at h;rcases h with h|h
   ·split at h
    ·simp at h;subst h;simp[aw]
    ·simp at h
   ·rw[aL];exact BK _ (ez h)
  |nal p z ep y E e H =>
   simp only[bw,BH]at h;rcases h with h|h
   ·split at h
    ·obtain⟨k,u,rfl⟩:=BR.1 h;rw[aL,is];exact BJ _ (BL _ (BR.2 ⟨k,u,rfl⟩))
    ·simp at h
   ·rw[aL];exact BK _ (ez h)
  |_=>(simp only[bw]at h;rw[aL];exact BK _ (ez h))
theorem jn:∀ {ls:List Leaf} {x:Nat×Nat},x∈bZ st ls->x.1∈aw ls
 |[],_,h=>by simp[bZ]at h
 |l::ls,x,h=>by
  cases l with
  |al r j v =>
   simp only[bZ,BH]at h;rcases h with h|h
   ·split at h
    ·simp at h;subst h;simp[aw]
    ·simp at h
   ·rw[aL];exact BK _ (jn h)
  |_=>(simp only[bZ]at h;rw[aL];exact BK _ (jn h))
theorem ia:∀ {ls:List Leaf} {x:Nat×Nat},x∈dr st ls->x.1∈aw ls
 |[],_,h=>by simp[dr]at h
 |l::ls,x,h=>by
  cases l with
  |nal p H ep u E e I =>
   cases u with
   |none =>
    simp only[dr,BH]at h;rcases h with h|h
    ·split at h
     ·obtain⟨k,z,rfl⟩:=BR.1 h;rw[aL,is];exact BJ _ (BL _ (BR.2 ⟨k,z,rfl⟩))
     ·simp at h
    ·rw[aL];exact BK _ (ia h)
   |some y=>(simp only[dr]at h;rw[aL];exact BK _ (ia h))
  |_=>(simp only[dr]at h;rw[aL];exact BK _ (ia h))
theorem it:∀ {ks:List (Nat×Nat)},(∀ x∈ks,st' x.1=st x.1)->aN st' ks=aN st ks
 |[],_=>rfl
 |(r,j)::ks,h=>by
  simp only[aN,it (ks:=ks) (λx u=>h x (BL _ u)),bm (h (r,j) (BM ..))]
theorem kn:∀ {ks:List (Nat×Nat)},(∀ x∈ks,st' x.1=st x.1)->aE st' ks=aE st ks
 |[],_=>rfl
 |(r,j)::ks,h=>by
  simp only[aE,kn (ks:=ks) (λx u=>h x (BL _ u)),bm (h (r,j) (BM ..))]
theorem tL {ls:List Leaf}(h:∀ q∈aw ls,st' q=st q):mvU st' ls=mvU st ls:=by
 unfold mvU;rw[qN h,pb h,kn (λx u=>h _ (ia u))];simp only;rw[it (λx u=>bm (h _ (jn u)) _)]
theorem qO {ls:List Leaf}(h:∀ q∈aw ls,st' q=st q):ib st' ls=ib st ls:=by
 unfold ib;rw[qN h,pb h]
theorem jo:∀ (a:Ty) (ls:List Leaf),(∀ q∈aw ls,st' q=st q)->take st' a ls=take st a ls
 |.int k,ls,h=>by simp only[take,gC (.int k) ls h]
 |.bool,ls,h=>by simp only[take,gC .bool ls h]
 |.str,ls,h=>by simp only[take,gC .str ls h]
 |.unit,ls,h=>rfl
 |.hdr,ls,h=>by simp only[take,gC .hdr ls h]
 |.pair a b,ls,h=>by
  simp only[take,jo a ls h];cases H:take st a ls with
  |none=>rfl
  |some x =>
   have z:=km.take_rest a ls x H;simp only;rw[jo b x.rest (λq y=>h q (fG a.cells ls q (by rw[<- z];exact y)))]
 |.list m E e,ls,h=>by
  cases ls with
  |nil=>rfl
  |cons l ls =>
   have u:∀ q∈aw [l],st' q=st q:=λq y=>h q (by rw[aL];exact BJ _ y)
   simp only[take,ci u,jm u];congr 1;split
   ·rename_i r j v;rw[ci u]
   ·rfl
   ·rfl
theorem gS {a:Ty}{ls:List Leaf}(h:∀ q∈aw ls,st' q=st q):cg st' a ls=cg st a ls:=by
 unfold cg;rw[jo a ls h]
theorem nW:∀ (a:Ty) (ls:List Leaf) (t:cH a.den),take st a ls=some t->(∀ z∈t.frz,z.1∈aw ls)/\∀ z∈t.kill,z.1∈aw ls
 |.int k,ls,t,h=>by simp only[take,BO]at h;obtain⟨_,_,rfl⟩:=h;exact⟨by simp,by simp⟩
 |.bool,ls,t,h=>by simp only[take,BO]at h;obtain⟨_,_,rfl⟩:=h;exact⟨by simp,by simp⟩
 |.str,ls,t,h=>by simp only[take,BO]at h;obtain⟨_,_,rfl⟩:=h;exact⟨by simp,by simp⟩
 |.hdr,ls,t,h=>by simp only[take,BO]at h;obtain⟨_,_,rfl⟩:=h;exact⟨by simp,by simp⟩
 |.unit,ls,t,h=>by simp only[take,BG]at h;subst h;exact⟨by simp,by simp⟩
 |.pair a b,ls,t,h=>by
  simp only[take]at h;split at h
  ·rename_i x J;split at h
   ·rename_i y Z;simp only[BG]at h;subst h;have hr:=km.take_rest a ls x J;obtain⟨O,X⟩:=nW a ls x J;obtain⟨I,M⟩:=nW b x.rest y Z;rw[hr]at I M;exact⟨λz u=>(BH.1 u).elim (O z) (λu=>fG _ _ _ (I z u)),λz u=>(BH.1 u).elim (X z) (λu=>fG _ _ _ (M z u))⟩
   ·cases h
  ·cases h
 |.list m E e,ls,t,h=>by
  cases ls with
  |nil=>simp[take]at h
  |cons l ls =>
   have H:∀ q∈aw [l],q∈aw (l::ls):=λq Y=>by rw[aL];exact BJ _ Y
   cases m with
   |false =>
    simp only[take,cond_false]at h;split at h
    ·simp only[BG]at h;subst h;exact⟨λz u=>H _ (ez u),by simp⟩
    ·cases h
   |true =>
    simp only[take,cond_true]at h;split at h
    ·split at h
     ·simp only[BO]at h;obtain⟨_,_,rfl⟩:=h;exact⟨by simp,λz u=>by simp at u;subst u;exact H _ (by simp[aw])⟩
     ·cases h
    ·simp only[BG]at h;subst h;exact⟨by simp,by simp⟩
    ·cases h
theorem i8 {a:Ty}{ls:List Leaf}{t:cH a.den}(h:cg st a ls=some t):(∀ z∈t.frz,z.1∈aw ls)/\∀ z∈t.kill,z.1∈aw ls:=by
 unfold cg at h;split at h
 ·rename_i p x f k u;simp only[BG]at h;subst h;exact nW a ls _ u
 ·cases h
theorem kg:∀ {off n:Nat} (a:Ty) (pos:Nat) (x:a.den) (ls:List Leaf) (t:cH a.den),c9 st off n a pos x ls=some t->∃ k,t.rest=ls.drop k
 |off,n,.pair a b,pos,x,ls,t,h=>by
  simp only[c9]at h;split at h
  ·rename_i u M;split at h
   ·rename_i v z;simp only[BG]at h;subst h;obtain⟨y,J⟩:=kg a pos x.1 ls u M;obtain⟨H,I⟩:=kg b (pos+a.cells) x.2 u.rest v z;exact⟨y+H,by show v.rest=_;rw[I,J,Cp]⟩
   ·cases h
  ·cases h
 |off,n,.unit,pos,x,ls,t,h=>by simp only[c9,BG]at h;subst h;exact⟨0,rfl⟩
 |off,n,.hdr,pos,x,ls,t,h=>by simp[c9]at h
 |off,n,.int k,pos,x,ls,t,h=>sc (a:=.int k) h
 |off,n,.bool,pos,x,ls,t,h=>sc (a:=.bool) h
 |off,n,.str,pos,x,ls,t,h=>sc (a:=.str) h
 |off,n,.list m E e,pos,x,ls,t,h=>sc (a:=.list m E e) h
where
 sc {a:Ty} {b:Bool} {x:a.den} {ls:List Leaf} {t:cH a.den} (h:(bif b then take st a ls else some ⟨false,x,[],[],ls⟩)=some t):∃ k,t.rest=ls.drop k:=by
  cases b with
  |true=>exact⟨_,km.take_rest a ls t h⟩
  |false=>simp only[cond_false,BG]at h;subst h;exact⟨0,rfl⟩
theorem pd:∀ {off n:Nat} (a:Ty) (pos:Nat) (x:a.den) (ls:List Leaf),(∀ q∈aw ls,st' q=st q)->c9 st' off n a pos x ls=c9 st off n a pos x ls
 |off,n,.pair a b,pos,x,ls,h=>by
  simp only[c9,pd a pos x.1 ls h];cases z:c9 st off n a pos x.1 ls with
  |none=>rfl
  |some u =>
   obtain⟨k,e⟩:=kg a pos x.1 ls u z;simp only;rw[pd b (pos+a.cells) x.2 u.rest (λq y=>h q (fG k ls q (by rw[<- e];exact y)))]
 |off,n,.unit,pos,x,ls,h=>rfl
 |off,n,.hdr,pos,x,ls,h=>rfl
 |off,n,.int k,pos,x,ls,h=>by simp only[c9,jo (.int k) ls h]
 |off,n,.bool,pos,x,ls,h=>by simp only[c9,jo .bool ls h]
 |off,n,.str,pos,x,ls,h=>by simp only[c9,jo .str ls h]
 |off,n,.list m E e,pos,x,ls,h=>by simp only[c9,jo (.list m E e) ls h]
theorem pe:∀ {off n:Nat} (a:Ty) (pos:Nat) (x:a.den) (ls:List Leaf) (t:cH a.den),c9 st off n a pos x ls=some t->(∀ z∈t.frz,z.1∈aw ls)/\∀ z∈t.kill,z.1∈aw ls
 |off,n,.pair a b,pos,x,ls,t,h=>by
  simp only[c9]at h;split at h
  ·rename_i u J;split at h
   ·rename_i v O;simp only[BG]at h;subst h;obtain⟨k,e⟩:=kg a pos x.1 ls u J;obtain⟨M,X⟩:=pe a pos x.1 ls u J;obtain⟨H,I⟩:=pe b (pos+a.cells) x.2 u.rest v O;rw[e]at H I;exact⟨λz y=>(BH.1 y).elim (M z) (λy=>fG _ _ _ (H z y)),λz y=>(BH.1 y).elim (X z) (λy=>fG _ _ _ (I z y))⟩
   ·cases h
  ·cases h
 |off,n,.unit,pos,x,ls,t,h=>by simp only[c9,BG]at h;subst h;exact⟨by simp,by simp⟩
 |off,n,.hdr,pos,x,ls,t,h=>by simp[c9]at h
 |off,n,.int k,pos,x,ls,t,h=>sc (a:=.int k) h
 |off,n,.bool,pos,x,ls,t,h=>sc (a:=.bool) h
 |off,n,.str,pos,x,ls,t,h=>sc (a:=.str) h
 |off,n,.list m E e,pos,x,ls,t,h=>sc (a:=.list m E e) h
where
 sc {a:Ty} {b:Bool} {x:a.den} {ls:List Leaf} {t:cH a.den} (h:(bif b then take st a ls else some ⟨false,x,[],[],ls⟩)=some t):(∀ z∈t.frz,z.1∈aw ls)/\∀ z∈t.kill,z.1∈aw ls:=by
  cases b with
  |true=>exact nW a ls t h
  |false=>simp only[cond_false,BG]at h;subst h;exact⟨by simp,by simp⟩
theorem vp {U:Upd}{d:Nat}{sh:aI}{ls:List Leaf}(h:st' d=st d):cf st' U d sh ls=cf st U d sh ls:=by
 simp only[cf,bm h]
theorem rG:∀ {xs:List Operand} {t:Nat},Operand.tmp t∈xs->t∈iy xs
 |[],_,h=>by simp at h
 |x::xs,t,h=>by
  rcases BU.1 h with rfl|h
  ·simp[iy]
  ·have u:=rG h;cases x <;> simp[iy,u]
theorem nv (t n:Nat):∀ (j:Nat) (ls:List Leaf) (q:Nat),q∈aw (bE t n j ls)->q=t\/q∈aw ls
 |_,[],_,h=>by simp[bE,aw]at h
 |j,l::ls,q,h=>by
  simp only[bE]at h;rw[aL,BH]at h;rw[aL,BH];rcases h with h|h
  ·cases l with
   |own p u E e y=>simp[lQ,aw]at h;exact .inl h
   |_=>exact .inr (.inl h)
  ·exact (nv t n (j+1) ls q h).imp id .inr
theorem lq:∀ (y u:List Leaf),ay (y++u)=ay y++ay u
 |[],_=>rfl
 |l::y,u=>by cases l <;> simp[ay,lq y u]
theorem dp (l:Leaf)(ls:List Leaf):ay (l::ls)=ay [l]++ay ls:=lq [l] ls
theorem fH:∀ {ls:List Leaf} {q:Nat},q∈aw ls->q∈ay ls
 |[],_,h=>by simp[aw]at h
 |l::ls,q,h=>by
  rw[aL,BH]at h;rw[dp,BH];rcases h with h|h
  ·left;cases l with
   |nal p y ep u E e z=>simp[aw]at h;simpa[ay]using h
   |np p y ep a x off=>simp[aw]at h;simpa[ay]using h
   |_=>simp[aw]at h <;> simp[ay,h]
  ·exact .inr (fH h)
theorem ny (t n:Nat):∀ (j:Nat) (ls:List Leaf) (q:Nat),q∈ay (bE t n j ls)->q=t\/q∈ay ls
 |_,[],_,h=>by simp[bE,ay]at h
 |j,l::ls,q,h=>by
  simp only[bE]at h;rw[dp,BH]at h;rw[dp,BH];rcases h with h|h
  ·cases l with
   |own p u E e y=>simp[lQ,ay]at h;exact .inl h
   |_=>exact .inr (.inl h)
  ·exact (ny t n (j+1) ls q h).imp id .inr
theorem rH {x:Operand}{q:Nat}(h:q∈aw (au st x).2):∃ t,x=.tmp t/\(q=t\/q∈aw (st t).ls):=by
 cases x with
 |tmp t =>
  simp only[au]at h;cases y:Cl t GH with
  |false=>simp[y,aw]at h
  |true=>simp only[y,cond_true]at h;exact⟨t,rfl,nv _ _ _ _ _ h⟩
 |const v =>
  simp only[au]at h;split at h
  ·rename_i l u;unfold iu at u;split at u <;> simp at u <;> subst u <;> simp[aw]at h
  ·simp[aw]at h
 |func f=>simp[au,aw]at h
 |global g=>simp[au,aw]at h
theorem rI {x:Operand}{q:Nat}(h:q∈ay (au st x).2):∃ t,x=.tmp t/\(q=t\/q∈ay (st t).ls):=by
 cases x with
 |tmp t =>
  simp only[au]at h;cases y:Cl t GH with
  |false=>simp[y,ay]at h
  |true=>simp only[y,cond_true]at h;exact⟨t,rfl,ny _ _ _ _ _ h⟩
 |const v =>
  simp only[au]at h;split at h
  ·rename_i l u;unfold iu at u;split at u <;> simp at u <;> subst u <;> simp[ay]at h
  ·simp[ay]at h
 |func f=>simp[au,ay]at h
 |global g=>simp[au,ay]at h
theorem qP {x:Operand}{l:Leaf}(h:one st x=l)(u:l≠.dead):(au st x).2=[l]:=by
 unfold one at h;split at h
 ·rename_i z y;rw[y,h]
 ·exact absurd h.symm u
theorem jp {x:Operand}{q:Nat}(h:q∈aw [one st x]):q∈aw (au st x).2:=by
 by_cases u:one st x=.dead
 ·rw[u]at h;simp[aw]at h
 ·rw[qP rfl u];exact h
theorem tM {x:Operand}{q:Nat}(h:q∈ay [one st x]):q∈ay (au st x).2:=by
 by_cases u:one st x=.dead
 ·rw[u]at h;simp[ay]at h
 ·rw[qP rfl u];exact h
def jy:Leaf->Bool×Leaf
 |.own _ _ _ e u=>(true,.ep 0 0 0 e.cells u.length 0)
 |l=>(false,l)
def bI (c:bP):Nat×aI×List (Bool×Leaf):=(c.ver,c.sh,c.ls.map jy)
theorem tN {l l':Leaf}(h:jy l'=jy l):l'=l\/∃ (p p':Bool) (z y:Option (Nat×Nat)) (E E':TypeId) (e e':Ty) (xs:List e.den) (u:List e'.den),l=.own p z E e xs/\l'=.own p' y E' e' u/\e'.cells=e.cells/\u.length=xs.length:=by
 cases l <;> cases l' <;> simp only[jy,BY,CZ,reduceCtorEq,false_and,and_false,true_and,Leaf.ep.injEq,Bool.true_eq_false]at h <;>
  first
  |exact .inr ⟨_,_,_,_,_,_,_,_,_,_,rfl,rfl,h.1,h.2.1⟩
  |exact .inr ⟨_,_,_,_,_,_,_,_,_,_,rfl,rfl,h.1,h.2⟩
  |exact .inl rfl
  |exact .inl (by rw[h])
  |exact .inl h
  |(obtain⟨rfl,rfl,rfl,rfl,rfl,rfl⟩:=h;exact .inl rfl)
theorem qd (t n:Nat):∀ (j:Nat) (ls u:List Leaf),u.map jy=ls.map jy->bE t n j u=bE t n j ls
 |_,[],[],_=>rfl
 |_,[],_::_,h=>by simp at h
 |_,_::_,[],h=>by simp at h
 |j,l::ls,O::u,h=>by
  simp only[B7,Cm]at h;simp only[bE,qd t n (j+1) ls u h.2];rcases tN h.1 with e|⟨p,Y,M,y,E,J,e,Z,X,z,I,H,_,_⟩
  ·rw[e]
  ·rw[I,H];rfl
theorem ye {x:Operand}(h:∀ t,x=.tmp t->bI (st' t)=bI (st t)):au st' x=au st x:=by
 cases x with
 |tmp t =>
  have:=h t rfl;simp only[bI,BY]at this;simp only[au,this.1,this.2.1,qd _ _ _ _ _ this.2.2]
 |_=>rfl
theorem zR {x:Operand}(h:∀ t,x=.tmp t->bI (st' t)=bI (st t)):one st' x=one st x:=by
 unfold one;rw[ye h]
theorem yf {c u:bP}(h:bI u=bI c)(j:Nat):jy (u.ls.getD j .dead)=jy (c.ls.getD j .dead):=by
 simp only[bI,BY]at h;have:=congrArg (λl=>l[j]?) h.2.2;simp only[C4]at this;rw[BV,BV];generalize u.ls[j]?=a at this;generalize c.ls[j]?=b at this
 match a,b,this with
 |none,none,_=>rfl
 |some x,some y,h=>exact DC h
theorem rJ (l:Leaf):lz l=(jy l).1:=by cases l <;> rfl
theorem zv {ks:List (Nat×Nat×Nat)}{ep:Nat}(h:∀ q∈EPO::ks.map (·.1),bI (st' q)=bI (st q)):bq st' ks ep=bq st ks ep:=by
 unfold bq;have z:=h EPO (BM ..);simp only[bI,BY]at z;rw[z.1];congr 1;induction ks with
 |nil=>rfl
 |cons k ks I =>
  have y:=h k.1 (by simp);have H:(st' k.1).ver=(st k.1).ver:=by simp only[bI,BY]at y;exact y.1
  rw[Cg,Cg,I (λq u=>h q (by simp at u ⊢;rcases u with u|u;exact .inl u;exact .inr (.inr u))),rJ,rJ,yf y,H]
end
section
variable {P:Program} {V:Env} {Γ:List Ctr} {T:TypeId->TI} {st st':St} {o:Oper} {R:Type} {κ:Upd->Option R} {r:R}
theorem tO {d:Nat}(u:o.dst=some d)(h:∀ q∈ft st o,st' q=st q):st' d=st d/\st' (B0+d)=st (B0+d):=by
 refine⟨h d ?_,h (B0+d) ?_⟩ <;> simp[ft,zE,u]
theorem lr {ls:List Leaf}(h:∀ q∈aw ls,st' q=st q):∀ x∈bw st ls,st' x.1=st x.1:=λx u=>h _ (ez u)
theorem qe {u:List (Nat×Nat×Bool)}:∀ (ps:List (Nat×Operand)) (ls:List Leaf),(∀ x∈ps,∀ t,x.2=.tmp t->st' t=st t)->fq st' u ps ls=fq st u ps ls
 |[],_,_=>rfl
 |(i,x)::ps,ls,h=>by
  simp only[fq,dO (h (i,x) (BM ..))];split
  ·rw[qe ps _ (λy z=>h y (BL _ z))]
  ·rfl
theorem oz {e:Ty}:∀ (ps:List (Nat×Operand)) (k:Nat),(∀ x∈ps,(∀ t,x.2=.tmp t->st' t=st t)/\∀ q∈aw (au st x.2).2,st' q=st q)->eC st' e k ps=eC st e k ps
 |[],_,_=>rfl
 |(i,x)::ps,k,h=>by
  have u:=h (i,x) (BM ..);simp only[eC,dO u.1,gS u.2,oz ps (k+1) (λy z=>h y (BL _ z))]
theorem oA {e:Ty}:∀ (ps:List (Nat×Operand)) (k:Nat) (u:cH (List e.den)),eC st e k ps=some u->∀ z,z∈u.frz\/z∈u.kill->∃ x∈ps,z.1∈aw (au st x.2).2
 |[],_,_,h=>by simp only[eC,BG]at h;subst h;simp
 |(i,x)::ps,k,u,h=>by
  simp only[eC]at h;cases O:BP i k&&decide ((au st x).1=bg e.isAgg) with
  |false=>simp[O]at h
  |true =>
   simp only[O,cond_true]at h;split at h
   ·rename_i t1 J Z M;simp only[BG]at h;subst h;intro z H;obtain⟨p1,Y⟩:=i8 Z;have I:(z∈t1.frz\/z∈t1.kill)\/(z∈J.frz\/z∈J.kill):=by
     rcases H with H|H <;> rcases BH.1 H with H|H
     ·exact .inl (.inl H)
     ·exact .inr (.inl H)
     ·exact .inl (.inr H)
     ·exact .inr (.inr H)
    rcases I with H|H
    ·exact⟨(i,x),BM ..,H.elim (p1 z) (Y z)⟩
    ·obtain⟨y,hy,X⟩:=oA ps (k+1) J M z H;exact⟨y,BL _ hy,X⟩
   ·cases h
theorem nz {x:Option Operand}{n:Int}(h:∀ y,x=some y->∀ t,y=.tmp t->st' t=st t):dh st' x n=dh st x n:=by
 cases x with
 |none=>rfl
 |some y=>simp only[dh,dz (h y rfl)]
theorem vq:∀ (xs:List Operand) (u:Option (List Nat)),(∀ x∈xs,∀ t,x=.tmp t->st' t=st t) ->
  xs.foldl (λ (u:Option (List Nat)) x=>u.bind λl=>match one st' x with|.bp b 0=>some (l++[b])|_=>none) u =
  xs.foldl (λ (u:Option (List Nat)) x=>u.bind λl=>match one st x with|.bp b 0=>some (l++[b])|_=>none) u
 |[],_,_=>rfl
 |x::xs,u,h=>by
  simp only[DD,dz (h x (BM ..))];exact vq xs _ (λy z=>h y (BL _ z))
theorem qf {l:Leaf}(y:st' TMP=st TMP)(z:st' EPO=st EPO)(h:∀ q∈aw [l],st' q=st q):cj st' l=cj st l:=by
 cases l with
 |nal p H ep u E e J =>
  rw[is]at h;simp only[cj,jN h,y,z];congr 1
  match H,u,h with
  |[(r,j,n)],some (i,M,off),h =>
   have I:=h r (by simp);simp only[I]
  |[(r,j,n)],none,_=>rfl
  |[],_,_=>rfl
  |_::_::_,_,_=>rfl
 |_=>rfl
theorem oC {l l':Leaf}{U:Upd}(h:cj st l=some (U,l')):∃ n,l'=.al TMP 0 n/\∀ q,q≠TMP->∀ z∈ay (ac U st q).ls,z∈ay (st q).ls:=by
 cases l with
 |nal p ks ep a0 E e X =>
  simp only[cj]at h;cases H:bq st ks ep with
  |false=>simp[H]at h
  |true =>
   rw[H]at h;simp only[cond_true]at h;split at h
   ·rename_i r j n0 i sz off;split at h
    ·rename_i Z E' M J hg;cases Y:!BP r TMP&&!BP r EPO&&BP sz M.cells with
     |false=>simp[Y]at h
     |true =>
      rw[Y]at h;simp only[cond_true]at h;split at h
      ·split at h
       ·rename_i y _ _ _ _ _;simp only[BG,BY]at h;obtain⟨rfl,rfl⟩:=h;refine⟨_,rfl,λq hq z u=>?_⟩;rw[aQ]at u;rcases aj r q ⟨(st r).ver,(st r).sh,aT (st r).ls j (.own Z (some (i,off)) E' M J)⟩ (ac [(TMP,⟨(st TMP).ver+1,.one,[.own (Z&&M.shy) none _ _ _]⟩),(EPO,bU (st EPO))] st) with ⟨rfl,O⟩|⟨_,O⟩
        ·rw[O]at u;exact refs_set u
        ·rw[O,aQ,aJ hq]at u;rcases aj EPO q (bU (st EPO)) st with ⟨rfl,e1⟩|⟨_,e1⟩ <;> rw[e1]at u <;> exact u
       ·cases h
      ·cases h
    ·cases h
   ·cases h
 |_=>simp[cj]at h
where
 refs_set {I:List Leaf} {j z:Nat} {p:Bool} {hh:Option (Nat×Nat)} {E:TypeId} {e:Ty} {X:List e.den} (h:z∈ay (aT I j (.own p hh E e X))):z∈ay I:=by
  unfold aT at h;induction I generalizing j with
  |nil=>simpa using h
  |cons l I ih =>
   cases j with
   |zero =>
    rw[List.set_cons_zero,dp,BH]at h;rw[dp,BH];rcases h with h|h
    ·simp[ay]at h
    ·exact .inr h
   |succ j =>
    rw[Cz,dp,BH]at h;rw[dp,BH];exact h.imp id ih
theorem uK {l l':Leaf}{U:Upd}(h:cj st l=some (U,l')):ay (ac U st TMP).ls=[]:=by
 cases l with
 |nal p J ep I E e Z =>
  simp only[cj]at h;cases u:bq st J ep with
  |false=>simp[u]at h
  |true =>
   rw[u]at h;simp only[cond_true]at h;split at h
   ·rename_i r j Y i M off;split at h
    ·rename_i p' X O H hg;cases z:!BP r TMP&&!BP r EPO&&BP M O.cells with
     |false=>simp[z]at h
     |true =>
      rw[z]at h;simp only[cond_true]at h;have y:TMP≠r:=λe=>by subst e;simp at z
      split at h
      ·split at h
       ·simp only[BG,BY]at h;obtain⟨rfl,rfl⟩:=h;rw[aQ,aJ y,aQ,bj];rfl
       ·cases h
      ·cases h
    ·cases h
   ·cases h
 |_=>simp[cj]at h
theorem wB {E:TypeId}{e:Ty}{y:Leaf}(u:∀ q∈aw [y],st' q=st q):fQ st' E e y=fQ st E e y:=by
 unfold fQ;rw[ci u,jm u,gS u]
theorem wC {E:TypeId}{e:Ty}{y:Leaf}{t:cH (List e.den)}(h:fQ st E e y=some t):(∀ z∈t.frz,z.1∈aw [y])/\∀ z∈t.kill,z.1∈aw [y]:=by
 unfold fQ at h;cases u:e.flat with
 |true =>
  rw[u]at h;simp only[cond_true,BO]at h;obtain⟨_,_,rfl⟩:=h;exact⟨by simp,by simp⟩
 |false =>
  rw[u]at h;simp only[cond_false]at h;cases H:decide (e.sh=e) with
  |true =>
   rw[H]at h;simp only[cond_true,BO]at h;obtain⟨_,_,rfl⟩:=h;exact⟨λz I=>ez I,by simp⟩
  |false =>
   rw[H]at h;simp only[cond_false,BO]at h;obtain⟨M,J,rfl⟩:=h;exact i8 J
theorem lu {u:Upd}{d:Nat}{E:TypeId}{e:Ty}{H:Nat}{p:Bool}{xs:List e.den}{ks:List (Nat×Nat)}{y:Leaf}(J:∀ z∈ks,st' z.1=st z.1)(O:∀ q∈aw [y],st' q=st q)(X:st' d=st d) :
  dP st' (ac u st') u d E e H p xs ks y κ=dP st (ac u st) u d E e H p xs ks y κ:=by
 unfold dP;have M:∀ q,st' q=st q->ac u st' q=ac u st q:=λq h=>bm h u
 rw[wB (st:=ac u st) (st':=ac u st') (λq hq=>M q (O q hq))];split
 ·rename_i t ht;obtain⟨Z,Y⟩:=wC ht;have e1:aE (ac u st') t.frz=aE (ac u st) t.frz:=kn (λz I=>M _ (O _ (Z z I)));have e2:∀ U:Upd,aN (ac U (ac u st')) (t.kill++ks)=aN (ac U (ac u st)) (t.kill++ks):=λU=>it (λz I=>bm (M _ ((BH.1 I).elim (λI=>O _ (Y z I)) (J z))) U)
  simp only[e1,e2,vp X]
 ·rfl
theorem wD {H:Upd}{d:Nat}{E:TypeId}{e:Ty}{u:Nat}{x y:Leaf}(J:∀ q∈aw [x],st' q=st q)(O:∀ q∈aw [y],st' q=st q)(M:st' d=st d):el st' H d E e u x y κ=el st H d E e u x y κ:=by
 unfold el;cases x with
 |al r j v =>
  have Y:st' r=st r:=J r (by simp[aw]);simp only;rw[ci (st:=ac H st) (st':=ac H st') (l:=.al r j v) (λq X=>bm (J q X) H)];split
  ·rw[lu (λz I=>by simp at I;subst I;exact Y) O M]
  ·rfl
 |nil=>exact lu (by simp) O M
 |_=>rfl
theorem wE {d:Nat}{E:TypeId}{e:Ty}{H:Nat}{x y:Leaf}(I:st' TMP=st TMP)(J:∀ q∈aw [x],st' q=st q)(Y:∀ q∈aw [y],st' q=st q)(X:st' d=st d):iw st' d E e H x y κ=iw st d E e H x y κ:=by
 unfold iw;rw[wD J Y X,hH,hH];cases Z:jr x with
 |false=>rfl
 |true =>
  simp only[cond_true];have hE:st' EPO=st EPO:=by
   cases x with
   |nal p ks ep a0 E e xs=>exact J EPO (by rw[is];exact BM ..)
   |_=>simp[jr]at Z
  rw[qf I hE J];cases hu:cj st x with
  |none=>rfl
  |some u =>
   obtain⟨n,e1,_⟩:=oC (U:=u.1) (l':=u.2) hu;simp only[CL];rw[e1];unfold el;simp only;have e2:∀ q,q=TMP->ac u.1 st' q=ac u.1 st q:=λq M=>by rw[M];exact bm I u.1
   rw[ci (st:=ac u.1 st) (st':=ac u.1 st') (l:=.al TMP 0 n) (λq M=>e2 q (by simpa[aw]using M))];split
   ·rw[lu (λz O=>by simp at O;subst O;exact I) Y X]
   ·rfl
structure eS (st st':St) (ls:List Leaf):Prop where
 d1:∀ q∈ay ls,st' q=st q
 d2:∀ r∈ay ls,∀ q∈ay (st r).ls,st' q=st q
 d3:∀ r∈ay ls,∀ r2∈ay (st r).ls,∀ q∈ay (st r2).ls,st' q=st q
theorem kG (p:Bool):∀ (a:Ty) (x:a.den),ay (cG p a x)=[]
 |.int _,_=>rfl
 |.bool,_=>rfl
 |.str,_=>rfl
 |.unit,_=>rfl
 |.hdr,_=>rfl
 |.pair a b,x=>by simp[cG,lq,kG p a,kG p b]
 |.list _ _ _,_=>rfl
theorem rK {l:Leaf}(h:∀ q∈ay [l],st' q=st q):target st' l=target st l:=by
 unfold target;cases l with
 |bp b off =>
  have u:=h b (by simp[ay]);cases off with
  |zero=>simp only[u]
  |succ n=>rfl
 |rp p a x off=>cases off <;> rfl
 |_=>rfl
theorem lv {l:Leaf}{ls:List Leaf}(h:target st l=some ls):∀ q∈ay ls,q∈ay [l]\/∃ r∈ay [l],q∈ay (st r).ls:=by
 unfold target at h;split at h
 ·rename_i b;cases y:decide ((st b).sh=.agg) with
  |false=>simp[y]at h
  |true =>
   simp only[y,cond_true,BG]at h;subst h;intro q u;rcases ny _ _ _ _ _ u with rfl|u
   ·exact .inl (by simp[ay])
   ·exact .inr ⟨b,by simp[ay],u⟩
 ·simp only[BG]at h;subst h;intro q u;rw[kG]at u;simp at u
 ·simp only[BG]at h;subst h;intro q u;simp[ay]at u
 ·cases h
theorem i9 {x:aI×List Leaf}{q:Nat}(h:q∈ay [ck x]):q∈ay x.2:=by
 unfold ck at h;split at h
 ·exact h
 ·simp[ay]at h
theorem eS.target {l:Leaf}{ls:List Leaf}(h:eS st st' [l])(H:Go.Proofs.YtaegajachoklkabGreatEv.target st l=some ls):(∀ q∈ay ls,st' q=st q)/\∀ r∈ay ls,∀ q∈ay (st r).ls,st' q=st q:=by
 constructor
 ·intro q y;rcases lv H q y with u|⟨r,u,z⟩
  ·exact h.d1 q u
  ·exact h.d2 r u q z
 ·intro r J q y;rcases lv H r J with u|⟨I,u,z⟩
  ·exact h.d2 r u q y
  ·exact h.d3 I u r z q y
theorem eS.one {x:aI×List Leaf}(h:eS st st' x.2):eS st st' [ck x] :=
 ⟨λq y=>h.d1 q (i9 y),λr u=>h.d2 r (i9 u),λr u=>h.d3 r (i9 u)⟩
def nA {α:Type}(st st':St)(g:Got α):Prop:=(∀ z∈g.frz,st' z.1=st z.1)/\(∀ z∈g.kill,st' z.1=st z.1)
theorem nB {c:Bool×Ty}{l:Leaf}(X:eS st st' [l]):fp st' c l=fp st c l/\∀ g,fp st c l=some g->nA st st' g:=by
 unfold fp;rw[rK X.d1];cases M:target st l with
 |none=>cases c.1 <;> exact⟨rfl,by simp⟩
 |some Y =>
  have y:=X.target M;cases hc:c.1 with
  |false =>
   have u:∀ q∈aw Y,st' q=st q:=λq J=>y.1 q (fH J)
   simp only[cond_false,eL u,jm u,true_and];intro g z;simp only[BO]at z;obtain⟨_,_,rfl⟩:=z;exact⟨lr u,by simp[Got.ofRd]⟩
  |true =>
   simp only[cond_true]
   match Y,y,M with
   |[],_,_=>exact⟨rfl,by simp⟩
   |_::_::_,_,_=>exact⟨rfl,by simp⟩
   |[Z],y,M =>
    simp only[rK y.1];cases O:target st Z with
    |none=>exact⟨rfl,by simp⟩
    |some H =>
     have u:∀ q∈aw H,st' q=st q:=by
      intro q J;rcases lv O q (fH J) with I|⟨r,I,h5⟩
      ·exact y.1 q I
      ·exact y.2 r I q h5
     simp only[eL u,jm u,true_and];intro g z;simp only[BO]at z;obtain⟨_,_,rfl⟩:=z;exact⟨lr u,by simp[Got.ofRd]⟩
theorem mt:∀ (cs:List (Bool×Ty)) (ls:List Leaf),(∀ l∈ls,eS st st' [l])->cq st' cs ls=cq st cs ls/\∀ g,cq st cs ls=some g->nA st st' g
 |[],[],_=>⟨rfl,λg u=>by simp only[cq,BG]at u;subst u;exact⟨by simp,by simp⟩⟩
 |[],_::_,_=>⟨rfl,λg u=>by simp[cq]at u⟩
 |_::_,[],_=>⟨rfl,λg u=>by simp[cq]at u⟩
 |c::cs,l::ls,h=>by
  obtain⟨M,Y⟩:=nB (c:=c) (h l (BM ..));obtain⟨O,Z⟩:=mt cs ls (λy hy=>h y (BL _ hy));simp only[cq,M,O,true_and];intro g u;split at u
  ·rename_i g1 H;split at u
   ·rename_i X I;simp only[BG]at u;subst u;exact⟨λz J=>(BH.1 J).elim ((Y g1 H).1 z) ((Z X I).1 z),by simp⟩
   ·cases u
  ·cases u
theorem oD {c:Nat}{q:Nat}:∀ {ls:List Leaf} {c:Nat},q∈aw (aT ls c .nil)->q∈aw ls
 |[],_,h=>h
 |l::ls,0,h=>by
  rw[show aT (l::ls) 0 .nil=.nil::ls from rfl,aL,BH]at h;rw[aL,BH];rcases h with h|h
  ·simp[aw]at h
  ·exact .inr h
 |l::ls,c+1,h=>by
  rw[show aT (l::ls) (c+1) .nil=l::aT ls c .nil from rfl,aL,BH]at h;rw[aL,BH];exact h.imp id (oD (c:=c))
theorem pf {caps:List Nat}{f:FuncId}(H:eS st st' [.clo f caps]):∀ l∈caps.map (λb=>Leaf.bp b 0),eS st st' [l]:=by
 intro l M;obtain⟨b,I,rfl⟩:=BR.1 M;have u:b∈ay [Leaf.clo f caps]:=by simp[ay,I]
 have y:∀ r∈ay [Leaf.bp b 0],r=b:=λr z=>by simpa[ay]using z
 exact⟨λq J=>H.d1 q (by rw[y q J];exact u),λr z=>H.d2 r (by rw[y r z];exact u),λr z=>H.d3 r (by rw[y r z];exact u)⟩
theorem nC {caps:List (Bool×Bool×(a:Ty)×a.den)}:∀ l∈caps.map eT,eS st st' [l]:=by
 intro l z;obtain⟨c,H,rfl⟩:=BR.1 z;have:∀ q,q∉ay [eT c]:=by
  intro q u;unfold eT at u;cases y:c.2.1 <;> rw[y]at u <;> simp[ay]at u
 exact⟨λq u=>absurd u (this q),λq u=>absurd u (this q),λq u=>absurd u (this q)⟩
theorem ek {pk:PK}{x:aI×List Leaf}(h:eS st st' x.2):be st' pk x=be st pk x/\∀ g,be st pk x=some g->nA st st' g:=by
 have Z:∀ q∈aw x.2,st' q=st q:=λq O=>h.d1 q (fH O)
 have h1:=h.one;have H:∀ {b:Bool} {a:Ty} {g:Got a.den},(bif b then (cg st a x.2).map (λt=>(⟨t.p,t.val,t.frz,t.kill,[],[]⟩:Got a.den)) else none)=some g->nA st st' g:=by
  intro b a g u;cases b with
  |false=>simp at u
  |true =>
   simp only[cond_true,BO]at u;obtain⟨t,ht,rfl⟩:=u;obtain⟨p1,p2⟩:=i8 ht;exact⟨λz I=>Z _ (p1 z I),λz I=>Z _ (p2 z I)⟩
 cases pk with
 |rd a =>
  simp only[be,eL Z,jm Z,true_and];intro g u;cases M:decide (x.1=bg a.isAgg) with
  |false=>simp[M]at u
  |true =>
   simp only[M,cond_true,BO]at u;obtain⟨y,_,rfl⟩:=u;exact⟨lr Z,by simp[Got.ofRd]⟩
 |own a =>
  simp only[be,gS Z,true_and];exact λg u=>H u
 |io a =>
  simp only[be,gS Z,true_and];exact λg u=>H u
 |rref a=>exact nB (c:=(false,a)) h1
 |rref2 a=>exact nB (c:=(true,a)) h1
 |iop a =>
  simp only[be];split
  ·rename_i b Y;rw[Y]at h1;have M:=h1.d1 b (by simp[ay]);have h3:∀ q∈aw (bE b (st b).ver 0 (st b).ls),st' q=st q:=by
    intro q O;rcases nv _ _ _ _ _ O with rfl|O
    ·exact M
    ·exact h1.d2 b (by simp[ay]) q (fH O)
   simp only[M,gS h3,true_and];intro g u;cases a1:decide ((st b).sh=.agg) with
   |false=>simp[a1]at u
   |true =>
    simp only[a1,cond_true,BO]at u;obtain⟨t,ht,rfl⟩:=u;obtain⟨p1,p2⟩:=i8 ht;exact⟨λz I=>h3 _ (p1 z I),λz I=>h3 _ (p2 z I)⟩
  ·exact⟨rfl,by simp⟩
 |fn As B =>
  simp only[be,true_and];intro g u;split at u
  ·split at u
   ·simp only[BG]at u;subst u;exact⟨by simp,by simp⟩
   ·cases u
  ·cases u
 |clo f cs =>
  simp only[be];split
  ·rename_i f' caps Y;rw[Y]at h1;have:=mt cs _ (pf h1);rw[this.1];refine⟨rfl,λg u=>?_⟩;cases M:BP f' f with
   |false=>simp[M]at u
   |true=>rw[M]at u;exact this.2 g u
  ·rename_i f' caps Y;have:=mt (st:=st) (st':=st') cs _ (nC (caps:=caps));rw[this.1];refine⟨rfl,λg u=>?_⟩;cases M:BP f' f with
   |false=>simp[M]at u
   |true=>rw[M]at u;exact this.2 g u
  ·exact⟨rfl,by simp⟩
 |hol a c off =>
  simp only[be];have X:∀ q∈aw (aT x.2 c .nil),st' q=st q:=λq O=>Z q (oD (c:=c) O)
  rw[gS X];cases M:decide (x.1=bg a.isAgg) with
  |false=>exact⟨rfl,by simp⟩
  |true =>
   simp only[cond_true];split
   ·rename_i r j v J;have a2:x.2[c]?=some (.al r j v):=by
     rw[BV]at J;cases O:x.2[c]? with
     |none=>rw[O]at J;simp at J
     |some l0=>rw[O]at J;simp at J;rw[J]
    have hr:=λq O=>Z q (qM a2 q O)
    rw[ci hr];refine⟨rfl,λg u=>?_⟩;split at u
    ·rename_i p i o' E e xs _;cases a0:BP o' off with
     |false=>simp[a0]at u
     |true =>
      rw[a0]at u;simp only[cond_true]at u;split at u
      ·rename_i t ht;split at u
       ·simp only[BG]at u;subst u;obtain⟨p1,p2⟩:=i8 ht;refine⟨λz I=>X _ (p1 z I),λz I=>?_⟩;rcases BU.1 I with rfl|I
        ·exact hr r (by simp[aw])
        ·exact X _ (p2 z I)
       ·cases u
      ·cases u
    ·cases u
   ·exact⟨rfl,by simp⟩
theorem kH {ga ga':(pk:PK)->aI×List Leaf->Option (Got pk.den)}:∀ (ps:List PK) (xs:List (aI×List Leaf)),
  (∀ x∈xs,∀ pk,ga' pk x=ga pk x/\∀ g,ga pk x=some g->nA st st' g) ->
  a8 ga' ps xs=a8 ga ps xs/\∀ g,a8 ga ps xs=some g->nA st st' g
 |[],[],_=>⟨rfl,λg u=>by simp only[a8,BG]at u;subst u;exact⟨by simp,by simp⟩⟩
 |[],_::_,_=>⟨rfl,λg u=>by simp[a8]at u⟩
 |_::_,[],_=>⟨rfl,λg u=>by simp[a8]at u⟩
 |p::ps,x::xs,h=>by
  obtain⟨Z,O⟩:=h x (BM ..) p;obtain⟨h3,X⟩:=kH ps xs (λy hy=>h y (BL _ hy));simp only[a8,Z,h3,true_and];intro g u;split at u
  ·rename_i Y H;split at u
   ·rename_i M I;simp only[BG]at u;subst u;exact⟨λz J=>(BH.1 J).elim ((O Y H).1 z) ((X M I).1 z),λz J=>(BH.1 J).elim ((O Y H).2 z) ((X M I).2 z)⟩
   ·cases u
  ·cases u
theorem tP {H:List Ty}{B:Ty}{f:FuncId}{ls:List Leaf}(h:∀ l∈ls,eS st st' [l]):kJ Γ st' H B f ls=kJ Γ st H B f ls/\∀ g,kJ Γ st H B f ls=some g->nA st st' g:=by
 have u:=λ (q:List PK)=>kH (st:=st) (st':=st') (ga:=be st) (ga':=be st') q (ls.map λl=>(aI.one,[l])) (λy O Y=>by
  obtain⟨l,M,rfl⟩:=BR.1 O;exact ek (h l M))
 unfold kJ;split
 ·rename_i c X;unfold r9;simp only[uN,(u _).1,true_and];intro g z;split at z
  ·cases J:(c.ps.drop H.length).all PK.reads&&B.flat&&c.fresh with
   |false=>simp[J]at z
   |true =>
    simp only[J,cond_true]at z;split at z
    ·rename_i g0 I;simp only[BG]at z;subst z;exact⟨((u _).2 g0 I).1,by simp⟩
    ·cases z
  ·cases z
 ·exact⟨rfl,by simp⟩
theorem wF {pk:PK}{x:aI×List Leaf}(h:eS st st' x.2):b8 Γ st' pk x=b8 Γ st pk x/\∀ g,b8 Γ st pk x=some g->nA st st' g:=by
 cases pk with
 |fn O B =>
  simp only[b8];split
  ·rename_i z y;have H:(∃ u,ck x=.clo z.1 u/\z.2=u.map λb=>Leaf.bp b 0)\/∃ u,ck x=.clr z.1 u/\z.2=u.map eT:=by
    generalize ck x=l at y;cases l <;> simp only[vC,BG,reduceCtorEq]at y
    ·subst y;exact .inl ⟨_,rfl,rfl⟩
    ·subst y;exact .inr ⟨_,rfl,rfl⟩
   have J:=h.one;rcases H with ⟨u,H,I⟩|⟨u,H,I⟩
   ·rw[H]at J;rw[I];exact tP (pf J)
   ·rw[I];exact tP nC
  ·exact ek h
 |rd a=>exact ek (pk:=.rd a) h
 |own a=>exact ek (pk:=.own a) h
 |io a=>exact ek (pk:=.io a) h
 |rref a=>exact ek (pk:=.rref a) h
 |rref2 a=>exact ek (pk:=.rref2 a) h
 |iop a=>exact ek (pk:=.iop a) h
 |clo f M=>exact ek (pk:=.clo f M) h
 |hol a c off=>exact ek (pk:=.hol a c off) h
theorem tQ:∀ (u ls:List Leaf),st' EPO=st EPO->(∀ q∈ay u,st' q=st q)->b6 st' u ls=b6 st u ls
 |[],_,_,_=>by simp[b6]
 |x::u,[],_,_=>by cases x <;> simp[b6]
 |x::u,l::ls,z,h=>by
  have y:=tQ u ls z (λq I=>h q (by rw[dp];exact BK _ I));cases x with
  |al r j v =>
   have H:st' r=st r:=h r (by simp[ay]);simp only[b6,y,bm H,bm z]
  |_=>simp only[b6,y]
theorem qg {p:Bool}:∀ (ps:List PK) (xs:List (aI×List Leaf)) (y:ah ps),st' EPO=st EPO->(∀ x∈xs,∀ q∈ay x.2,st' q=st q)->aF st' p ps xs y=aF st p ps xs y
 |[],_,_,_,_=>by simp[aF]
 |H::ps,[],y,_,h=>by cases H <;> simp[aF]
 |H::ps,x::xs,y,X,h=>by
  have I:=λ (y:ah ps)=>qg (p:=p) ps xs y X (λz Y=>h z (BL _ Y))
  have O:=h x (BM ..);cases H with
  |io a =>
   simp only[aF,I];rw[tQ x.2 _ (bm X _) (λq J=>bm (O q J) _)]
  |iop a =>
   simp only[aF,I];have M:∀ q∈ay [ck x],st' q=st q:=λq J=>O q (i9 J)
   congr 1;split
   ·rename_i b v u;rw[u]at M;rw[bm (M b (by simp[ay]))]
   ·rfl
  |_=>exact I _
theorem qh {n q:Nat}:∀ {ls:List Leaf} {k:Nat},q∈ay (aT ls k (.al TMP 0 n))->q∈ay ls\/q=TMP
 |[],_,h=>.inl h
 |l::ls,0,h=>by
  rw[show aT (l::ls) 0 (.al TMP 0 n)=.al TMP 0 n::ls from rfl,dp,BH]at h;rw[dp,BH];rcases h with h|h
  ·simp[ay]at h;exact .inr h
  ·exact .inl (.inr h)
 |l::ls,k+1,h=>by
  rw[show aT (l::ls) (k+1) (.al TMP 0 n)=l::aT ls k (.al TMP 0 n) from rfl,dp,BH]at h;rw[dp,BH];rcases h with h|h
  ·exact .inl (.inl h)
  ·exact (qh h).imp .inr id
theorem pg {U:Upd}{Y ls:List Leaf}(hT:st' TMP=st TMP)(u:∀ q,q≠TMP->∀ z∈ay (ac U st q).ls,z∈ay (st q).ls)(O:ay (ac U st TMP).ls=[])(Z:eS st st' Y)(y:∀ q∈ay ls,q∈ay Y\/q=TMP) :
  eS (ac U st) (ac U st') ls:=by
 have H:∀ r z,z∈ay (ac U st r).ls->r≠TMP:=λr z hz e=>by subst e;rw[O]at hz;simp at hz
 refine⟨λq I=>?_,λr hr q I=>?_,λr hr X J q I=>?_⟩
 ·rcases y q I with h|h
  ·exact bm (Z.d1 q h) U
  ·subst h;exact bm hT U
 ·have M:=H r q I;exact bm (Z.d2 r ((y r hr).resolve_right M) q (u r M q I)) U
 ·have M:=H r X J;have h2:=H X q I;exact bm (Z.d3 r ((y r hr).resolve_right M) X (u r M X J) q (u X h2 q I)) U
theorem oE (hT:st' TMP=st TMP)(hE:st' EPO=st EPO):∀ (ps:List PK) (xs:List (aI×List Leaf)),(∀ x∈xs,eS st st' x.2)->cY st' ps xs=cY st ps xs /\
  ∀ (U:Upd) (O:List (aI×List Leaf)) (b:Option (Bool×Nat×Nat)),cY st ps xs=some (U,O,b)->(∀ y∈O,eS (ac U st) (ac U st') y.2)/\(∀ f r j,b=some (f,r,j)->st' r=st r)/\∀ ls,eS st st' ls->eS (ac U st) (ac U st') ls
 |[],xs,h=>⟨rfl,λU O b z=>by
   simp only[cY,BG,BY]at z;obtain⟨rfl,rfl,rfl⟩:=z;exact⟨h,(λ_ _ _ h=>by cases h),λ_ h=>h⟩⟩
 |_::_,[],h=>⟨rfl,λU O b z=>by
   simp only[cY,BG,BY]at z;obtain⟨rfl,rfl,rfl⟩:=z;exact⟨h,(λ_ _ _ h=>by cases h),λ_ h=>h⟩⟩
 |p::ps,x::xs,h=>by
  have hx:=h x (BM ..);obtain⟨i1,i2⟩:=oE hT hE ps xs (λy M=>h y (BL _ M));simp only[cY];cases hk:p.nest x.2 with
  |none =>
   simp only[i1,true_and];intro U O b z;simp only[BO]at z;obtain⟨u,X,z⟩:=z;simp only[BY]at z;obtain⟨rfl,rfl,rfl⟩:=z;obtain⟨j1,j2,j3⟩:=i2 u.1 u.2.1 u.2.2 X;refine⟨λy M=>?_,j2,j3⟩;rcases BU.1 M with rfl|M
   ·exact j3 _ hx
   ·exact j1 y M
  |some k =>
   obtain⟨l,Z,a0⟩:=rB hk;have hg:x.2.getD k .dead=l:=by rw[BV,Z];rfl
   have Y:∀ q∈aw [l],st' q=st q:=λq J=>hx.d1 q (fH (qM Z q J))
   simp only[hg,qf hT hE Y,true_and];intro U O b z;simp only[BO]at z;obtain⟨u,X,z⟩:=z;simp only[BY]at z;obtain⟨rfl,rfl,rfl⟩:=z;obtain⟨n,e1,H⟩:=oC (U:=u.1) (l':=u.2) X;have I:=uK (U:=u.1) (l':=u.2) X;refine⟨λy M=>?_,λf r j hb=>?_,λls a1=>pg hT H I a1 (λq J=>.inl J)⟩
   ·rcases BU.1 M with rfl|M
    ·refine pg hT H I hx λq J=>?_
     have J:q∈ay (aT x.2 k u.2):=J;rw[e1]at J;exact qh J
    ·exact pg hT H I (h y (BL _ M)) (λq J=>.inl J)
   ·simp only[BG,BY]at hb;have hr:r=(kj l).1:=by rw[hb.2]
    rw[hr];refine Y _ ?_;cases l with
    |nal p ks ep a2 E e xs =>
     cases ks with
     |nil =>
      exfalso;simp only[cj]at X;cases hv:bq st [] ep <;> simp[hv]at X
     |cons k ks=>rw[is];simp[kj]
    |_=>simp[jr]at a0
theorem zw {b:Option (Bool×Nat×Nat)}{U:Upd}(y:st' TMP=st TMP)(z:st' EPO=st EPO)(u:∀ f r j,b=some (f,r,j)->st' r=st r):jZ st' b U κ=jZ st b U κ:=by
 unfold jZ;split
 ·rename_i r j;rw[bm (u true r j rfl),bm y,bm z]
 ·rfl
theorem tR {d:Nat}{f:FuncId}{xs:List (aI×List Leaf)}(hT:st' TMP=st TMP)(X:st' EPO=st EPO)(hx:∀ x∈xs,eS st st' x.2)(hd:st' d=st d)(hB:st' (B0+d)=st (B0+d)):js Γ st' d f xs κ=js Γ st d f xs κ:=by
 unfold js;split
 ·rename_i c hc;obtain⟨n1,n2⟩:=oE hT X c.ps xs hx;rw[gA,gA,n1];cases hn:cY st c.ps xs with
  |none=>rfl
  |some u =>
   obtain⟨H,J,b⟩:=u;obtain⟨m1,m2,_⟩:=n2 H J b hn;simp only[CL];have hg:=kH (st:=ac H st) (st':=ac H st') (ga:=b8 Γ (ac H st)) (ga':=b8 Γ (ac H st')) c.ps J (λx I pk=>wF (m1 x I));simp only[oJ,hg.1];split
   ·rename_i g Z;obtain⟨h1,h2⟩:=hg.2 g Z;have O:gF st' d c.rs=gF st d c.rs:=by
     unfold gF;split
     ·rw[hB]
     ·rfl
    have hL:∀ q,ac H st' q=ac H st q->∀ U,ac (U++H) st' q=ac (U++H) st q:=λq h U=>by rw[bB,bB];exact bm h U
    have a0:(bif c.fresh then [] else aE (ac H st') g.frz)=(bif c.fresh then [] else aE (ac H st) g.frz):=by rw[kn h1]
    have hk:∀ (U:Upd),aN (ac U (ac H st')) g.kill=aN (ac U (ac H st)) g.kill:=λU=>it (λz Y=>bm (h2 z Y) U)
    have ho:∀ (U:Upd) (p:Bool) (y:ah c.ps),aF (ac (U++H) st') p c.ps J y=aF (ac (U++H) st) p c.ps J y:=λU p y =>
     qg c.ps J y (hL _ (bm X H) U) (λx I q hq=>hL _ ((m1 x I).d1 q hq) U)
    have M:∀ (U:Upd),(g.frz.map λk=>(k.1,k.2,(ac (U++H) st' k.1).ver))=g.frz.map λk=>(k.1,k.2,(ac (U++H) st k.1).ver):=λU=>Ct λz Y=>by rw[hL _ (h1 z Y) U]
    have a2:∀ U,ac U st' d=ac U st d:=λU=>bm hd U
    have a1:∀ U,ac U st' (B0+d)=ac U st (B0+d):=λU=>bm hB U
    have a3:∀ U,ac U st' EPO=ac U st EPO:=λU=>bm X U
    simp only[O,a0,hk,ho,a2,a1,a3,<- CD,M,zw hT X m2]
   ·rfl
 ·rfl
theorem rL:∀ (u:List Ty) (xs:List (aI×List Leaf)),(∀ x∈xs,∀ q∈aw x.2,st' q=st q)->iL st' u xs=iL st u xs
 |[],[],_=>rfl
 |[],_::_,_=>rfl
 |_::_,[],_=>rfl
 |a::u,x::xs,h=>by
  simp only[iL,eL (h x (BM ..)),rL u xs (λy z=>h y (BL _ z))]
theorem wG {r j i off n:Nat}{p:Bool}{E:TypeId}{e:Ty}{xs:List e.den}{h:Option (Nat×Nat)}{ls:List Leaf}(X:st' r=st r)(O:st' EPO=st EPO)(H:∀ q∈aw ls,st' q=st q):gG st' r j i off n p E e xs h ls κ=gG st r j i off n p E e xs h ls κ:=by
 unfold gG;congr 1;funext u;rw[pd e 0 u ls H];split
 ·rename_i t Z;obtain⟨J,I⟩:=pe e 0 u ls t Z;have Y:aE st' t.frz=aE st t.frz:=kn (λz y=>H _ (J z y));have M:∀ U:Upd,aN (ac U st') t.kill=aN (ac U st) t.kill:=λU=>it (λz y=>bm (H _ (I z y)) U)
  simp only[Y,M,X,bm O]
 ·rfl
end
section
variable {P:Program} {V:Env} {Γ:List Ctr} {T:TypeId->TI} {st st':St} {o:Oper} {R:Type} {κ:Upd->Option R} {r:R}
theorem dq {z:List Nat}(h:∀ q∈z++z.flatMap (λt=>aw (st t).ls),st' q=st q){x:Operand}(H:∀ t,x=.tmp t->t∈z):(∀ t,x=.tmp t->st' t=st t)/\∀ q∈aw (au st x).2,st' q=st q:=by
 refine⟨λt y=>h t (BJ _ (H t y)),λq u=>?_⟩;obtain⟨t,y,u⟩:=rH u;rcases u with rfl|u
 ·exact h q (BJ _ (H q y))
 ·exact h q (BK _ (BZ.2 ⟨t,H t y,u⟩))
theorem nD {z:List Nat}(h:∀ q∈z++z.flatMap (λt=>ay (st t).ls),st' q=st q){x:Operand}(H:∀ t,x=.tmp t->t∈z):(∀ t,x=.tmp t->st' t=st t)/\∀ q∈ay (au st x).2,st' q=st q:=by
 refine⟨λt y=>h t (BJ _ (H t y)),λq u=>?_⟩;obtain⟨t,y,u⟩:=rI u;rcases u with rfl|u
 ·exact h q (BJ _ (H q y))
 ·exact h q (BK _ (BZ.2 ⟨t,H t y,u⟩))
theorem qi {y:List Nat}(h:∀ q∈kL st y,st' q=st q){x:Operand}(hx:∀ t,x=.tmp t->t∈y):eS st st' (au st x).2:=by
 have J:∀ q,q∈y->st' q=st q:=λq u=>h q (by simp[kL];exact .inl u)
 have O:∀ q,q∈y.flatMap (λt=>ay (st t).ls)->st' q=st q:=λq u=>h q (by
  unfold kL;exact BJ _ (BJ _ (BK _ u)))
 have X:∀ q,q∈(y.flatMap (λt=>ay (st t).ls)).flatMap (λt=>ay (st t).ls)->st' q=st q:=λq u=>h q (by
  unfold kL;exact BJ _ (BK _ u))
 have hc:∀ q,q∈((y.flatMap (λt=>ay (st t).ls)).flatMap (λt=>ay (st t).ls)).flatMap (λt=>ay (st t).ls)->st' q=st q:=λq u=>h q (by
  unfold kL;exact BK _ u)
 have Y:∀ r∈ay (au st x).2,r∈y\/r∈y.flatMap (λt=>ay (st t).ls):=by
  intro r H;obtain⟨t,ht,u⟩:=rI H;rcases u with rfl|u
  ·exact .inl (hx r ht)
  ·exact .inr (BZ.2 ⟨t,hx t ht,u⟩)
 have Z:∀ r∈ay (au st x).2,∀ q∈ay (st r).ls,q∈y.flatMap (λt=>ay (st t).ls)\/q∈(y.flatMap (λt=>ay (st t).ls)).flatMap (λt=>ay (st t).ls):=by
  intro r H q u;rcases Y r H with z|z
  ·exact .inl (BZ.2 ⟨r,z,u⟩)
  ·exact .inr (BZ.2 ⟨r,z,u⟩)
 refine⟨λq u=>(Y q u).elim (J q) (O q),λr H q u=>(Z r H q u).elim (O q) (X q),λr H M I q u=>?_⟩;rcases Z r H M I with z|z
 ·exact X q (BZ.2 ⟨M,z,u⟩)
 ·exact hc q (BZ.2 ⟨M,z,u⟩)
theorem bd {xs:Array Operand}{x:Operand}(h:x∈xs):∀ t,x=.tmp t->t∈iy xs.toList:=λt e=>rG (by rw[<- e];simpa using h)
theorem op_fr (h:∀ q∈ft st o,st' q=st q)(z:∀ x,o.op≠.move x)(H:∀ t x i,o.op≠.indexAddr t x i):∀ q∈cl st o.op,st' q=st q:=λq y=>h q (by
 unfold ft;refine BJ _ ?_;cases u:o.op with
 |move x=>exact absurd u (z x)
 |indexAddr t x i=>exact absurd u (H t x i)
 |_=>rw[u]at y;exact y)
theorem AK {α β:Type}{xs:List α}{n:Int}{K:Option β}:((idx xs n).bind λ_=>K)=if 0<=n/\n<xs.length then K else none:=by
 unfold idx;by_cases u:n<0
 ·rw[if_pos u,if_neg (by omega)];rfl
 ·rw[if_neg u];by_cases y:n.toNat<xs.length
  ·rw[BX y,if_pos (by omega)];rfl
  ·rw[Cn (by omega),if_neg (by omega)];rfl
theorem Bw (h:∀ q∈ft st o,st' q=st q)(hh:∀ q∈eZ st o.op,bI (st' q)=bI (st q)):act Γ T o st' κ=act Γ T o st κ:=by
 have M:=op_fr h;have a0:∀ (U:Upd) (d:Nat) (sh:aI) (ls:List Leaf),o.dst=some d->cf st' U d sh ls=cf st U d sh ls:=λU d sh ls hd=>vp (tO hd h).1
 have hB:∀ d,o.dst=some d->st' (B0+d)=st (B0+d):=λd hd=>(tO hd h).2
 have hw:∀ (sh:aI) (ls:List Leaf),wrU o st' κ sh ls=wrU o st κ sh ls:=by
  intro sh ls;unfold wrU;split
  ·rename_i d hd;rw[a0 _ _ _ _ hd]
  ·rfl
 cases I:o.op with
 |move x =>
  simp only[I,eZ]at hh;have e:au st' x=au st x:=ye λt Y=>hh t (bd (by simp[Op.operands]) t Y)
  simp only[act,I,e,hw]
 |assign x =>
  have H:=M (by simp[I]) (by simp[I]);simp only[I,cl]at H;have J:=dq H (x:=x) (bd (by simp[Op.operands]));have e:au st' x=au st x:=dO J.1;simp only[act,I,e,qO J.2,pc J.2,tL J.2];split
  ·rename_i d hd;rw[a0 _ _ _ _ hd]
  ·rfl
 |pick c x y =>
  have H:=M (by simp[I]) (by simp[I]);simp only[I,cl]at H;have e1:one st' c=one st c:=dz λt Y=>H t (bd (by simp[Op.operands]) t Y)
  have e2:au st' x=au st x:=dO λt Y=>H t (bd (by simp[Op.operands]) t Y)
  have e3:au st' y=au st y:=dO λt Y=>H t (bd (by simp[Op.operands]) t Y)
  simp only[act,I,e1,e2,e3,hw]
 |alloc t =>
  simp only[act,I];split
  ·rename_i d hd;rw[a0 _ _ _ _ hd,hB d hd]
  ·rfl
 |box t x =>
  have H:=M (by simp[I]) (by simp[I]);simp only[I,cl]at H;have J:=dq H (x:=x) (bd (by simp[Op.operands]));have e:au st' x=au st x:=dO J.1;have b1:sq st' x=sq st x:=by cases x <;> first|rfl|(simp only[sq];rw[J.1 _ rfl])
  simp only[act,I,e,qO J.2,pc J.2,tL J.2,b1];split
  ·rename_i d hd;simp only[a0 _ _ _ _ hd,hB d hd,bm (hB d hd)]
  ·rfl
 |build t a2 =>
  have H:=M (by simp[I]) (by simp[I]);simp only[I,cl]at H;have hb:∀ a5 ls,fq st' a5 a2.toList ls=fq st a5 a2.toList ls:=λa5 ls=>qe _ _ (λx J t Y=>H t (bd (by simp only[Op.operands,C7,BR];exact⟨x,J,rfl⟩) t Y))
  simp only[act,I,hw,hb]
 |buildSlice t n a2 =>
  have H:=M (by simp[I]) (by simp[I]);simp only[I,cl]at H;have J:∀ x∈a2.toList,(∀ t,x.2=.tmp t->st' t=st t)/\∀ q∈aw (au st x.2).2,st' q=st q:=λx J =>
   dq H (bd (by simp only[Op.operands,C7,BR];exact⟨x,J,rfl⟩))
  simp only[act,I];split
  ·rw[oz _ _ J];split
   ·rename_i u bx;have bn:=oA _ _ _ bx;have b3:∀ z,z∈u.frz\/z∈u.kill->st' z.1=st z.1:=λz hz=>by
     obtain⟨x,c0,c1⟩:=bn z hz;exact (J x c0).2 _ c1
    have e1:aE st' u.frz=aE st u.frz:=kn λz hz=>b3 z (.inl hz)
    have e2:∀ U:Upd,aN (ac U st') u.kill=aN (ac U st) u.kill:=λU=>it (λz hz=>bm (b3 z (.inr hz)) U)
    simp only[e1,e2];congr 1;split
    ·rename_i d hd;rw[a0 _ _ _ _ hd]
    ·rfl
   ·rfl
  ·rfl
 |load t x =>
  have H:=M (by simp[I]) (by simp[I]);simp only[I,cl]at H;have J:=nD H (x:=x) (bd (by simp[Op.operands]));have e:one st' x=one st x:=dz J.1;have X:∀ q∈ay [one st x],st' q=st q:=λq O=>J.2 q (tM O)
  simp only[act,I,e,hw];congr 1;split
  ·rfl
  ·rename_i b off Z;rw[Z]at X;rw[X b (by simp[ay])]
  ·rfl
  ·rename_i p ks ep a y off Z;rw[Z]at X;rw[jN (λq O=>X q (by simpa[ay]using O))]
  ·rename_i r j v i sz off Z;rw[Z]at X;rw[ci (l:=.al r j v) (λq O=>X q (by simp[aw]at O;simp[ay,O])),X EPO (by simp[ay])]
  ·rfl
 |store t x y =>
  have H:=M (by simp[I]) (by simp[I]);simp only[I,cl]at H;have J:=nD H (x:=x) (bd (by simp[Op.operands]));have hy:=nD H (x:=y) (bd (by simp[Op.operands]));have e:one st' x=one st x:=dz J.1;have e2:au st' y=au st y:=dO hy.1;have X:∀ q∈ay [one st x],st' q=st q:=λq O=>J.2 q (tM O)
  have ad:∀ q∈aw (au st y).2,st' q=st q:=λq O=>hy.2 q (fH O)
  simp only[act,I,e,e2,qO ad,pc ad,tL ad];split
  ·rfl
  ·congr 1;split
   ·rename_i b off Z;rw[Z]at X;have hb:=X b (by simp[ay]);simp only[hb,bm hb]
   ·rename_i r j v i sz off Z;rw[Z]at X;have b9:=X r (by simp[ay]);rw[ci (l:=.al r j v) (λq O=>X q (by simp[aw]at O;simp[ay,O]))];split
    ·rw[wG b9 (X EPO (by simp[ay])) ad]
    ·rfl
   ·rfl
 |nilCheck x =>
  have H:=M (by simp[I]) (by simp[I]);simp only[I,cl]at H;have J:=dq H (x:=x) (bd (by simp[Op.operands]));have e:one st' x=one st x:=dz J.1;have X:∀ q∈aw [one st x],st' q=st q:=λq O=>J.2 q (jp O)
  simp only[act,I,e,hw];split
  ·rfl
  ·rfl
  ·rename_i r j v i sz off Z;rw[Z]at X;rw[X r (by simp[aw])]
  ·rfl
  ·rename_i p ks ep a y off Z;rw[Z,vo]at X;rw[jN X]
  ·rfl
 |binOp op t x y t' =>
  have H:=M (by simp[I]) (by simp[I]);simp only[I,cl]at H;have J:=dq H (x:=x) (bd (by simp[Op.operands]));have hy:=dq H (x:=y) (bd (by simp[Op.operands]));have e1:one st' x=one st x:=dz J.1;have e2:one st' y=one st y:=dz hy.1;have e3:au st' x=au st x:=dO J.1;have e4:au st' y=au st y:=dO hy.1;simp only[act,I,e1,e2,e3,e4,hw,eL J.2,eL hy.2]
 |unOp op t x =>
  have H:=M (by simp[I]) (by simp[I]);simp only[I,cl]at H;have e1:one st' x=one st x:=dz λt Y=>H t (bd (by simp[Op.operands]) t Y)
  simp only[act,I,e1,hw]
 |convert s t x =>
  have H:=M (by simp[I]) (by simp[I]);simp only[I,cl]at H;have J:=dq H (x:=x) (bd (by simp[Op.operands]));have e1:one st' x=one st x:=dz J.1;have X:∀ q∈aw [one st x],st' q=st q:=λq O=>J.2 q (jp O)
  simp only[act,I,e1,hw];split
  ·rfl
  ·rw[ci X]
  ·rfl
  ·rfl
 |makeSlice t n c =>
  have H:=M (by simp[I]) (by simp[I]);simp only[I,cl]at H;have e1:one st' n=one st n:=dz λt Y=>H t (bd (by simp[Op.operands]) t Y)
  have e2:one st' c=one st c:=dz λt Y=>H t (bd (by simp[Op.operands]) t Y)
  simp only[act,I,e1,e2,hw]
 |slice t x lo hi mx =>
  have H:=M (by simp[I]) (by simp[I]);simp only[I,cl]at H;have hE:=H EPO (BM ..);have H:=λq O=>H q (BL _ O)
  have J:=dq H (x:=x) (bd (by simp[Op.operands]));have c2:∀ n,dh st' lo n=dh st lo n:=λn=>nz λy hy t Y=>H t (BJ _ (bd (by simp[Op.operands,hy]) t Y))
  have ba:∀ n,dh st' hi n=dh st hi n:=λn=>nz λy hy t Y=>H t (BJ _ (bd (by simp[Op.operands,hy]) t Y))
  have e:one st' x=one st x:=dz J.1;have X:∀ q∈aw [one st x],st' q=st q:=λq O=>J.2 q (jp O)
  have bl:∀ m,mx=some m->dh st' (some m) 0=dh st (some m) 0:=λm hm=>nz λy hy t Y=>H t (BJ _ (bd (by simp[Op.operands,hm,DC hy]) t Y))
  simp only[act,I,e,c2,ba,ci X,hE];cases hd:o.dst with
  |none=>cases mx <;> rfl
  |some d =>
   cases mx with
   |none=>simp only[a0 _ _ _ _ hd]
   |some m =>
    simp only[bl m rfl];split
    ·rename_i r j v _ Z _;rw[Z]at X;rw[ci X,it (st:=st) (st':=st') (λz hz=>by simp at hz;subst hz;exact X _ (by simp[aw]))];simp only[a0 _ _ _ _ hd]
    ·rfl
 |fieldAddr t x f =>
  have H:=M (by simp[I]) (by simp[I]);simp only[I,cl]at H;have J:=dq H (x:=x) (bd (by simp[Op.operands]));have e:one st' x=one st x:=dz J.1;have X:∀ q∈aw [one st x],st' q=st q:=λq O=>J.2 q (jp O)
  simp only[act,I,e,hw];split
  ·split
   ·split
    ·rfl
    ·rfl
    ·rename_i r j v i sz off Z;rw[Z]at X;rw[X r (by simp[aw])]
    ·rename_i p ks ep a y o' Z;rw[Z,vo]at X;rw[jN X]
    ·rfl
   ·rfl
  ·rfl
 |field t x f =>
  have H:=M (by simp[I]) (by simp[I]);simp only[I,cl]at H;have e1:au st' x=au st x:=dO λt Y=>H t (bd (by simp[Op.operands]) t Y)
  simp only[act,I,e1,hw]
 |indexAddr t x i =>
  simp only[I,eZ]at hh;have b4:∀ y∈(Op.indexAddr t x i).operands,∀ t,y=.tmp t->bI (st' t)=bI (st t):=λy hy t Y=>hh t (BJ _ (bd hy t Y))
  have e:one st' x=one st x:=zR (b4 x (by simp[Op.operands]));have e2:one st' i=one st i:=zR (b4 i (by simp[Op.operands]));have X:∀ q∈aw [one st x],bI (st' q)=bI (st q):=λq O=>by
   obtain⟨t',bb,O⟩:=rH (jp O);have a6:=bd (xs:=(Op.indexAddr t x i).operands) (x:=x) (by simp[Op.operands]) t' bb;rcases O with rfl|O
   ·exact hh q (BJ _ a6)
   ·exact hh q (BK _ (BZ.2 ⟨t',a6,O⟩))
  simp only[act,I,e,e2,hw];split
  ·split
   ·rfl
   ·split
    ·rename_i r j v Z;rw[Z]at X;have O:=X r (by simp[aw]);have hv:(st' r).ver=(st r).ver:=by simp only[bI,BY]at O;exact O.1
     simp only[aC,hv];cases BP (st r).ver v with
     |false=>rfl
     |true =>
      simp only[cond_true];rcases tN (yf O j) with e3|⟨p,p',h1,h2,E1,E2,e',c4,xs,cc,e3,e4,e5,e6⟩
      ·rw[e3]
      ·rw[e3,e4];simp only[pq,e5,AK,e6]
    ·rfl
    ·rename_i p ks ep cb E' e' xs Z;rw[Z,is]at X;rw[zv X]
    ·rfl
   ·rfl
  ·rfl
 |index t x i =>
  have H:=M (by simp[I]) (by simp[I]);simp only[I,cl]at H;have J:=dq H (x:=x) (bd (by simp[Op.operands]));have e1:one st' x=one st x:=dz J.1;have e2:one st' i=one st i:=dz (dq H (x:=i) (bd (by simp[Op.operands]))).1;have e3:au st' x=au st x:=dO J.1;simp only[act,I,e1,e2,e3,hw,λe n=>nu (e:=e) n _ J.2]
 |extract x i =>
  have H:=M (by simp[I]) (by simp[I]);simp only[I,cl]at H;have e1:au st' x=au st x:=dO λt Y=>H t (bd (by simp[Op.operands]) t Y)
  simp only[act,I,e1,hw]
 |makeFunc fn first a3 =>
  have H:=M (by simp[I]) (by simp[I]);simp only[I,cl]at H;cases fn with
  |func f =>
   have:su st' a3.toList=su st a3.toList:=vq (st:=st) (st':=st') a3.toList (some []) (λx J t Y=>H t (bd (by simp[Op.operands];exact .inr (by simpa using J)) t Y));simp only[act,I,hw,this]
  |_=>simp only[act,I]
 |call c =>
  have H:=M (by simp[I]) (by simp[I]);simp only[I,cl]at H;simp only[act,I];split
  ·rfl
  ·rename_i d hd;obtain⟨b0,b2⟩:=tO hd h;cases hc:c.callee with
   |value f =>
    simp only[hc]at H;have hT:=H TMP (BM ..);have hE:=H EPO (BL _ (BM ..));have H:=λq O=>H q (BL _ (BL _ O))
    have b5:f∈(Op.call c).operands:=by simp[Op.operands,Call.operands,hc]
    have a9:∀ x∈c.args.toList,x∈(Op.call c).operands:=λx J=>by
     simp only[Op.operands,Call.operands,hc,C8];exact .inr (by simpa using J)
    have a6:∀ x∈(Op.call c).operands,∀ t,x=.tmp t->st' t=st t:=λx J t Y=>H t (by
     unfold kL;exact BJ _ (BJ _ (BJ _ (bd J t Y))))
    have e1:one st' f=one st f:=dz (a6 f b5);have e2:c.args.toList.map (au st')=c.args.toList.map (au st):=Ct λx J=>dO (a6 x (a9 x J))
    have a4:∀ x∈c.args.toList.map (au st),eS st st' x.2:=by
     intro x J;obtain⟨y,hy,rfl⟩:=BR.1 J;exact qi H (bd (a9 y hy))
    simp only[e1,e2];split
    ·rename_i g a3 Z;refine tR hT hE ?_ b0 b2;intro x J;rcases BH.1 J with J|J
     ·exact a4 x J
     ·obtain⟨b,hb,rfl⟩:=BR.1 J;have hf:=qi H (bd b5);rw[qP Z (by simp)]at hf;exact pf hf _ (BR.2 ⟨b,hb,rfl⟩)
    ·rename_i g a3 Z;refine tR hT hE ?_ b0 b2;intro x J;rcases BH.1 J with J|J
     ·exact a4 x J
     ·obtain⟨cp,c3,rfl⟩:=BR.1 J;exact nC _ (BR.2 ⟨cp,c3,rfl⟩)
    ·rename_i As B φ Z;rw[rL As _ (λx J q O=>(a4 x J).d1 q (fH O))];simp only[hw]
    ·rfl
   |builtin b =>
    simp only[hc]at H;have hT:=H TMP (BM ..);have H:=λq O=>H q (BL _ O)
    have a9:∀ x∈c.args.toList,x∈(Op.call c).operands:=λx J=>by
     simp only[Op.operands,Call.operands,hc,C8];exact .inr (by simpa using J)
    have J:∀ x∈c.args.toList,one st' x=one st x/\∀ q∈aw [one st x],st' q=st q:=λx J=>by
     have:=dq H (bd (a9 x J));exact⟨dz this.1,λq O=>this.2 q (jp O)⟩
    cases b with
    |len =>
     dsimp only;split
     ·rename_i x a1;have h1:=J x (by rw[a1];simp);simp only[h1.1,ci h1.2,hw]
     ·rfl
    |append =>
     dsimp only;split
     ·rename_i x y t u a1 _;have h1:=J x (by rw[a1];simp);have h2:=J y (by rw[a1];simp);split
      ·rw[h1.1,h2.1,wE hT h1.2 h2.2 b0]
      ·rfl
     ·rfl
    |min =>
     dsimp only;split
     ·rename_i x y a1;rw[(J x (by rw[a1];simp)).1,(J y (by rw[a1];simp)).1];simp only[hw]
     ·rfl
    |max =>
     dsimp only;split
     ·rename_i x y a1;rw[(J x (by rw[a1];simp)).1,(J y (by rw[a1];simp)).1];simp only[hw]
     ·rfl
    |_=>rfl
   |invoke x n=>rfl
 |_=>simp only[act,I]
end
section
variable {P:Program} {V:Env} {Γ:List Ctr} {T:TypeId->TI} {st st':St} {o:Oper} {R:Type} {all:Array Oper}
def mu (Γ:List Ctr)(T:TypeId->TI)(all:Array Oper)(o:Oper)(st:St)(U:Upd):Prop :=
 match o.guard with
 |none=>act Γ T o st some=some U
 |some (j,r)=>∃ t,(all[j]?).bind (·.dst)=some t /\
  ((∃ b,(st t).sh=.one/\(st t).ls=[.bool b]/\((b=r/\act Γ T o st some=some U)\/(b≠r/\U=eO st o)))\/((st t).sh=.und/\U=eO st o))
def jO (Γ:List Ctr)(T:TypeId->TI)(all:Array Oper)(o:Oper)(st:St)(U:Upd)(t:cJ):Prop :=
 ((∀ q∈U.map (·.1),q∈t.wr\/q∈t.cw)/\(∀ q∈t.wr,q∈U.map (·.1))/\∀ q,q∈U.map (·.1)->q∉t.wr->bI (ac U st q)=bI (st q))/\match o.guard with
 |none=>act Γ T o st some=some U/\(∀ q∈ft st o,q∈t.rd)/\∀ q∈eZ st o.op,q∈t.hd
 |some (j,r)=>∃ s,(all[j]?).bind (·.dst)=some s/\s∈t.rd /\
  ((∃ b,(st s).sh=.one/\(st s).ls=[.bool b]/\((b=r/\act Γ T o st some=some U/\(∀ q∈ft st o,q∈t.rd)/\∀ q∈eZ st o.op,q∈t.hd)\/(b≠r/\U=eO st o/\∀ d,o.dst=some d->d∈t.wr))) \/
   ((st s).sh=.und/\U=eO st o/\∀ d,o.dst=some d->d∈t.wr))
theorem tS {α:Type}:∀ {l:List α} {j:Nat} {x:α},l[j]?=some x->l.set j x=l
 |[],_,_,h=>by simp at h
 |y::l,0,x,h=>by simp at h;subst h;rfl
 |y::l,j+1,x,h=>by rw[Cz,tS (by simpa using h)]
theorem AL {U:Upd}(h:act Γ T o st some=some U):∀ q∈dX st o,bI (ac U st q)=bI (st q):=by
 intro q z;unfold dX at z;split at z
 ·rename_i t x y J;split at z
  ·rename_i r j a1 i sz off hx;simp only[CG]at z;subst z;simp only[act,wrU,J]at h;split at h
   ·cases h
   ·cases O:BP (au st y).2.length (T t).cells&&decide ((au st y).1=bg (T t).agg)&&!decide ((T t).cells=0) with
    |false=>simp[O]at h
    |true =>
     simp only[O,cond_true,hx]at h;split at h
     ·rename_i p hh E e xs hd;cases Y:BP sz e.cells&&decide (off+(au st y).2.length<=e.cells)&&sa q with
      |false=>simp[Y]at h
      |true =>
       simp only[Y,cond_true]at h;obtain⟨_,hl⟩:=ff hd (by simp);have u:∀ (Z:Bool) (H:Option (Nat×Nat)) (v:e.den) (X:Upd),bI (ac ((q,⟨(st q).ver,(st q).sh,aT (st q).ls j (.own Z H E e (xs.set i v))⟩)::X) st q)=bI (st q):=by
        intro Z H v X;rw[aQ,bj];simp only[bI,aT];rw[List.map_set,tS];rw[C4,hl];simp[jy]
       unfold gG at h;obtain⟨a0,_,h⟩:=CE.1 h;split at h
       ·rename_i t _;cases I:t.rest.isEmpty&&aY t.kill&&dx t.frz t.kill&&!((t.kill++t.frz).any λk=>BP k.1 q) with
        |false=>rw[I]at h;cases h
        |true =>
         simp only[I,cond_true]at h;cases hh with
         |none =>
          simp only[BG]at h;rw[<- h];exact u _ _ _ _
         |some hp =>
          obtain⟨hi,ho⟩:=hp;simp only at h;cases M:Cs off ho&&Cl ho (off+(au st y).2.length) with
          |false =>
           rw[M]at h;simp only[cond_false,BG]at h;rw[<- h];exact u _ _ _ _
          |true =>
           rw[M]at h;simp only[cond_true]at h;cases h2:BP i hi <;> rw[h2]at h <;> simp only[cond_true,cond_false,BG]at h <;> rw[<- h] <;> exact u _ _ _ _
       ·cases h
     ·cases h
  ·simp at z
 ·simp at z
theorem ph {t:Nat}{b:Bool}(r:(st t).sh=.one)(u:(st t).ls=[.bool b]):lit st t b=st:=by
 funext q;unfold lit;rcases aj t q ⟨(st t).ver,.one,[.bool b]⟩ st with ⟨rfl,e⟩|⟨_,e⟩
 ·rw[e,<- r,<- u]
 ·exact e
theorem wH {U:Upd}(h:act Γ T o st some=some U):(∀ q∈U.map (·.1),q∈(U.map (·.1)).filter (λq=>!((dX st o).any (BP q)))\/q∈dX st o)/\(∀ q∈(U.map (·.1)).filter (λq=>!((dX st o).any (BP q))),q∈U.map (·.1)) /\
  ∀ q,q∈U.map (·.1)->q∉(U.map (·.1)).filter (λq=>!((dX st o).any (BP q)))->bI (ac U st q)=bI (st q):=by
 have r:∀ q,(dX st o).any (BP q)=true->q∈dX st o:=λq u=>by
  obtain⟨x,H,z⟩:=CV.1 u;rw[BN z];exact H
 refine⟨λq u=>?_,λq u=>(CR.1 u).1,λq u I=>?_⟩
 ·cases y:(dX st o).any (BP q) with
  |true=>exact .inr (r q y)
  |false=>exact .inl (CR.2 ⟨u,by rw[y];rfl⟩)
 ·refine AL h q (r q ?_);cases y:(dX st o).any (BP q) with
  |true=>rfl
  |false=>exact absurd (CR.2 ⟨u,by rw[y];rfl⟩) I
theorem AM {κ:St->cJ->Option R}{r:R}(h:opK Γ T all o st κ=some r):∃ U t,jO Γ T all o st U t/\κ (ac U st) t=some r:=by
 have Y:∀ (H:List Nat),act Γ T o st (λU=>κ (ac U st) ⟨H++ft st o,eZ st o.op,(U.map (·.1)).filter (λq=>!((dX st o).any (BP q))),dX st o⟩)=some r ->
   ∃ U,act Γ T o st some=some U/\κ (ac U st) ⟨H++ft st o,eZ st o.op,(U.map (·.1)).filter (λq=>!((dX st o).any (BP q))),dX st o⟩=some r:=by
  intro H h;rw[tK]at h;obtain⟨U,M,X⟩:=CE.1 h;exact⟨U,M,X⟩
 have u:((∀ q∈(eO st o).map (·.1),q∈o.dst.toList\/q∈([]:List Nat))/\(∀ q∈o.dst.toList,q∈(eO st o).map (·.1))/\∀ q,q∈(eO st o).map (·.1)->q∉o.dst.toList->bI (ac (eO st o) st q)=bI (st q)):=by
  unfold eO;cases o.dst with
  |none=>simp
  |some d=>simp
 unfold opK at h;unfold jO;cases hg:o.guard with
 |none =>
  simp only[hg]at h;obtain⟨U,M,X⟩:=Y [] h;exact⟨U,_,⟨wH M,M,λq J=>by simpa using J,λq J=>J⟩,X⟩
 |some jw =>
  obtain⟨j,O⟩:=jw;simp only[hg]at h;split at h
  ·rename_i t Z;have I:∀ d,o.dst=some d->d∈o.dst.toList:=λd hd=>by simp[hd]
   split at h
   ·rename_i b y z;have hl:∀ b',b'=b->lit st t b'=st:=λb' e=>ph y (by rw[z,e])
    cases b with
    |true =>
     simp only[cond_true,hl true rfl]at h;cases O with
     |true =>
      simp only[cond_true]at h;obtain⟨U,M,X⟩:=Y [t] h;exact⟨U,_,⟨wH M,t,Z,by simp,.inl ⟨true,y,z,.inl ⟨rfl,M,λq J=>BK _ J,λq J=>J⟩⟩⟩,X⟩
     |false =>
      simp only[cond_false]at h;exact⟨eO st o,_,⟨u,t,Z,by simp,.inl ⟨true,y,z,.inr ⟨by simp,rfl,I⟩⟩⟩,h⟩
    |false =>
     simp only[cond_false,hl false rfl]at h;cases O with
     |true =>
      simp only[cond_true]at h;exact⟨eO st o,_,⟨u,t,Z,by simp,.inl ⟨false,y,z,.inr ⟨by simp,rfl,I⟩⟩⟩,h⟩
     |false =>
      simp only[cond_false]at h;obtain⟨U,M,X⟩:=Y [t] h;exact⟨U,_,⟨wH M,t,Z,by simp,.inl ⟨false,y,z,.inl ⟨rfl,M,λq J=>BK _ J,λq J=>J⟩⟩⟩,X⟩
   ·rename_i y;exact⟨eO st o,_,⟨u,t,Z,by simp,.inr ⟨y,rfl,I⟩⟩,h⟩
   ·cases h
  ·cases h
theorem vr {U:Upd}(e:U=eO st o)(u:∀ d,o.dst=some d->st' d=st d):U=eO st' o:=by
 rw[e];unfold eO;cases r:o.dst with
 |none=>rfl
 |some d=>simp only[u d r]
theorem jO.frame {U:Upd}{t:cJ}(h:jO Γ T all o st U t)(u:∀ q,q∈t.rd\/q∈t.wr->st' q=st q)(hh:∀ q∈t.hd,bI (st' q)=bI (st q)):mu Γ T all o st' U:=by
 obtain⟨_,h⟩:=h;have r:act Γ T o st some=some U->(∀ q∈ft st o,q∈t.rd)->(∀ q∈eZ st o.op,q∈t.hd)->act Γ T o st' some=some U:=by
  intro y J H;rw[Bw (λq Z=>u q (.inl (J q Z))) (λq Z=>hh q (H q Z))];exact y
 unfold mu;cases hg:o.guard with
 |none =>
  rw[hg]at h;exact r h.1 h.2.1 h.2.2
 |some jw =>
  obtain⟨j,a1⟩:=jw;rw[hg]at h;obtain⟨s,y,J,H⟩:=h;have a0:=u s (.inl J);refine⟨s,y,?_⟩;rw[a0];rcases H with ⟨b,Y,I,M⟩|⟨Y,I,M⟩
  ·refine .inl ⟨b,Y,I,?_⟩;rcases M with ⟨h7,h8,O,X⟩|⟨h7,h8,O⟩
   ·exact .inl ⟨h7,r h8 O X⟩
   ·exact .inr ⟨h7,vr h8 (λd z=>u d (.inr (O d z)))⟩
  ·exact .inr ⟨Y,vr I (λd z=>u d (.inr (M d z)))⟩
theorem wI (hV:ax V)(hT:TOk P T)(hΓ:∀ c∈Γ,bN P c){ops:Array Oper}{i:Nat}(hi:ops[i]?=some o)(O:bL V o)(z:∀ j u,o.guard=some (j,u)->∀ s,(ops[j]?).bind (·.dst)=some s->s<V.nt)
  {U:Upd} (h:mu Γ T ops o st U) {a:Act} {w:World} (H:Rel P V st a w) {K:Act->World->Prop} {Q:Exit->Act->World->Prop} (hK:∀ a' w',Rel P V (ac U st) a' w'->K a' w'):wpOp P ops Q i K a w:=by
 obtain⟨W,H⟩:=H;unfold wpOp;simp only[hi];have a1:act Γ T o st some=some U->o.wp P a w K Q:=by
  intro X;obtain⟨U',h2,Z⟩:=Bv hV hT hΓ O X;cases h2;exact Z W a w H K Q hK
 have y:U=eO st o->K (a.put o.dst undef) w:=by
  intro e;refine hK _ _ ?_;subst e;unfold eO;cases hd:o.dst with
  |none=>exact⟨W,H⟩
  |some d=>exact H.putLs hV d (O d hd).1 (O d hd).2 _ .und [] undef [] (CP _) ⟨rfl,rfl⟩ trivial
 unfold mu at h;cases J:o.guard with
 |none =>
  rw[J]at h;have M:Region.wanted o (yielded ops a.tmps)=true:=by simp[Region.wanted,J]
  rw[if_pos M];exact .inl (a1 h)
 |some jw =>
  obtain⟨j,u⟩:=jw;rw[J]at h;obtain⟨s,X,h2⟩:=h;have Y:=z j u J s X;have a2:s<GH:=C0 Y hV.nt;have r:=H.slots s a2;have a3:s<a.tmps.size:=by rw[H.nt];exact Y
  have I:a.tmps[s]?=some (a.tmps.getD s undef):=by
   rw[BT,BS a3];rfl
  rcases h2 with ⟨b,Z,h4,h5⟩|⟨Z,h5⟩
  ·have a0:=H.len s;rw[h4]at a0;rw[Z]at r;have r:W.cs s=[a.tmps.getD s undef]:=r;have hv:=H.leaf s 0 (.bool b) (a.tmps.getD s undef) (by rw[h4];rfl) (by rw[r];rfl);have hv:a.tmps.getD s undef=.bool b:=hv;have hy:yielded ops a.tmps j=some b:=by simp[yielded,X,I,hv]
   rcases h5 with ⟨rfl,h6⟩|⟨h6,h7⟩
   ·have M:Region.wanted o (yielded ops a.tmps)=true:=by simp[Region.wanted,J,hy]
    rw[if_pos M];exact .inl (a1 h6)
   ·have M:Region.wanted o (yielded ops a.tmps)=false:=by
     simp only[Region.wanted,J,hy];cases b <;> cases u <;> simp at h6 <;> rfl
    rw[M];exact y h7
  ·rw[Z]at r;obtain⟨hv,_⟩:=r;have hy:yielded ops a.tmps j=none:=by
    unfold yielded;rw[X,CL,I,hv];rfl
   have M:Region.wanted o (yielded ops a.tmps)=false:=by simp[Region.wanted,J,hy]
   rw[M];exact y h5
def Run (Γ:List Ctr)(T:TypeId->TI)(all:Array Oper):St->List Oper->List Upd->List cJ->St->Prop
 |st,[],[],[],st'=>st'=st
 |st,o::u,U::r,t::y,st'=>jO Γ T all o st U t/\Run Γ T all (ac U st) u r y st'
 |_,_,_,_,_=>False
theorem pi:∀ (H:List Oper) (st:St) (y:List cJ) (z:St->List cJ->Option R) (r:R),qn Γ T all H st y z=some r ->
  ∃ I u st',Run Γ T all st H I u st'/\z st' (y++u)=some r
 |[],st,y,z,r,h=>⟨[],[],st,rfl,by simpa[qn]using h⟩
 |o::H,st,y,z,r,h=>by
  simp only[qn]at h;obtain⟨U,t,O,X⟩:=AM h;obtain⟨I,u,st',M,J⟩:=pi H (ac U st) (y++[t]) z r X;exact⟨U::I,t::u,st',⟨O,M⟩,by rw[CD]at J;exact J⟩
theorem jO.res {U:Upd}{t:cJ}(h:jO Γ T all o st U t):mu Γ T all o st U:=h.frame (λ_ _=>rfl) (λ_ _=>rfl)
theorem vt (Z:ax V)(Y:TOk P T)(hΓ:∀ c∈Γ,bN P c){ops:Array Oper}(y:∀ (i:Nat) (o:Oper),ops[i]?=some o->bL V o)
  (r:∀ (i:Nat) (o:Oper),ops[i]?=some o->∀ j z,o.guard=some (j,z)->∀ s,(ops[j]?).bind (·.dst)=some s->s<V.nt) {Q:Exit->Act->World->Prop} :
  ∀ (u:List Oper) (k:Nat) (st:St) (us:List Upd) (I:List cJ) (st':St),ops.toList.drop k=u->Run Γ T ops st u us I st'->(∀ a w,Rel P V st' a w->Q .normal a w) ->
   ∀ a w,Rel P V st a w->wpOps P ops Q (List.range' k u.length) a w
 |[],k,st,[],[],st',_,h,M,a,w,O=>by
  have h:st'=st:=h;subst h;exact M a w O
 |o::u,k,st,U::us,t::I,st',X,h,M,a,w,O=>by
  obtain⟨h1,h2⟩:=h;have J:ops[k]?=some o:=by
   have:(ops.toList.drop k)[0]?=some o:=by rw[X];rfl
   rw[List.getElem?_drop]at this;simpa using this
  rw[CM,List.range'_succ,wpOps_cons];refine wI Z Y hΓ J (y k o J) (r k o J) h1.res O (λa' w' H=>?_);exact vt Z Y hΓ y r u (k+1) (ac U st) us I st' (by rw[<- Cp,X];rfl) h2 M a' w' H
end
section
variable {P:Program} {V:Env} {Γ:List Ctr} {T:TypeId->TI} {st st':St} {o:Oper} {R:Type} {all:Array Oper}
def de (D:Nat->Bool):List Upd->St->St
 |[],st=>st
 |U::r,st=>de (λj=>D (j+1)) r (bif D 0 then ac U st else st)
theorem jq {q:Nat}:∀ {U:Upd} (s u:St),q∈U.map (·.1)->ac U s q=ac U u q
 |[],_,_,h=>by simp at h
 |(r,c)::U,s,u,h=>by
  simp only[ac];cases y:BP q r with
  |true=>rfl
  |false =>
   simp only[cond_false];refine jq s u ?_;simp only[B7,BU]at h;rcases h with rfl|h
   ·simp at y
   ·exact h
theorem eN {q:Nat}:∀ {U:Upd} (s:St),q∉U.map (·.1)->ac U s q=s q
 |[],_,_=>rfl
 |(r,c)::U,s,h=>by
  simp only[B7,BU,not_or]at h;have u:BP q r=false:=by
   cases u:BP q r with
   |false=>rfl
   |true=>exact absurd (BN u) h.1
  simp only[ac,u,cond_false];exact eN s h.2
theorem yg {U u:Upd}(h:∀ q,q∈U.map (·.1)->q∉u.map (·.1))(s:St):ac u (ac U s)=ac U (ac u s):=by
 funext q;by_cases r:q∈U.map (·.1)
 ·rw[eN _ (h q r)];exact jq _ _ r
 ·rw[eN (U:=U) _ r];by_cases y:q∈u.map (·.1)
  ·exact jq _ _ y
  ·rw[eN _ y,eN _ y,eN _ r]
theorem mv:∀ {us:List Upd} {D D':Nat->Bool} {s:St},(∀ j,j<us.length->D j=D' j)->de D us s=de D' us s
 |[],_,_,_,_=>rfl
 |U::us,D,D',s,h=>by
  simp only[de];rw[h 0 (by simp)];exact mv (λj r=>h (j+1) (by simpa using r))
theorem nE:∀ {us:List Upd} {D:Nat->Bool} {s:St},(∀ j,D j=false)->de D us s=s
 |[],_,_,_=>rfl
 |U::us,D,s,h=>by
  simp only[de,h 0,cond_false];exact nE (λj=>h (j+1))
theorem mw {q:Nat}:∀ {us:List Upd} {D D':Nat->Bool} {s r:St},s q=r q->(∀ (j:Nat) (U:Upd),us[j]?=some U->q∈U.map (·.1)->D j=D' j)->de D us s q=de D' us r q
 |[],_,_,_,_,h,_=>h
 |U::us,D,D',s,r,h,H=>by
  simp only[de];refine mw ?_ (λj M z J=>H (j+1) M (by simpa using z) J);by_cases u:q∈U.map (·.1)
  ·rw[H 0 U rfl u];cases D' 0 with
   |true=>exact jq _ _ u
   |false=>exact h
  ·have I:∀ b:Bool,(bif b then ac U s else s) q=s q:=by intro b;cases b <;> simp[eN _ u]
   have y:∀ b:Bool,(bif b then ac U r else r) q=r q:=by intro b;cases b <;> simp[eN _ u]
   rw[I,y,h]
theorem nF {U:Upd}:∀ {us:List Upd} {D:Nat->Bool} {s:St},(∀ (j:Nat) (u:Upd),us[j]?=some u->D j=true->∀ q,q∈U.map (·.1)->q∉u.map (·.1))->de D us (ac U s)=ac U (de D us s)
 |[],_,_,_=>rfl
 |u::us,D,s,h=>by
  simp only[de];cases H:D 0 with
  |true =>
   simp only[cond_true];rw[yg (h 0 u rfl H)];exact nF (λj r y z=>h (j+1) r (by simpa using y) z)
  |false =>
   simp only[cond_false];exact nF (λj r y z=>h (j+1) r (by simpa using y) z)
theorem oF {U:Upd}:∀ {us:List Upd} {i:Nat} {D D':Nat->Bool} {s:St},us[i]?=some U->D i=false->(∀ j,D' j=(D j||BP j i)) ->
  (∀ (j:Nat) (u:Upd),us[j]?=some u->i<j->D j=true->∀ q,q∈U.map (·.1)->q∉u.map (·.1))->de D' us s=ac U (de D us s)
 |[],i,_,_,_,h,_,_,_=>by simp at h
 |V::us,0,D,D',s,h,I,r,H=>by
  simp at h;subst h;simp only[de];have z:D' 0=true:=by rw[r 0];simp
  rw[z,I];simp only[cond_true,cond_false];have e:de (λj=>D' (j+1)) us (ac V s)=de (λj=>D (j+1)) us (ac V s):=mv (λj _=>by rw[r (j+1)];simp[BP]);rw[e];exact nF (λj u y J=>H (j+1) u (by simpa using y) (by omega) J)
 |V::us,i+1,D,D',s,h,I,r,H=>by
  simp only[de];have z:D' 0=D 0:=by rw[r 0];simp[BP]
  rw[z];exact oF (i:=i) (by simpa using h) I (λj=>by rw[r (j+1)];simp[BP]) (λj u y J M=>H (j+1) u (by simpa using y) (by omega) M)
theorem qQ:∀ {r:List Oper} {us:List Upd} {u:List cJ} {s H:St},Run Γ T all s r us u H->∀ (i:Nat) (o:Oper),r[i]?=some o ->
  ∃ U t,us[i]?=some U/\u[i]?=some t/\jO Γ T all o (de (λj=>decide (j<i)) us s) U t
 |[],_,_,_,_,_,i,o,h=>by simp at h
 |z::r,[],_,_,_,h,_,_,_=>h.elim
 |z::r,_::_,[],_,_,h,_,_,_=>h.elim
 |z::r,U::us,t::u,s,H,h,0,o,y=>by
  simp at y;subst y;exact⟨U,t,rfl,rfl,by rw[nE (λj=>by simp)];exact h.1⟩
 |z::r,U::us,t::u,s,H,h,i+1,o,y=>by
  obtain⟨M,J,I,X,O⟩:=qQ h.2 i o (by simpa using y);refine⟨M,J,by simpa using I,by simpa using X,?_⟩;simp only[de];have e:(λj=>decide (j+1<i+1))=λj=>decide (j<i):=by funext j;simp
  rw[e];simpa using O
theorem vu:∀ {r:List Oper} {us:List Upd} {u:List cJ} {s y:St},Run Γ T all s r us u y->us.length=r.length/\u.length=r.length/\y=de (λ_=>true) us s
 |[],[],[],_,_,h=>⟨rfl,rfl,h⟩
 |[],_::_,_,_,_,h=>h.elim
 |[],[],_::_,_,_,h=>h.elim
 |_::_,[],_,_,_,h=>h.elim
 |_::_,_::_,[],_,_,h=>h.elim
 |o::r,U::us,t::u,s,y,h=>by
  obtain⟨H,I,z⟩:=vu h.2;exact⟨by simp[H],by simp[I],by simpa[de]using z⟩
theorem qR {q:Nat}:∀ {os:List Oper} {us:List Upd} {z:List cJ} {I s':St} {D:Nat->Bool} {F:Nat->Bool} {s sF:St} {B:Prop},Run Γ T all I os us z s'->(∀ (j:Nat) (t:cJ),z[j]?=some t->F j=decide (q∈t.wr)) ->
  bI (s q)=bI (sF q)->(B->bI (sF q)=bI (I q)) ->
  (∀ (j:Nat) (t:cJ) (U:Upd),z[j]?=some t->us[j]?=some U->D j=true->q∉t.wr->q∈U.map (·.1)->B/\∀ (k:Nat) (t':cJ),k<j->z[k]?=some t'->q∈t'.wr->D k=true) ->
  bI (de D us s q)=bI (de (λj=>D j&&F j) us sF q)
 |[],[],[],_,_,_,_,_,_,_,_,_,H,_,_=>H
 |[],_::_,_,_,_,_,_,_,_,_,h,_,_,_,_=>h.elim
 |[],[],_::_,_,_,_,_,_,_,_,h,_,_,_,_=>h.elim
 |_::_,[],_,_,_,_,_,_,_,_,h,_,_,_,_=>h.elim
 |_::_,_::_,[],_,_,_,_,_,_,_,h,_,_,_,_=>h.elim
 |o::os,U::us,t::z,I,s',D,F,s,sF,B,h,hF,H,X,M=>by
  obtain⟨⟨⟨k1,k2,k3⟩,_⟩,J⟩:=h;have y:=hF 0 t rfl;simp only[de];refine qR (F:=λj=>F (j+1)) (B:=B/\(q∈t.wr->D 0=true)) J (λj t' ht=>hF (j+1) t' (by simpa using ht)) ?_ ?_ ?_
  ·by_cases r:q∈U.map (·.1)
   ·by_cases u:q∈t.wr
    ·rw[y,decide_eq_true u,Ch];cases D 0 with
     |true=>simp only[cond_true];rw[jq s sF r]
     |false=>exact H
    ·rw[y,decide_eq_false u,Ca];simp only[cond_false];cases O:D 0 with
     |true =>
      simp only[cond_true];rw[jq s I r,k3 q r u];exact (X (M 0 t U rfl rfl O u r).1).symm
     |false=>exact H
   ·have e:∀ (b:Bool) (x:St),(bif b then ac U x else x) q=x q:=by intro b x;cases b <;> simp[eN _ r]
    rw[e,e];exact H
  ·rintro⟨hB,O⟩;by_cases r:q∈U.map (·.1)
   ·by_cases u:q∈t.wr
    ·rw[y,decide_eq_true u,Ch,O u];simp only[cond_true];rw[jq sF I r]
    ·rw[y,decide_eq_false u,Ca];simp only[cond_false];rw[k3 q r u];exact X hB
   ·have e:∀ (b:Bool) (x:St),(bif b then ac U x else x) q=x q:=by intro b x;cases b <;> simp[eN _ r]
    rw[e,eN _ r];exact X hB
  ·intro j t' U' ht hU O u r;obtain⟨g1,g2⟩:=M (j+1) t' U' (by simpa using ht) (by simpa using hU) O u r;exact⟨⟨g1,λZ=>g2 0 t (by omega) rfl Z⟩,λk t2 hk Y a0=>g2 (k+1) t2 (by omega) (by simpa using Y) a0⟩
theorem rM {f:Nat->Nat}{i:Nat}:∀ (l:List Edge) (s:Nat),(l.foldl (λs e=>bif Region.binds .any e then s ||| 2 ^ e.on ||| f e.on else s) s).testBit i=true ->
  s.testBit i=true\/∃ e∈l,Region.binds .any e=true/\(i=e.on\/(f e.on).testBit i=true)
 |[],s,h=>.inl h
 |e::l,s,h=>by
  simp only[DD]at h;rcases rM l _ h with h|⟨z,u,y⟩
  ·cases r:Region.binds .any e with
   |false=>rw[r]at h;exact .inl h
   |true =>
    rw[r]at h;simp only[cond_true,Nat.testBit_or,CW]at h;rcases h with (h|h)|h
    ·exact .inl h
    ·refine .inr ⟨e,BM ..,r,.inl ?_⟩;rw[Nat.testBit_two_pow]at h;exact (of_decide_eq_true h).symm
    ·exact .inr ⟨e,BM ..,r,.inr h⟩
  ·exact .inr ⟨z,BL _ u,y⟩
theorem tT:∀ (z:List Oper) (r:List Nat),(∀ j,j<r.length->(jP z r).getD j 0=r.getD j 0) /\
  ∀ (k:Nat) (o:Oper),z[k]?=some o->∃ u:List Nat,u.length=r.length+k/\(∀ j,j<u.length->u.getD j 0=(jP z r).getD j 0) /\
   (jP z r).getD (r.length+k) 0=o.after.toList.foldl (λs e=>bif Region.binds .any e then s ||| 2 ^ e.on ||| u.getD e.on 0 else s) 0
 |[],r=>⟨λ_ _=>rfl,λk o h=>by simp at h⟩
 |o::z,r=>by
  obtain⟨I,Y⟩:=tT z (r++[o.after.toList.foldl (λs e=>bif Region.binds .any e then s ||| 2 ^ e.on ||| r.getD e.on 0 else s) 0]);have y:∀ j,j<r.length->(jP (o::z) r).getD j 0=r.getD j 0:=by
   intro j H;simp only[jP];rw[I j (by simp;omega)];simp[BV,CA H]
  refine⟨y,λk J h=>?_⟩;cases k with
  |zero =>
   simp at h;subst h;refine⟨r,rfl,λj H=>(y j H).symm,?_⟩;simp only[jP];rw[Nat.add_zero,I r.length (by simp)];simp[BV]
  |succ k =>
   obtain⟨u,M,O,X⟩:=Y k J (by simpa using h);refine⟨u,by simp at M;omega,λj H=>O j H,?_⟩;simp only[jP];have e:r.length+(k+1)=(r++[o.after.toList.foldl (λs e=>bif Region.binds .any e then s ||| 2 ^ e.on ||| r.getD e.on 0 else s) 0]).length+k:=by simp;omega
   rw[e];exact X
theorem jz {ops:Array Oper}{D:Nat->Prop}(z:∀ (j:Nat) (o:Oper),ops[j]?=some o->D j->∀ e∈o.after.toList,Region.binds .any e=true->D e.on) :
  ∀ (n j:Nat),j<n->∀ (o:Oper),ops[j]?=some o->(∀ e∈o.after.toList,Region.binds .any e=true->D e.on)->∀ i,((jP ops.toList []).getD j 0).testBit i=true->D i
 |0,_,h,_,_,_,_,_=>by omega
 |n+1,j,hj,o,X,M,i,O=>by
  obtain⟨r,Z,h2,I⟩:=(tT ops.toList []).2 j o (by simpa using X);simp only[List.length_nil,CQ]at Z I;rw[I]at O;rcases rM (f:=λk=>r.getD k 0) _ _ O with h|⟨e,Y,J,y⟩
  ·simp at h
  ·rcases y with rfl|y
   ·exact M e Y J
   ·have H:e.on<r.length:=by
     apply CB;intro hn;have:r.getD e.on 0=0:=by
      rw[BV,Cn (by omega)];rfl
     rw[this]at y;simp at y
    rw[h2 _ H]at y;have hD:=M e Y J;have u:e.on<ops.size:=by
     have:=(Cb.1 X).1;omega
    exact jz z n e.on (by omega) ops[e.on] (BS u) (z e.on _ (BS u) hD) i y
theorem fU {a b:List Nat}(h:lW a b=false){q:Nat}(u:q∈a):q∉b:=by
 intro r;unfold lW at h;rw[Cf]at h;have:=h q u;simp only[CV,not_exists,not_and]at this;exact this q r (by simp)
theorem lw {r:List Nat}{u:List cJ}(h:pv r u=true){i j:Nat}(z:i<j){x y:cJ}(O:u[i]?=some x)(J:u[j]?=some y):(r.getD j 0).testBit i=true\/x.apart y=true:=by
 unfold pv at h;rw[B6]at h;have M:=(BQ.1 J).1;have H:=h j (by simpa using M);rw[B6]at H;have I:=H i (by simpa using z);simp only[O,J,CW]at I;exact I
theorem qj {p p':Nat->Bool}{i:Nat}(I:p i=true)(r:p' i=false)(h:∀ j,j≠i->p' j=p j):∀ (l:List Nat),l.Nodup->i∈l->l.countP p'+1=l.countP p
 |[],_,H=>by simp at H
 |x::l,u,H=>by
  rw[CH]at u;by_cases z:x=i
  ·subst z;have e:l.countP p'=l.countP p:=by
    apply List.countP_congr;intro y J;rw[h y (λe=>u.1 (e ▸ J))]
   simp[I,r,e]
  ·have M:=qj I r h l u.2 ((BU.1 H).resolve_left (λe=>z e.symm));simp only[C9,h x z];omega
theorem Bx (hV:ax V)(hT:TOk P T)(hΓ:∀ c∈Γ,bN P c){ops:Array Oper}(ec:∀ (i:Nat) (o:Oper),ops[i]?=some o->bL V o)
  (bb:∀ (i:Nat) (o:Oper),ops[i]?=some o->∀ j cc,o.guard=some (j,cc)->∀ s,(ops[j]?).bind (·.dst)=some s->s<V.nt) {Q:Exit->Act->World->Prop}
  {us:List Upd} {ts:List cJ} {s0 s1:St} (a0:Run Γ T ops s0 ops.toList us ts s1) (a4:nK ops=true) (c1:pv (jP ops.toList []) ts=true) (hQ:∀ a w,Rel P V s1 a w->Q .normal a w) :
  ∀ (a2:Nat) (r:Array Bool) (a:Act) (w:World),r.size=ops.size->(DF ops.size).countP (λi=>!r.getD i true)=a2 ->
   (∀ (j:Nat) (o:Oper),ops[j]?=some o->r.getD j false=true->∀ e∈o.after.toList,Region.binds .any e=true->r.getD e.on false=true) ->
   Rel P V (de (λj=>r.getD j false) us s0) a w->wpAny P .any ops Q a2 r a w:=by
 obtain⟨ej,eg,cu⟩:=vu a0;have em:ops.toList.length=ops.size:=Cu;have bl:∀ (r:Array Bool),r.size=ops.size->Region.ready .any ops r=[]->∀ i,i<ops.size->r.getD i false=true:=by
  intro r a3 hr i;induction i using DE with
  |ind i ih =>
   intro hi;cases hl:r.getD i false with
   |true=>rfl
   |false =>
    exfalso;have e4:r.getD i true=false:=by
     rw[BT,BS (by omega)]at hl ⊢;exact hl
    have ho:ops[i]?=some ops[i]:=BS hi;have bn:i∈Region.ready .any ops r:=by
     unfold Region.ready;rw[CR];refine⟨by simpa using hi,?_⟩;rw[e4,ho];simp only[DG,Cy,B9,DA];rw[CT];intro e he;cases e7:Region.binds .any e with
     |false=>rfl
     |true =>
      simp only[Bool.not_true,Bool.false_or];have ba:e.on<i:=by
       unfold nK at a4;rw[B6]at a4;have:=a4 i (by simpa using hi);simp only[ho]at this;rw[B6]at this;have:=this e (by simpa using he);simpa[e7]using this
      exact ih e.on ba (by omega)
    rw[hr]at bn;simp at bn
 have bx:∀ (r:Array Bool) (a:Act) (w:World),r.size=ops.size->Rel P V (de (λj=>r.getD j false) us s0) a w->Region.ready .any ops r=[]->Q .normal a w:=by
  intro r a w a3 hr b9;refine hQ a w ?_;rw[cu];have:de (λ_=>true) us s0=de (λj=>r.getD j false) us s0:=mv (λj J=>(bl r a3 b9 j (by omega)).symm);rw[this];exact hr
 intro a2;induction a2 with
 |zero =>
  intro r a w a3 O b1 hr;have b9:Region.ready .any ops r=[]:=by
   unfold Region.ready;rw[List.filter_eq_nil_iff];intro i hi hc;rw[Cv]at O;have:=O i hi;simp only[BI]at hc;exact this hc.1
  exact⟨b9,bx r a w a3 hr b9⟩
 |succ a2 ih =>
  intro r a w a3 O b1 hr;refine⟨bx r a w a3 hr,λi hi=>?_⟩;unfold Region.ready at hi;rw[CR]at hi;obtain⟨b0,c3⟩:=hi;have b0:i<ops.size:=by simpa using b0
  have ho:ops[i]?=some ops[i]:=BS b0;rw[ho]at c3;simp only[BI,CK,B9,DA]at c3;obtain⟨b3,a9⟩:=c3;rw[CT]at a9;have X:r.getD i false=false:=by
   rw[BT,BS (by omega)]at b3 ⊢;exact b3
  have d1:∀ e∈(ops[i]).after.toList,Region.binds .any e=true->r.getD e.on false=true:=by
   intro e he hb;have:=a9 e (by simpa using he);simpa[hb]using this
  obtain⟨U,t,hU,ht,b5⟩:=qQ a0 i ops[i] (by simp);have b2:∀ (j:Nat) (o:Oper),ops[j]?=some o->(λk=>r.getD k false=true) j->∀ e∈o.after.toList,Region.binds .any e=true->(λk=>r.getD k false=true) e.on:=b1;obtain⟨ed,_,_⟩:=b5.1;have Y:∀ (j:Nat) (M:Upd),us[j]?=some M->∃ H,ts[j]?=some H/\(∀ q∈M.map (·.1),q∈H.wr\/q∈H.cw)/\∀ q∈H.wr,q∈M.map (·.1):=by
   intro j M J;have a5:j<ops.size:=by
    have:=(BQ.1 J).1;omega
   obtain⟨U2,t2,h1,Z,h3⟩:=qQ a0 j ops[j] (by simp[a5]);rw[J]at h1;cases h1;exact⟨t2,Z,h3.1.1,h3.1.2.1⟩
  have e0:∀ (j:Nat) (M:Upd),us[j]?=some M->j≠i->r.getD j false≠decide (j<i)->∃ H,ts[j]?=some H/\(∀ q∈M.map (·.1),q∈H.wr\/q∈H.cw)/\(H.apart t=true\/t.apart H=true):=by
   intro j M J ad u;obtain⟨H,h1,Z,_⟩:=Y j M J;refine⟨H,h1,Z,?_⟩;rcases Nat.lt_or_gt_of_ne ad with ba|eb
   ·have hl:r.getD j false=false:=by
     cases hl:r.getD j false with
     |false=>rfl
     |true=>rw[hl]at u;simp[ba]at u
    rcases lw c1 ba h1 ht with h3|h3
    ·have:=jz b2 (i+1) i (CP _) ops[i] ho d1 j h3;rw[hl]at this;cases this
    ·exact .inl h3
   ·have hl:r.getD j false=true:=by
     cases hl:r.getD j false with
     |true=>rfl
     |false=>rw[hl]at u;simp at u;omega
    have a5:j<ops.size:=by
     have:=(BQ.1 J).1;omega
    have b4:ops[j]?=some ops[j]:=BS a5;rcases lw c1 eb ht h1 with h3|h3
    ·have:=jz b2 (j+1) j (CP _) ops[j] b4 (b1 j _ b4 hl) i h3;rw[X]at this;cases this
    ·exact .inr h3
  have a1:∀ (x y:cJ),x.apart y=true->(∀ q,q∈x.wr\/q∈x.cw->(q∉y.wr/\q∉y.cw)/\q∉y.rd)/\(∀ q,q∈y.wr\/q∈y.cw->(q∉x.wr/\q∉x.cw)/\q∉x.rd)/\(∀ q∈x.wr,q∉y.hd)/\∀ q∈y.wr,q∉x.hd:=by
   intro x y h;unfold cJ.apart at h;simp only[BI,CK]at h;obtain⟨⟨⟨⟨h1,Z⟩,h3⟩,h4⟩,h5⟩:=h;refine⟨λq I=>?_,λq I=>?_,λq I=>fU h4 I,λq I hx=>fU h5 hx I⟩
   ·have I:=BH.2 I;have:=fU h1 I;simp only[BH,not_or]at this;exact⟨this,fU Z I⟩
   ·have I:=BH.2 I;have:q∉x.wr++x.cw:=λhx=>fU h1 hx I
    simp only[BH,not_or]at this;exact⟨this,λhx=>fU h3 hx I⟩
  have c0:∀ (j:Nat) (M:Upd),us[j]?=some M->j≠i->r.getD j false≠decide (j<i)->∀ q∈M.map (·.1),(q∉t.wr/\q∉t.cw)/\q∉t.rd:=by
   intro j M J ad u q I;obtain⟨H,_,h1,Z⟩:=e0 j M J ad u;rcases Z with Z|Z
   ·exact (a1 _ _ Z).1 q (h1 q I)
   ·exact (a1 _ _ Z).2.1 q (h1 q I)
  have c4:∀ (j:Nat) (H:cJ),ts[j]?=some H->j≠i->r.getD j false≠decide (j<i)->∀ q∈H.wr,q∉t.hd:=by
   intro j H J ad u q I;have a5:j<us.length:=by
    have:=(BQ.1 J).1;omega
   obtain⟨t2,h0,_,Z⟩:=e0 j us[j] (BX a5) ad u;rw[J]at h0;cases h0;rcases Z with Z|Z
   ·exact (a1 _ _ Z).2.2.1 q I
   ·exact (a1 _ _ Z).2.2.2 q I
  have cp:mu Γ T ops ops[i] (de (λj=>r.getD j false) us s0) U:=by
   refine b5.frame (λq I=>?_) (λq I=>?_)
   ·refine mw rfl λj M J d2=>?_
    by_cases z:j=i
    ·subst z;rw[X];simp
    ·apply CB;intro u;have:=c0 j M J z u q d2;rcases I with I|I
     ·exact this.2 I
     ·exact this.1.1 I
   ·have dd:∀ (j:Nat) (H:cJ),ts[j]?=some H->(λj=>match ts[j]? with|some H=>decide (q∈H.wr)|none=>false) j=decide (q∈H.wr):=λj H h=>by simp only[h]
    have e1:=qR (q:=q) (D:=λj=>r.getD j false) (F:=λj=>match ts[j]? with|some H=>decide (q∈H.wr)|none=>false) (s:=s0) (sF:=s0) (B:=True) a0 dd rfl (λ_=>rfl) (λj H M J hU hD hw d3=>by
     refine⟨trivial,λk t2 hk cb cx=>?_⟩;obtain⟨t3,h3,h4,_⟩:=Y j M hU;rw[J]at h3;cases h3;have e3:=(h4 q d3).resolve_left hw;have a5:j<ops.size:=by
      have:=(BQ.1 hU).1;omega
     have b4:ops[j]?=some ops[j]:=BS a5;rcases lw c1 hk cb J with h5|h5
     ·exact jz b2 (j+1) j (CP _) ops[j] b4 (b1 j _ b4 hD) k h5
     ·exact absurd e3 ((a1 _ _ h5).1 q (.inl cx)).1.2)
    have e2:=qR (q:=q) (D:=λj=>decide (j<i)) (F:=λj=>match ts[j]? with|some H=>decide (q∈H.wr)|none=>false) (s:=s0) (sF:=s0) (B:=True) a0 dd rfl (λ_=>rfl) (λj H M J hU hD hw d3=>by
     refine⟨trivial,λk t2 hk cb cx=>?_⟩;have:=of_decide_eq_true hD;exact decide_eq_true (by omega))
    rw[e1,e2];congr 1;refine mw rfl λj M J d2=>?_
    obtain⟨H,h1,Z,_⟩:=Y j M J;simp only[h1];by_cases hw:q∈H.wr
    ·rw[decide_eq_true hw,Ch,Ch];by_cases z:j=i
     ·subst z;rw[X];simp
     ·apply CB;intro u;exact c4 j H h1 z u q hw I
    ·rw[decide_eq_false hw,Ca,Ca]
  refine wI hV hT hΓ ho (ec i _ ho) (bb i _ ho) cp hr λa' w' e6=>?_
  have a6:∀ (b:Bool) (j:Nat),(r.setIfInBounds i true).getD j b=if j=i then true else r.getD j b:=by
   intro b j;simp only[BT,Array.getElem?_setIfInBounds];by_cases z:j=i
   ·subst z;simp[a3,b0]
   ·rw[if_neg (λe=>z e.symm),if_neg z]
  refine ih _ a' w' (by simpa using a3) ?_ ?_ ?_
  ·have:=qj (p:=λj=>!r.getD j true) (p':=λj=>!(r.setIfInBounds i true).getD j true) (i:=i) (by simp[b3]) (by simp[a6]) (λj J=>by simp[a6,J]) (DF ops.size) List.nodup_range (by simpa using b0);omega
  ·intro j o' J c2 e he hb;rw[a6]at c2 ⊢;by_cases cy:e.on=i
   ·rw[if_pos cy]
   ·rw[if_neg cy];by_cases z:j=i
    ·subst z;rw[ho]at J;cases J;exact d1 e he hb
    ·rw[if_neg z]at c2;exact b1 j o' J c2 e he hb
  ·have dc:=oF (U:=U) (us:=us) (i:=i) (D:=λj=>r.getD j false) (D':=λj=>(r.setIfInBounds i true).getD j false) (s:=s0) hU X (λj=>by
     simp only[a6];by_cases z:j=i
     ·subst z;simp
     ·have:BP j i=false:=by
       cases hb:BP j i with
       |false=>rfl
       |true=>exact absurd (BN hb) z
      simp[z,this])
    (λj M J ef hD q I e5=>by
     have:=c0 j M J (by omega) (by rw[hD];simp;omega) q e5;exact (ed q I).elim this.1.1 this.1.2)
   rw[dc];exact e6
theorem By (hV:ax V)(hT:TOk P T)(hΓ:∀ c∈Γ,bN P c)(J:P.follows .mixedOrders=true){id:Nat}{ops:Array Oper}{z:Bool}(O:∀ (i:Nat) (o:Oper),ops[i]?=some o->bL V o)
  (u:∀ (i:Nat) (o:Oper),ops[i]?=some o->∀ j X,o.guard=some (j,X)->∀ s,(ops[j]?).bind (·.dst)=some s->s<V.nt) {Q:Exit->Act->World->Prop} {κ:St->Option R} {r:R}
  (h:regK Γ T ops z st κ=some r) (hκ:∀ H,κ H=some r->∀ a w,Rel P V H a w->Q .normal a w) {a:Act} {w:World} (Y:Rel P V st a w):(Code.region id ops z).wp P Q a w:=by
 unfold regK at h;cases z with
 |true =>
  simp only[cond_true]at h;obtain⟨us,Z,H,y,I⟩:=pi _ _ _ _ _ h;simp only[CF]at I;cases M:nK ops&&pv (jP ops.toList []) Z with
  |false=>simp[M]at I
  |true =>
   simp only[M,cond_true]at I;simp only[BI]at M;refine wp_region_any J ?_;have hD:∀ j,(CI ops.size false).getD j false=false:=by
    intro j;simp only[BT,Ci];split <;> rfl
   refine Bx hV hT hΓ O u y M.1 M.2 (hκ H I) ops.size (CI ops.size false) a _ (by simp) ?_ ?_ ?_
   ·rw[List.countP_eq_length.2]
    ·simp
    ·intro i hi;have hi:i<ops.size:=by simpa using hi
     simp[BT,Ci,hi]
   ·intro j o' _ hl;rw[hD]at hl;cases hl
   ·rw[nE (λj=>hD j)];obtain⟨W,Y⟩:=Y;exact⟨W,Y.world hV (w':={ w with drawn:=w.drawn+1 }) (Cq _) rfl rfl rfl (λ_ _=>rfl)⟩
 |false =>
  simp only[cond_false]at h;obtain⟨us,Z,H,y,I⟩:=pi _ _ _ _ _ h;refine wp_region ?_;have:=vt hV hT hΓ O u ops.toList 0 st us Z H (by simp) y (hκ H I) a w Y;rw[Cu,<- List.range_eq_range']at this;exact this
end
section
variable {P:Program} {V:Env} {Γ:List Ctr} {T:TypeId->TI} {st st':St} {o:Oper} {R:Type} {all:Array Oper}
theorem kW (live:List Nat):∀ (cs:List Coe) (ls:List Leaf),(cZ st live cs ls).length=ls.length
 |[],[]=>rfl
 |_::_,[]=>rfl
 |[],_::ls=>by simp[cZ,kW live [] ls]
 |_::cs,_::ls=>by simp[cZ,kW live cs ls]
theorem pj (live:List Nat):∀ (cs:List Coe) (ls:List Leaf) (j:Nat) (l:Leaf),(cZ st live cs ls)[j]?=some l->∃ r,ls[j]?=some r/\(l=.dead\/∃ c,l=bu st live c r)
 |[],[],j,l,h=>by simp[cZ]at h
 |_::_,[],j,l,h=>by simp[cZ]at h
 |[],r::ls,0,l,h=>by simp[cZ]at h;exact⟨r,rfl,.inl h.symm⟩
 |c::cs,r::ls,0,l,h=>by simp[cZ]at h;exact⟨r,rfl,.inr ⟨c,h.symm⟩⟩
 |[],r::ls,j+1,l,h=>by
  simp only[cZ,Ck]at h;obtain⟨z,u,y⟩:=pj live [] ls j l h;exact⟨z,by simpa using u,y⟩
 |c::cs,r::ls,j+1,l,h=>by
  simp only[cZ,Ck]at h;obtain⟨z,u,y⟩:=pj live cs ls j l h;exact⟨z,by simpa using u,y⟩
theorem AN (live:List (Nat×List Coe))(q:Nat):lX live st q=bP.none/\q∉live.map (·.1)\/∃ y,lX live st q=⟨0,(st q).sh,cZ st (live.map (·.1)) y (st q).ls⟩/\q∈live.map (·.1):=by
 have J:∀ (u:List Nat) (l:List (Nat×List Coe)),(av (l.map λr=>(r.1,⟨0,(st r.1).sh,cZ st u r.2 (st r.1).ls⟩)) q=bP.none/\q∉l.map (·.1)) \/
   ∃ y,av (l.map λr=>(r.1,⟨0,(st r.1).sh,cZ st u r.2 (st r.1).ls⟩)) q=⟨0,(st q).sh,cZ st u y (st q).ls⟩/\q∈l.map (·.1):=by
  intro u l;induction l with
  |nil=>exact .inl ⟨rfl,by simp⟩
  |cons x l O =>
   obtain⟨r,y⟩:=x;by_cases h:q=r
   ·subst h;exact .inr ⟨y,by simp[av,ac],by simp⟩
   ·have z:BP q r=false:=by
     cases z:BP q r with
     |false=>rfl
     |true=>exact absurd (BN z) h
    rcases O with ⟨H,M⟩|⟨I,H,M⟩
    ·refine .inl ⟨?_,by simpa[h]using M⟩;rw[<- H];simp[av,ac,z]
    ·refine .inr ⟨I,?_,by simp only[B7,BU];exact .inr M⟩;rw[<- H];simp[av,ac,z]
 exact J (live.map (·.1)) live
theorem yh {keys:List Nat}{c:Coe}{r:Leaf}(h:am (bu st keys c r)):am r\/r=.nil:=by
 cases r with
 |own p u E e y=>exact .inl trivial
 |nil=>exact .inr rfl
 |_ =>
  exfalso;revert h;cases c <;> simp only[bu] <;> first
   |exact id
   |(cases (!_||_:Bool) <;> first | exact id | (split <;> exact id))
   |(cases (_&&_:Bool) <;> exact id)
   |(cases (List.any _ _:Bool) <;> exact id)
   |(cases (List.all _ _:Bool) <;> exact id)
theorem iM.nw {W W':Wit}{w:World}{c:Bool×Bool×(a:Ty)×a.den}{u:Value}(r:∀ k,W.nw k->W'.nw k)(h:iM V W w c u):iM V W' w c u:=by
 have z:∀ (p:Bool) k,gd V W p k->gd V W' p k:=λp k hk=>hk.imp (r k) id
 unfold iM at h ⊢;split at h
 ·rename_i H;rw[if_pos H];obtain⟨b,ob,g,O,X,I,Y,y,M,Z,J⟩:=h;exact⟨b,ob,g,O,X,I,Y.imp (r b) id,y,M.imp (r g) id,Rd.mono (z _) Z,J⟩
 ·rename_i H;rw[if_neg H];obtain⟨g,O,X,I,M,Z,J⟩:=h;exact⟨g,O,X,I,M.imp (r g) id,Rd.mono (z _) Z,J⟩
theorem wJ {W W':Wit}{w:World}{keys:List Nat}{bs bs':List Nat}{c:Coe}{M:Leaf}{v:Value}(h:aK P V W st w bs M v)
  (H:∀ k,W.nw k->W'.nw k) (hβ:W'.β=W.β) (a9:∀ q,keys.any (BP q)=true->W'.cs q=W.cs q) (I:∀ b,keys.any (BP b)=true->(st b).sh=.agg->(st' b).sh=.agg)
  (a2:am M->bs'=bs) (a3:M=.nil->bs'=[]) (a4:am M->¬ am (bu st keys c M)->(∃ p E e,c=.ro p E e)->∀ k∈bs,W'.nw k) :
  aK P V W' st' w bs' (bu st keys c M) v:=by
 have J:∀ (p q:Bool),(!q||p)=true->∀ k,gd V W q k->gd V W' p k:=by
  intro p q a5 k z;rcases z with z|⟨X,z⟩
  ·exact .inl (H k z)
  ·refine .inr ⟨?_,z⟩;subst X;simpa using a5
 cases c with
 |kill=>simp only[bu];trivial
 |keep =>
  cases M with
  |int k n=>exact h
  |bool b=>exact h
  |str s=>exact h
  |nil=>exact h
  |hdr n=>exact h
  |fn As B φ=>exact h
  |clr f O =>
   obtain⟨us,X,h2,h3⟩:=h;exact⟨us,X,h2,λi c u g1 g2=>(h3 i c u g1 g2).nw H⟩
  |al r j n =>
   simp only[bu];cases y:keys.any (BP r)&&BP (st r).ver n with
   |false=>trivial
   |true =>
    simp only[BI]at y;exact⟨DB _,λ_=>by rw[a9 r y.1];exact h.2 (BN y.2)⟩
  |bp b off =>
   simp only[bu];cases y:keys.any (BP b) with
   |false=>trivial
   |true =>
    obtain⟨X,h2,h3⟩:=h;exact⟨X,I b y h2,by rw[hβ];exact h3⟩
  |clo f O =>
   simp only[bu];cases y:O.all (λb=>keys.any (BP b)) with
   |false=>trivial
   |true =>
    obtain⟨X,h2⟩:=h;rw[B6]at y;exact⟨by rw[hβ];exact X,λb a1=>⟨(h2 b a1).1,I b (y b a1) (h2 b a1).2⟩⟩
  |_=>simp only[bu];trivial
 |own p E e =>
  cases M with
  |nil =>
   have Y:v=.slice none 0 0:=h;subst Y;rw[a3 rfl];exact OwH.nil w _ E e
  |own q hh E' e' xs =>
   cases hh with
   |some x=>simp only[bu];trivial
   |none =>
    simp only[bu];cases y:(!q||p) with
    |false=>trivial
    |true =>
     rw[a2 trivial];exact OwH.carry h (J p q y) (λ_ _=>rfl) (λ_ _=>rfl)
  |_=>simp only[bu];trivial
 |ro p E e =>
  cases M with
  |nil =>
   have Y:v=.slice none 0 0:=h;subst Y;exact Rd.nil w _ false E e
  |ro q E' e' xs =>
   simp only[bu];cases y:(!q||p) with
   |false=>trivial
   |true =>
    simp only[cond_true];split
    ·rename_i ys Z;exact Rd.castSh (m:=false) (m':=false) (E:=E) Z (Rd.mono (J p q y) h)
    ·trivial
  |own q hh E' e' xs =>
   cases hh with
   |some x=>simp only[bu];trivial
   |none =>
    have a6:=a4 trivial (by
     simp only[bu];cases (!q||p) with
     |false=>exact id
     |true=>simp only[cond_true];split <;> exact id) ⟨p,E,e,rfl⟩
    simp only[bu];cases y:(!q||p) with
    |false=>trivial
    |true =>
     simp only[cond_true];split
     ·rename_i ys Z;refine Rd.castSh (m:=false) (m':=false) (E:=E) (E':=E') Z (Rd.mono (λk z=>?_) (OwH.rd (m:=false) (E':=E') h));rcases z with z|z
      ·exact J p q y k z
      ·exact .inl (a6 k z)
     ·trivial
  |_=>simp only[bu];trivial
 |rp p =>
  cases M with
  |rpp q a x =>
   simp only[bu];cases y:(!q||p) with
   |false=>trivial
   |true =>
    obtain⟨b,ob,g,o',c,Y,ad,a0,hg,hr,Z⟩:=h;exact⟨b,ob,g,o',c,Y,ad.imp (H b) id,a0,hg.imp (H g) id,Rd.mono (J p q y) hr,Z⟩
  |rp q a x off =>
   simp only[bu];cases y:(!q||p) with
   |false=>trivial
   |true =>
    obtain⟨g,o',c,Y,hg,hr,Z⟩:=h;exact⟨g,o',c,Y,hg.imp (H g) id,Rd.mono (J p q y) hr,Z⟩
  |_=>simp only[bu];trivial
open Classical in
theorem vv (_hV:ax V){a:Act}{w:World}(h:Rel P V st a w)(live:List (Nat×List Coe))(ad:∀ x∈V.fixb,x.1∈live.map (·.1)):Rel P V (lX live st) a w:=by
 obtain⟨W,h⟩:=h;have J:=AN (st:=st) live;have Z:∀ b,Go.Proofs.YtaegajachoklkabGreatEv.live (lX live st) b->Go.Proofs.YtaegajachoklkabGreatEv.live st b:=by
  rintro b ⟨y,H⟩;rcases J b with ⟨e,_⟩|⟨cs,e,_⟩
  ·rw[e]at H;cases H
  ·rw[e]at H;exact⟨y,H⟩
 have a1:∀ (q j:Nat) (l:Leaf),(lX live st q).ls[j]?=some l->q∈live.map (·.1)/\∃ r,(st q).ls[j]?=some r/\(l=.dead\/∃ c,l=bu st (live.map (·.1)) c r):=by
  intro q j l Y;rcases J q with ⟨e,_⟩|⟨cs,e,z⟩
  ·rw[e]at Y;simp[bP.none]at Y
  ·rw[e]at Y;exact⟨z,pj _ _ _ _ _ Y⟩
 have b5:∀ (q j:Nat) (l:Leaf),(lX live st q).ls[j]?=some l->am l->∃ r,(st q).ls[j]?=some r/\(am r\/r=.nil):=by
  intro q j l Y ho;obtain⟨_,r,y,H⟩:=a1 q j l Y;rcases H with rfl|⟨c,rfl⟩
  ·exact ho.elim
  ·exact⟨r,y,yh ho⟩
 have a0:∀ b,(live.map (·.1)).any (BP b)=true->b∈live.map (·.1):=λb O=>by
  rw[CV]at O;obtain⟨x,hx,he⟩:=O;rw[BN he];exact hx
 let I:Nat->Nat->List Nat:=λq j=>if (∃ r,(st q).ls[j]?=some r/\am r) then W.bs q j else []
 let a2:Nat->Prop:=λk=>W.nw k\/∃ q j r l,(st q).ls[j]?=some r/\am r/\(lX live st q).ls[j]?=some l/\¬ am l/\k∈W.bs q j
 have X:∀ (q j k:Nat),k∈I q j->(∃ r,(st q).ls[j]?=some r/\am r)/\k∈W.bs q j:=by
  intro q j k M;by_cases hc:∃ r,(st q).ls[j]?=some r/\am r
  ·simp only[I,if_pos hc]at M;exact⟨hc,M⟩
  ·simp only[I,if_neg hc]at M;simp at M
 refine⟨{ β:=W.β,cs:=λq=>if q∈live.map (·.1) then W.cs q else [],bs:=I,nw:=a2 },?_⟩
 exact {
  nt:=h.nt,df:=h.df
  slots:=λt ht=>by
   rcases J t with ⟨e,z⟩|⟨cs,e,z⟩
   ·rw[e];simp[z,bP.none,d9]
   ·rw[e];simp only[z,if_true];exact h.slots t ht
  boxes:=λb O=>by
   rcases J b with ⟨e,z⟩|⟨cs,e,z⟩
   ·rw[e];exact .inl ⟨rfl,rfl⟩
   ·rw[e];rcases h.boxes b O with ⟨y,H⟩|⟨y,E,H⟩
    ·exact .inl ⟨y,by rw[H];exact List.eq_nil_of_length_eq_zero (by rw[kW];rfl)⟩
    ·exact .inr ⟨y,E,by simp only[z,if_true];exact H⟩
  len:=λq=>by
   rcases J q with ⟨e,z⟩|⟨cs,e,z⟩
   ·rw[e];simp[z,bP.none]
   ·rw[e];simp only[z,if_true,kW];exact h.len q
  one:=λq u hu=>by
   by_cases z:q∈live.map (·.1)
   ·simp only[z,if_true]at hu;exact h.one q u hu
   ·simp only[z,if_false]at hu;simp at hu
  leaf:=λq j l v Y hv=>by
   obtain⟨z,r,y,H⟩:=a1 q j l Y;simp only[z,if_true]at hv;have b2:=h.leaf q j r v y hv;rcases H with rfl|⟨c,rfl⟩
   ·trivial
   ·refine wJ (st:=st) (W:=W) (W':={ β:=W.β,cs:=λq=>if q∈live.map (·.1) then W.cs q else [],bs:=I,nw:=a2 }) (keys:=live.map (·.1)) b2 (λk M=>Or.inl M) rfl (λq hq=>if_pos (a0 q hq)) ?_ ?_ ?_ ?_
    ·intro b O b4;have b1:=a0 b O;rcases J b with ⟨_,a4⟩|⟨cs,e,_⟩
     ·exact absurd b1 a4
     ·rw[e];exact b4
    ·intro ho;show I q j=_;simp only[I,if_pos (⟨r,y,ho⟩:∃ r,(st q).ls[j]?=some r/\am r)]
    ·intro e;show I q j=_;have hc:¬ ∃ r,(st q).ls[j]?=some r/\am r:=by
      rintro⟨l1,h3,h4⟩;rw[y,e]at h3;cases h3;exact h4.elim
     simp only[I,if_neg hc]
    ·intro ho hn _ k M;exact .inr ⟨q,j,r,_,y,ho,Y,hn,M⟩
  ownb:=λq j l Y ho k M=>by
   obtain⟨⟨r,y,H⟩,h3⟩:=X q j k M;obtain⟨q1,q2,q3⟩:=h.ownb q j r y H k h3;refine⟨?_,q2,λb O=>q3 b (Z b O)⟩;rintro (hn|⟨q',j',l1,l2,h4,h5,h6,h7,h8⟩)
   ·exact q1 hn
   ·obtain⟨rfl,rfl⟩:=h.sep q j r q' j' l1 y H h4 h5 k h3 h8;rw[Y]at h6;cases h6;exact h7 ho
  sep:=λq j l q' j' l' _ _ _ _ k M b3=>by
   obtain⟨⟨r,y,H⟩,h3⟩:=X q j k M;obtain⟨⟨a5,a9,a6⟩,a3⟩:=X q' j' k b3;exact h.sep q j r q' j' a5 y H a9 a6 k h3 a3
  box:=λb O=>by
   obtain⟨q1,q2⟩:=h.box b (Z b O);refine⟨?_,q2⟩;rintro (hn|⟨q',j',l1,l2,h4,h5,h6,h7,h8⟩)
   ·exact q1 hn
   ·exact (h.ownb q' j' l1 h4 h5 _ h8).2.2 b (Z b O) rfl
  inj:=λb b' O b0=>h.inj b b' (Z b O) (Z b' b0)
  nwlt:=λk M=>by
   rcases M with hn|⟨q',j',l1,l2,h4,h5,h6,h7,h8⟩
   ·exact h.nwlt k hn
   ·exact⟨h.own_lt h4 h5 k h8,(h.ownb q' j' l1 h4 h5 k h8).2.1⟩
  os:=h.os,tape:=h.tape,output:=h.output,size:=h.size,keep:=h.keep
  fixb:=λx hx=>by
   obtain⟨⟨y,H⟩,h3⟩:=h.fixb x hx;refine⟨⟨y,?_⟩,h3⟩;rcases J x.1 with ⟨_,z⟩|⟨cs,e,_⟩
   ·exact absurd (ad x hx) z
   ·rw[e];exact H
  fixt:=h.fixt }
def exOf:Ex->Exit
 |.normal=>.normal
 |.exit id=>.exit id
 |.ret=>.ret
theorem my {nt:Nat}{fix:List Nat}(u:V.nt=nt)(r:∀ x∈V.fixt,x.1∈fix)(h:lC nt fix all o=true):bL V o:=by
 intro d H;simp only[lC,H,BI,CK,Cf]at h;obtain⟨⟨y,I⟩,_⟩:=h;refine⟨by rw[u];simpa[CS]using y,λx z e=>?_⟩;exact I _ (r x z) (by simp[e])
end
section
variable {P:Program} {V:Env} {Γ:List Ctr} {T:TypeId->TI} {R:Type}
open Classical in
theorem tU {Q:Exit->Act->World->Prop}{a:Act}{w:World}{c:Code}(J:Nat->Act->World->Prop)(h0:∃ n,J n a w)(hz:∀ a w,¬ J 0 a w)
  (y:∀ n a w,J (n+1) a w->c.wp P (Exit.then (J n) Q) a w):(Code.loop c).wp P Q a w:=by
 have u:∀ (a:Act) (w:World) (n:Nat),J n a w->∃ m,J m a w/\m<=n/\∀ k,J k a w->m<=k:=by
  intro a w n;induction n using DE with
  |ind n ih =>
   intro z;by_cases h:∃ k,k<n/\J k a w
   ·obtain⟨k,I,hJ⟩:=h;obtain⟨m,r,O,M⟩:=ih k I hJ;exact⟨m,r,by omega,M⟩
   ·refine⟨n,z,Cq _,λk I=>?_⟩;apply CB;intro a0;exact h ⟨k,by omega,I⟩
 let H:Act->World->Nat:=λa w=>if h:∃ m,J m a w/\∀ k,J k a w->m<=k then h.choose else 0
 have hμ:∀ a w n,J n a w->J (H a w) a w/\H a w<=n:=by
  intro a w n z;obtain⟨m,r,_,M⟩:=u a w n z;have h:∃ m,J m a w/\∀ k,J k a w->m<=k:=⟨m,r,M⟩;have e:H a w=h.choose:=by simp only[H];rw[dif_pos h]
  rw[e];exact⟨h.choose_spec.1,h.choose_spec.2 n z⟩
 refine wp_loop (λa w=>∃ n,J n a w) H h0 λa w ⟨n,z⟩=>?_
 obtain⟨r,_⟩:=hμ a w n z;cases X:H a w with
 |zero=>rw[X]at r;exact absurd r (hz a w)
 |succ m =>
  rw[X]at r;refine wp_mono (y m a w r) λe Z w' Y=>?_
  cases e with
  |normal =>
   have O:J m Z w':=Y;exact⟨⟨m,O⟩,Nat.lt_succ_of_le (hμ Z w' m O).2⟩
  |_=>exact Y
theorem zx {st:St}{a:Act}{w:World}(u:Rel P V st a w){t:Nat}(y:t<GH){b:Bool}(z:(st t).sh=.one)(I:(st t).ls=[.bool b]):a.eval (.tmp t)=.bool b:=by
 obtain⟨W,u⟩:=u;have r:=u.slots t y;rw[z]at r;have r:W.cs t=[a.tmps.getD t undef]:=r;have H:=u.leaf t 0 (.bool b) (a.tmps.getD t undef) (by rw[I];rfl) (by rw[r];rfl);exact H
theorem so (hV:ax V)(hT:TOk P T)(hΓ:∀ c∈Γ,bN P c)(a2:P.follows .mixedOrders=true){fx:List Nat}(a5:∀ x∈V.fixb,x.1∈fx){nt:Nat}{fix:List Nat}(a1:V.nt=nt)(a4:∀ x∈V.fixt,x.1∈fix)
  {L:List (Nat×List (Nat×List Coe))} {O:Nat}:∀ (c:Code),dK nt fix c=true->dj L fx c=true->∀ (st:St) (I:Ex->St->Option R) (r:R) (Q:Exit->Act->World->Prop),evK Γ T L O c st I=some r ->
   (∀ ex J,I ex J=some r->∀ a w,Rel P V J a w->Q (exOf ex) a w)->∀ a w,Rel P V st a w->c.wp P Q a w:=by
 intro c;induction c with
 |skip=>exact λ_ _ st I r Q h z a w u=>wp_skip (z .normal st h a w u)
 |region id a3 a6 =>
  intro hc hlp st I r Q h z a w u;simp only[dK,B6]at hc;have a0:∀ (i:Nat) (o:Oper),a3[i]?=some o->lC nt fix a3 o=true:=λi o hi=>hc o (by simpa using Co hi)
  refine By hV hT hΓ a2 (λi o hi=>my a1 a4 (a0 i o hi)) (λi o hi j a9 hg s hs=>?_) h (λJ H a w u=>z .normal J H a w u) u;have:=a0 i o hi;simp only[lC,hg,hs,BI]at this;rw[a1];simpa[CS]using this.2
 |seq x y Y Z =>
  intro hc hlp st I r Q h z a w u;simp only[dK,BI]at hc;simp only[dj,BI]at hlp;simp only[evK]at h;refine wp_seq (Y hc.1 hlp.1 st _ r _ h (λex J H a w u=>?_) a w u);cases ex with
  |normal=>exact Z hc.2 hlp.2 J I r Q H z a w u
  |exit id=>exact z (.exit id) J H a w u
  |ret=>exact z .ret J H a w u
 |cond t x y Y Z =>
  intro hc hlp st I r Q h z a w u;simp only[dK,BI]at hc;simp only[dj,BI]at hlp;simp only[evK]at h;unfold zF at h;split at h
  ·rename_i t;split at h
   ·rename_i b H h2;have hv:=zx u (C0 (by have:=hc.1.1;simp only[wO,CS]at this;rw[a1];exact this) hV.nt) H h2;cases b with
    |true =>
     simp only[cond_true]at h;rw[ph H h2]at h;exact wp_cond_true hv (Y hc.1.2 hlp.1 st I r Q h z a w u)
    |false =>
     simp only[cond_false]at h;rw[ph H h2]at h;exact wp_cond_false hv (Z hc.2 hlp.2 st I r Q h z a w u)
   ·cases h
  ·rename_i b;cases b with
   |true=>exact wp_cond_true rfl (Y hc.1.2 hlp.1 st I r Q h z a w u)
   |false=>exact wp_cond_false rfl (Z hc.2 hlp.2 st I r Q h z a w u)
  ·cases h
 |block id c ih =>
  intro hc hlp st I r Q h z a w u;simp only[dK]at hc;simp only[dj]at hlp;simp only[evK]at h;refine wp_block (ih hc hlp st _ r _ h (λex J H a w u=>?_) a w u);cases ex with
  |normal=>exact z .normal J H a w u
  |exit M =>
   simp only[sv]at H;show if M=id then Q .normal a w else Q (.exit M) a w
   by_cases e:M=id
   ·rw[if_pos e];subst e;simp only[Nat.beq_refl,cond_true]at H;exact z .normal J H a w u
   ·rw[if_neg e];have hb:BP M id=false:=by
     cases hb:BP M id with
     |false=>rfl
     |true=>exact absurd (BN hb) e
    rw[hb]at H;exact z (.exit M) J H a w u
  |ret=>exact z .ret J H a w u
 |loop c ih =>
  intro hc hlp st I r Q h z a w u;simp only[dK]at hc;simp only[dj,BI,B6]at hlp;simp only[evK]at h;have X:∀ x∈V.fixb,x.1∈(lB L (eV c)).map (·.1):=λx hx=>by
   obtain⟨r,u,he⟩:=CV.1 (hlp.1 x.1 (a5 x hx));exact BR.2 ⟨r,u,BN he⟩
  refine tU (λn a w=>∃ st,aW (lB L (eV c)) (evK Γ T L O c) n st I=some r/\Rel P V st a w) ⟨O,_,h,vv hV u _ X⟩ ?_ ?_
  ·rintro a w ⟨st,H,_⟩;cases H
  ·rintro n a w ⟨st,H,u⟩;simp only[aW]at H;refine ih hc hlp.2 st _ r _ H (λex J h2 a w u=>?_) a w u;cases ex with
   |normal=>exact⟨_,h2,vv hV u _ X⟩
   |exit id=>exact z (.exit id) J h2 a w u
   |ret=>exact z .ret J h2 a w u
 |exit id=>exact λ_ _ st I r Q h z a w u=>wp_exit (z (.exit id) st h a w u)
 |ret=>exact λ_ _ st I r Q h z a w u=>wp_ret (z .ret st h a w u)
 |_=>intro _ _ st I r Q h;simp[evK]at h
end
section
variable {P:Program} {Γ:List Ctr} {T:TypeId->TI} {R:Type} {w:World} {ro pr:Nat->Prop}
theorem ja {G:Nat->Prop}{p:Bool}:∀ {b:Ty} {h:Option Nat} {pos:Nat} {x:b.den} {cs:List Value} {bs:List Nat},Mx w G b h pos x cs bs->bs.Nodup ->
  ∃ a3:Nat->List Nat,
   (∀ (V:Env) (W:Wit) (st:St),(∀ k,G k->gd V W p k)->∀ (j:Nat) (l:Leaf) (u:Value),h≠some (pos+j)->(aq p b x)[j]?=some l->cs[j]?=some u->aK P V W st w (a3 j) l u) /\
   (∀ (j:Nat) (l:Leaf),h≠some (pos+j)->(aq p b x)[j]?=some l->am l->∀ k∈a3 j,k∈bs) /\
   (∀ (j J:Nat) (l l':Leaf),h≠some (pos+j)->h≠some (pos+J)->(aq p b x)[j]?=some l->am l->(aq p b x)[J]?=some l'->am l'->∀ k,k∈a3 j->k∈a3 J->j=J)
 |.int k,_,_,x,cs,bs,H,_=>by
  obtain⟨rfl,rfl⟩:=H;exact⟨λ_=>[],λV W st _ j l u _ y X=>by cases j with|zero=>simp[aq]at y X;subst y;subst X;rfl|succ j=>simp[aq]at y,λj l _ y _ k r=>by simp at r,λj J l l' _ _ _ _ _ _ k r=>by simp at r⟩
 |.bool,_,_,x,cs,bs,H,_=>by
  obtain⟨rfl,rfl⟩:=H;exact⟨λ_=>[],λV W st _ j l u _ y X=>by cases j with|zero=>simp[aq]at y X;subst y;subst X;rfl|succ j=>simp[aq]at y,λj l _ y _ k r=>by simp at r,λj J l l' _ _ _ _ _ _ k r=>by simp at r⟩
 |.str,_,_,x,cs,bs,H,_=>by
  obtain⟨rfl,rfl⟩:=H;exact⟨λ_=>[],λV W st _ j l u _ y X=>by cases j with|zero=>simp[aq]at y X;subst y;subst X;rfl|succ j=>simp[aq]at y,λj l _ y _ k r=>by simp at r,λj J l l' _ _ _ _ _ _ k r=>by simp at r⟩
 |.unit,_,_,x,cs,bs,H,_=>by
  obtain⟨rfl,rfl⟩:=H;exact⟨λ_=>[],λV W st _ j l u _ y X=>by simp[aq]at y,λj l _ y _ k r=>by simp at r,λj J l l' _ _ _ _ _ _ k r=>by simp at r⟩
 |.hdr,_,_,x,cs,bs,H,_=>by
  obtain⟨⟨A,a9,rfl⟩,rfl⟩:=H;exact⟨λ_=>[],λV W st _ j l u _ y X=>by cases j with|zero=>simp[aq]at y X;subst y;subst X;exact⟨A,a9,rfl⟩|succ j=>simp[aq]at y,λj l _ y _ k r=>by simp at r,λj J l l' _ _ _ _ _ _ k r=>by simp at r⟩
 |.pair b c,h,pos,x,cs,bs,⟨c1,c2,b1,b2,e1,e2,y,X⟩,Z=>by
  subst e1;subst e2;rw[CN]at Z;obtain⟨d1,f2,f3,f4⟩:=ja y Z.1;obtain⟨d2,g2,g3,g4⟩:=ja X Z.2.1;have b0:=cF p b x.1;have ad:=y.len;have I:∀ (j:Nat) (l:Leaf),(aq p b x.1++aq p c x.2)[j]?=some l->(j<b.cells/\(aq p b x.1)[j]?=some l)\/(b.cells<=j/\(aq p c x.2)[j-b.cells]?=some l):=by
   intro j l z;by_cases M:j<b.cells
   ·rw[CA (by omega)]at z;exact .inl ⟨M,z⟩
   ·rw[B8 (by omega),b0]at z;exact .inr ⟨by omega,z⟩
  have a1:∀ j,b.cells<=j->h≠some (pos+j)->h≠some (pos+b.cells+(j-b.cells)):=λj z hh=>by rwa [show pos+b.cells+(j-b.cells)=pos+j by omega]
  refine⟨λj=>if j<b.cells then d1 j else d2 (j-b.cells),λV W st hG j l u hh z hu=>?_,λj l hh z ho k r=>?_,λj J l l' hh a2 z ho Y a4 k r O=>?_⟩
  ·rcases I j l z with ⟨M,z⟩|⟨a0,z⟩
   ·rw[CA (by omega)]at hu;simp only[if_pos M];exact f2 V W st hG j l u hh z hu
   ·rw[B8 (by omega),ad]at hu;simp only[if_neg (show ¬ j<b.cells by omega)];exact g2 V W st hG _ l u (a1 j a0 hh) z hu
  ·rcases I j l z with ⟨M,z⟩|⟨a0,z⟩
   ·simp only[if_pos M]at r;exact BJ _ (f3 j l hh z ho k r)
   ·simp only[if_neg (show ¬ j<b.cells by omega)]at r;exact BK _ (g3 _ l (a1 j a0 hh) z ho k r)
  ·rcases I j l z with ⟨M,z⟩|⟨a0,z⟩ <;> rcases I J l' Y with ⟨a6,Y⟩|⟨a5,Y⟩
   ·simp only[if_pos M]at r;simp only[if_pos a6]at O;exact f4 j J l l' hh a2 z ho Y a4 k r O
   ·simp only[if_pos M]at r;simp only[if_neg (show ¬ J<b.cells by omega)]at O;exact absurd rfl (Z.2.2 k (f3 j l hh z ho k r) k (g3 _ l' (a1 J a5 a2) Y a4 k O))
   ·simp only[if_neg (show ¬ j<b.cells by omega)]at r;simp only[if_pos a6]at O;exact absurd rfl (Z.2.2 k (f3 J l' a2 Y a4 k O) k (g3 _ l (a1 j a0 hh) z ho k r))
   ·simp only[if_neg (show ¬ j<b.cells by omega)]at r;simp only[if_neg (show ¬ J<b.cells by omega)]at O;have:=g4 _ _ l l' (a1 j a0 hh) (a1 J a5 a2) z ho Y a4 k r O;omega
 |.list m E e,h,pos,xs,cs,bs,H,Z=>by
  cases m with
  |false =>
   rw[cm]at H;obtain⟨rfl,A,a9,rfl,X,h3⟩:=H;refine⟨λ_=>[],λV W st hG j l u _ y h4=>?_,λj l _ y _ k r=>by simp at r,λj J l l' _ _ _ _ _ _ k r=>by simp at r⟩;cases j with
   |zero =>
    simp[aq]at y h4;subst y;subst h4;exact Rd.mono hG (⟨A,a9,rfl,X,h3⟩:Rd w G (.list false E e) xs _)
   |succ j=>simp[aq]at y
  |true =>
   refine⟨λ_=>bs,λV W st hG j l u hh y h4=>?_,λj l _ y _ k r=>r,λj J l l' _ _ y _ h3 _ k _ _=>?_⟩
   ·cases j with
    |zero =>
     rw[Nat.add_zero]at hh;rw[bH hh]at H;obtain⟨v,rfl,hO⟩:=H;simp[aq]at y h4;subst y;subst h4;exact⟨Z,OwB.shy (hO.carry hG (λ_ _=>rfl) (λ_ _=>rfl))⟩
    |succ j=>simp[aq]at y
   ·have h7:j<1:=by simpa[aq]using (BQ.1 y).1
    have h8:J<1:=by simpa[aq]using (BQ.1 h3).1
    omega
theorem mz {p:Bool}{off:Nat}:∀ {a:Ty} {pos:Nat} {x:a.den} {E:TypeId} {e:Ty} {xs:List e.den},bc off a pos x=some ⟨E,e,xs⟩->(aq p a x)[off-pos]?=some (.own (p&&e.shy) none E e xs)
 |.pair a b,pos,x,E,e,xs,h=>by
  have H:=cF p a x.1;simp only[bc]at h;simp only[aq];split at h
  ·rename_i u z;simp only[BG]at h;subst h;have y:=gx z;rw[CA (by omega)];exact mz z
  ·have y:=gx h;rw[B8 (by omega),H,show off-pos-a.cells=off-(pos+a.cells) by omega];exact mz h
 |.list m J M,pos,I,E,e,xs,h=>by
  simp only[bc]at h;cases r:m&&BP pos off with
  |false=>simp[r]at h
  |true =>
   rw[r]at h;simp only[cond_true,BG,Sigma.mk.injEq]at h;obtain⟨rfl,h⟩:=h;simp only[BI]at r;obtain⟨rfl,r⟩:=r;have r:=BN r;subst r;rw[heq_eq_eq,Sigma.mk.injEq]at h;obtain⟨rfl,h⟩:=h;rw[heq_eq_eq]at h;subst h;simp[aq]
 |.int _,_,_,_,_,_,h=>by simp[bc]at h
 |.bool,_,_,_,_,_,h=>by simp[bc]at h
 |.str,_,_,_,_,_,h=>by simp[bc]at h
 |.unit,_,_,_,_,_,h=>by simp[bc]at h
 |.hdr,_,_,_,_,_,h=>by simp[bc]at h
theorem tV (V:Env)(W:Wit)(I:V.ro0=ro)(r:V.prot=pr):∀ {cs:List (Bool×Ty)} {x:lS cs} {us:List Value},jM w ro pr cs x us->us.length=(j0 true cs x).length /\
  ∀ (i:Nat) (c:Bool×Bool×(a:Ty)×a.den) (u:Value),(j0 true cs x)[i]?=some c->us[i]?=some u->iM V W w c u
 |[],_,us,h=>by
  have h:us=[]:=h;subst h;exact⟨rfl,λi c u z _=>by simp[j0]at z⟩
 |c::cs,x,us,⟨u,a0,e,z,h2⟩=>by
  subst e;obtain⟨i1,i2⟩:=tV V W I r h2;refine⟨by simp[j0,i1],λi c' u' J Y=>?_⟩;cases i with
  |succ i=>exact i2 i c' u' (by simpa[j0]using J) (by simpa using Y)
  |zero =>
   simp[j0]at J Y;subst J;subst Y;have hG:∀ k,ro k->gd V W true k:=λk hk=>.inr ⟨rfl,by rw[I];exact hk⟩
   unfold iM;unfold gQ at z;split at z
   ·rename_i H;simp only[H,if_true];obtain⟨b,ob,g,o,c2,M,Z,y,X,hr,O⟩:=z;exact⟨b,ob,g,o,c2,M,.inr (by rw[r];exact Z),y,.inr (by rw[r];exact X),hr.mono hG,O⟩
   ·rename_i H;have H:c.1=false:=by simpa using H
    simp only[H,CZ,if_false];obtain⟨g,o,c2,M,X,hr,O⟩:=z;exact⟨g,o,c2,by rw[M];rfl,.inr (by rw[r];exact X),hr.mono hG,O⟩
structure Ent where
 r:Nat
 c:bP
 cs:List Value
 bs:Nat->List Nat
 bl:List Nat
 g:Nat
structure qk (P:Program) (w:World) (ro pr:Nat->Prop) (bx:List (Nat×Nat)) (e:Ent):Prop where
 len:e.c.ls.length=e.cs.length
 one:∀ u∈e.cs,u.oneCell'=true
 leaf:∀ (V:Env) (W:Wit) (st:St),V.w0=w->V.ro0=ro->V.prot=pr->(∀ z∈bx,B0<=z.1/\(st z.1).sh=.agg/\W.β z.1=z.2)->∀ (j:Nat) (l:Leaf) (u:Value),e.c.ls[j]?=some l->e.cs[j]?=some u->aK P V W st w (e.bs j) l u
 own:∀ (j:Nat) (l:Leaf),e.c.ls[j]?=some l->am l->∀ k∈e.bs j,k∈e.bl
 sep:∀ (j j':Nat) (l l':Leaf),e.c.ls[j]?=some l->am l->e.c.ls[j']?=some l'->am l'->∀ k,k∈e.bs j->k∈e.bs j'->j=j'
 box:B0<=e.r->e.c.sh=.agg/\e.g∈e.bl/\(∀ (j:Nat) (l:Leaf),e.c.ls[j]?=some l->am l->e.g∉e.bs j)/\(∃ E,w.heap[e.g]?=some (.cells e.cs.toArray E (0,0)))/\(e.r,e.g)∈bx
theorem qk.mono {y r:List (Nat×Nat)}{e:Ent}(h:qk P w ro pr y e)(u:∀ z∈y,z∈r):qk P w ro pr r e :=
  { len:=h.len,one:=h.one,own:=h.own,sep:=h.sep
    leaf:=λV W J I X O h4=>h.leaf V W J I X O (λz H=>h4 z (u z H))
    box:=λhr=>by obtain⟨Z,M,q3,Y,q5⟩:=h.box hr;exact⟨Z,M,q3,Y,u _ q5⟩ }
structure wK (P:Program) (w:World) (ro pr:Nat->Prop) (t:Nat) (pk:PK) (v:Value) (b:List Nat) (bx:List (Nat×Nat)) (es:List Ent):Prop where
 bl:es.flatMap (·.bl)=b
 ok:∀ e∈es,qk P w ro pr bx e
 at_:∀ e∈es,e.r=t\/e.r=B0+t
 nod:(es.map (·.r)).Nodup
 slot:∃ e∈es,e.r=t/\d9 e.c.sh v e.cs
 bxs:∀ z∈bx,z.1=B0+t/\(∃ e∈es,e.r=B0+t/\e.g=z.2)
theorem tW (t n:Nat){a:Ty}{x:a.den}{v:Value}{cs:List Value}{b:List Nat}(I:b.Nodup)(h1:da a.isAgg v cs)(M:Mx w ro a none 0 x cs b)(a0:t<B0) :
    ∃ X,wK P w ro pr t (.own a) v b [] X/\[((t,⟨n,bg a.isAgg,aq true a x⟩):Nat×bP)]=X.map (λe=>(e.r,e.c)):=by
  obtain⟨J,m1,m2,m3⟩:=ja (P:=P) (p:=true) M I;have H:∀ j,(none:Option Nat)≠some (0+j):=λj=>by simp
  refine⟨[⟨t,⟨n,bg a.isAgg,aq true a x⟩,cs,J,b,0⟩],⟨by simp,?_,by simp,by simp,⟨_,B4 _,rfl,kk h1⟩,by simp⟩,rfl⟩;intro e Z;simp only[CG]at Z;subst Z
  exact { len := by show (aq true a x).length = _; rw [cF, M.len]
          one:=M.one
          leaf:=λV W st _ O _ _ j l u y z=>m1 V W st (λk hk=>.inr ⟨rfl,by rw[O];exact hk⟩) j l u (H j) y z
          own:=λj l y z=>m2 j l (H j) y z
          sep:=λj Y l l' y z h5 h6=>m3 j Y l l' (H j) (H Y) y z h5 h6
          box:=λhr=>absurd hr (by show ¬ B0<=t;omega) }
theorem nX (t:Nat){l:Leaf}{v:Value}{pk:PK}(a0:t<B0)(J:¬ am l)(h1:v.oneCell'=true)(z:∀ (V:Env) (W:Wit) (st:St),V.w0=w->V.ro0=ro->V.prot=pr->aK P V W st w [] l v) :
    ∃ Z,wK P w ro pr t pk v [] [] Z/\[((t,⟨0,.one,[l]⟩):Nat×bP)]=Z.map (λe=>(e.r,e.c)):=by
  refine⟨[⟨t,⟨0,.one,[l]⟩,[v],λ_=>[],[],0⟩],⟨by simp,?_,by simp,by simp,⟨_,B4 _,rfl,rfl⟩,by simp⟩,rfl⟩;intro e he;simp only[CG]at he;subst he;have X:∀ (j:Nat) (y:Leaf),[l][j]?=some y->j=0/\y=l:=λj y M=>by
    cases j with
    |zero=>simp at M;exact⟨rfl,M.symm⟩
    |succ j=>simp at M
  exact { len := rfl
          one:=λu hu=>by simp at hu;subst hu;exact h1
          leaf:=λV W st hw Y O _ j y u I H=>by
            obtain⟨rfl,rfl⟩:=X j y I;simp at H;subst H;exact z V W st hw Y O
          own:=λj y I H=>by obtain⟨_,rfl⟩:=X j y I;exact absurd H J
          sep:=λj j' l1 l2 I H=>by obtain⟨_,rfl⟩:=X j l1 I;exact absurd H J
          box:=λhr=>absurd hr (by show ¬ B0<=t;omega) }
def tX:Value->Nat
 |.pointer (some a)=>a.block
 |_=>0
def d6 (t:Nat):List PK->List Value->List (Nat×Nat)
 |.iop _::r,v::u=>(B0+t,tX v)::d6 (t+1) r u
 |_::r,_::u=>d6 (t+1) r u
 |_,_=>[]
def d7 (t:Nat):List PK->List Value->List (Nat×Value)
 |.io _::r,v::u=>(t,v)::d7 (t+1) r u
 |.iop _::r,v::u=>(t,v)::d7 (t+1) r u
 |_::r,_::u=>d7 (t+1) r u
 |_,_=>[]
def PK.bx (t:Nat)(v:Value):PK->List (Nat×Nat)
 |.iop _=>[(B0+t,tX v)]
 |_=>[]
theorem Bz (t:Nat)(a1:t<B0){pk:PK}{ps:List PK}{x:ab (pk::ps)}{v:Value}{b:List Nat}(a0:b.Nodup)(h:nU P w ro pr pk x.1 v b) :
    ∃ es,wK P w ro pr t pk v b (pk.bx t v) es/\c5 t (pk::ps) x=es.map (λe=>(e.r,e.c))++c5 (t+1) ps x.2:=by
  cases pk with
  |rd a =>
    obtain⟨rfl,cs,h1,h2⟩:=h;refine⟨[⟨t,⟨0,bg a.isAgg,cG true a x.1⟩,cs,λ_=>[],[],0⟩],⟨by simp,?_,by simp,by simp,⟨_,B4 _,rfl,kk h1⟩,by simp[PK.bx]⟩,rfl⟩;intro e he;simp only[CG]at he;subst he;have b4:∀ (V:Env) (W:Wit) (st:St),V.ro0=ro->aB P V W st w (cG true a x.1) cs:=λV W st J=>e9 (G:=ro) (λk I=>.inr ⟨rfl,by rw[J];exact I⟩) h2
    have b2:∀ (j:Nat) (l:Leaf),(cG true a x.1)[j]?=some l->¬ am l:=λj l M=>by
      have hl:=gJ true a x.1;have hc:=h2.len;have c1:=(BQ.1 M).1;exact ((b4 ⟨w,ro,[],0,[],[]⟩ ⟨λ_=>0,λ_=>[],λ_ _=>[],λ_=>False⟩ (λ_=>bP.none) rfl).at_ j l _ M (BX (by omega))).2.1
    exact { len := by show (cG true a x.1).length = _; rw [gJ, h2.len]
            one:=h2.one
            leaf:=λV W st _ J _ _ j l u y H=>((b4 V W st J).at_ j l u y H).1
            own:=λj l y H=>absurd H (b2 j l y)
            sep:=λj j' l l' y H=>absurd H (b2 j l y)
            box:=λhr=>absurd hr (by show ¬ B0<=t;omega) }
  |own a =>
    obtain⟨cs,h1,h2⟩:=h;obtain⟨es,y,H⟩:=tW (P:=P) (pr:=pr) t 0 a0 h1 h2 a1;exact⟨es,⟨y.bl,y.ok,y.at_,y.nod,y.slot,y.bxs⟩,by rw[<- H];rfl⟩
  |io a =>
    obtain⟨cs,h1,h2⟩:=h;obtain⟨es,y,H⟩:=tW (P:=P) (pr:=pr) t 7 a0 h1 h2 a1;exact⟨es,⟨y.bl,y.ok,y.at_,y.nod,y.slot,y.bxs⟩,by rw[<- H];rfl⟩
  |rref a =>
    obtain⟨rfl,h⟩:=h;unfold gQ at h;rw[if_neg (by simp)]at h;obtain⟨g,o,c,hv,hg,hr,hc⟩:=h;subst hv;obtain⟨es,y,H⟩:=nX (P:=P) (w:=w) (ro:=ro) (pr:=pr) t (pk:=.rref a) (l:=.rp true a x.1 0) (v:=.pointer (some ⟨g,o,none⟩)) a1 id rfl (λV W st hw J O=>⟨g,o,c,rfl,.inr (by rw[O];exact hg),hr.mono (λk I=>.inr ⟨rfl,by rw[J];exact I⟩),hc⟩);exact⟨es,y,by rw[<- H];rfl⟩
  |rref2 a =>
    obtain⟨rfl,h⟩:=h;unfold gQ at h;rw[if_pos rfl]at h;obtain⟨b,ob,g,o,c,hv,hb,a6,hg,hr,hc⟩:=h;subst hv;obtain⟨es,y,H⟩:=nX (P:=P) (w:=w) (ro:=ro) (pr:=pr) t (pk:=.rref2 a) (l:=.rpp true a x.1) (v:=.pointer (some ⟨b,ob,none⟩)) a1 id rfl (λV W st hw J O=>⟨b,ob,g,o,c,rfl,.inr (by rw[O];exact hb),a6,.inr (by rw[O];exact hg),hr.mono (λk I=>.inr ⟨rfl,by rw[J];exact I⟩),hc⟩);exact⟨es,y,by rw[<- H];rfl⟩
  |fn As B =>
    obtain⟨rfl,h⟩:=h;have bn:v.oneCell'=true:=by
      obtain⟨f,c0,e,_⟩:=h;rw[e];rfl
    obtain⟨es,y,H⟩:=nX (P:=P) (w:=w) (ro:=ro) (pr:=pr) t (pk:=.fn As B) (l:=.fn As B x.1) (v:=v) a1 id bn (λV W st hw J O=>by
      show ii P V.w0 V.prot As B x.1 v;rw[hw,O];exact h)
    exact⟨es,y,by rw[<- H];rfl⟩
  |clo f cs =>
    obtain⟨rfl,us,e,h⟩:=h;subst e;obtain⟨es,y,H⟩:=nX (P:=P) (w:=w) (ro:=ro) (pr:=pr) t (pk:=.clo f cs) (l:=.clr f (j0 true cs x.1)) (v:=.func (.func f) #[] us.toArray) a1 id rfl (λV W st hw J O=>by
      obtain⟨i1,i2⟩:=tV V W J O h;exact⟨us,rfl,i1,i2⟩)
    exact⟨es,y,by rw[<- H];rfl⟩
  |iop a =>
    obtain⟨g,c,E,b0,hv,hg,hm,rfl⟩:=h;subst hv;rw[CH]at a0;obtain⟨a5,m1,m2,m3⟩:=ja (P:=P) (p:=true) hm a0.2;have hn:∀ j,(none:Option Nat)≠some (0+j):=λj=>by simp
    have Y:t≠B0+t:=by simp[B0]
    refine⟨[⟨t,⟨0,.one,[.bp (B0+t) 0]⟩,[.pointer (some ⟨g,0,none⟩)],λ_=>[],[],0⟩,⟨B0+t,⟨0,.agg,aq true a x.1⟩,c,a5,g::b0,g⟩],
      ⟨by simp,?_,λe he=>by simp at he;rcases he with rfl|rfl <;> simp,by rw[B7,B7,DH,CH];exact⟨by simpa using Y,by simp⟩,⟨_,BM ..,rfl,rfl⟩,λz hz=>?_⟩,rfl⟩
    · intro e he
      simp only[BU,List.not_mem_nil,or_false]at he;rcases he with rfl|rfl
      · have h0:∀ (j:Nat) (l':Leaf),[Leaf.bp (B0+t) 0][j]?=some l'->j=0/\l'=.bp (B0+t) 0:=λj l' M=>by
          cases j with
          |zero=>simp at M;exact⟨rfl,M.symm⟩
          |succ j=>simp at M
        exact { len := rfl
                one:=λu hu=>by simp at hu;subst hu;rfl
                leaf:=λV W st hw J O hb j l' u y H=>by
                  obtain⟨rfl,rfl⟩:=h0 j l' y;simp at H;subst H;obtain⟨q1,q2,q3⟩:=hb (B0+t,g) (B4 _);exact⟨q1,q2,by rw[q3]⟩
                own:=λj l' y H=>by obtain⟨_,rfl⟩:=h0 j l' y;exact H.elim
                sep:=λj j' l1 l2 y H=>by obtain⟨_,rfl⟩:=h0 j l1 y;exact H.elim
                box:=λhr=>absurd hr (by show ¬ B0<=t;omega) }
      · exact { len := by show (aq true a x.1).length = _; rw [cF, hm.len]
                one:=hm.one
                leaf:=λV W st _ J _ _ j l u y H=>m1 V W st (λk I=>.inr ⟨rfl,by rw[J];exact I⟩) j l u (hn j) y H
                own:=λj l y H k I=>BL _ (m2 j l (hn j) y H k I)
                sep:=λj j' l l' y H h5 h6=>m3 j j' l l' (hn j) (hn j') y H h5 h6
                box:=λ_=>⟨rfl,BM ..,λj l y H I=>a0.1 (m2 j l (hn j) y H g I),⟨E,hg⟩,B4 _⟩ }
    · simp only[PK.bx,CG]at hz
      subst hz;exact⟨rfl,_,BL _ (B4 _),rfl,rfl⟩
  |hol a c off =>
    obtain⟨cs,u,b0,b1,E,e,xs,h1,h2,y,H,h5,h6⟩:=h;have a2:=bt.1 a0;have ad:b0.Nodup:=bt.2 λk=>by have:=a2 k;have:=h6 k;omega
    have b5:b1.Nodup:=bt.2 λk=>by have:=a2 k;have:=h6 k;omega
    have a4:∀ k,k∈b0->k∉b1:=λk I Z=>by
      have:=a2 k;have:=h6 k;have:=B5.2 I;have:=B5.2 Z;omega
    have a9:∀ k∈b0,k∈b:=λk I=>B5.1 (by have:=h6 k;have:=B5.2 I;omega)
    have b9:∀ k∈b1,k∈b:=λk I=>B5.1 (by have:=h6 k;have:=B5.2 I;omega)
    obtain⟨a5,m1,m2,m3⟩:=ja (P:=P) (p:=true) h2 ad;have Y:∀ j,j≠c->(some c:Option Nat)≠some (0+j):=λj M=>by simp;omega
    have b3:=mz (p:=true) H;rw[Nat.sub_zero]at b3;have bb:(aq true a x.1.1).getD c .dead=.own (true&&e.shy) none E e xs:=by rw[BV,b3];rfl
    refine⟨[⟨t,⟨0,bg a.isAgg,aT (aq true a x.1.1) c (.own (true&&e.shy) (some (x.1.2,off)) E e xs)⟩,cs,λj=>if j=c then b1 else a5 j,b,0⟩],
      ⟨by simp,?_,by simp,by simp,⟨_,B4 _,rfl,kk h1⟩,by simp[PK.bx]⟩,?_⟩
    · intro en he
      simp only[CG]at he;subst he;have X:∀ (j:Nat) (l:Leaf),(aT (aq true a x.1.1) c (.own (true&&e.shy) (some (x.1.2,off)) E e xs))[j]?=some l->(j=c/\l=.own (true&&e.shy) (some (x.1.2,off)) E e xs)\/(j≠c/\(aq true a x.1.1)[j]?=some l):=by
        intro j l M;rcases aS _ _ _ _ _ M with ⟨q1,q2,_⟩|⟨q1,q2⟩
        · exact .inl ⟨q1,q2⟩
        · exact .inr ⟨q1,q2⟩
      exact { len := by show (aT (aq true a x.1.1) c _).length = _; simp only [aT, List.length_set]; rw [cF, h2.len]
              one:=h2.one
              leaf:=λV W st _ J _ _ j l u' h7 h8=>by
                have h8:cs[j]?=some u':=h8;rcases X j l h7 with ⟨rfl,rfl⟩|⟨M,h7⟩
                · rw[y]at h8
                  simp only[BG]at h8;subst h8;simp only[if_true];exact⟨b5,OwB.shy (p:=true) (h5.carry (λk I=>.inr ⟨rfl,by rw[J];exact I⟩) (λ_ _=>rfl) (λ_ _=>rfl))⟩
                · simp only[if_neg M]
                  exact m1 V W st (λk I=>.inr ⟨rfl,by rw[J];exact I⟩) j l u' (Y j M) h7 h8
              own:=λj l h7 h8 k I=>by
                rcases X j l h7 with ⟨rfl,rfl⟩|⟨M,h7⟩
                · simp only[if_true]at I;exact b9 k I
                · simp only[if_neg M]at I;exact a9 k (m2 j l (Y j M) h7 h8 k I)
              sep:=λj j' l l' h7 h8 h9 ba k I Z=>by
                rcases X j l h7 with ⟨rfl,rfl⟩|⟨M,h7⟩ <;> rcases X j' l' h9 with ⟨rfl,rfl⟩|⟨a3,h9⟩
                · rfl
                · simp only[if_true]at I;simp only[if_neg a3]at Z
                  exact absurd I (a4 k (m2 j' l' (Y j' a3) h9 ba k Z))
                · simp only[if_neg M]at I;simp only[if_true]at Z
                  exact absurd Z (a4 k (m2 j l (Y j M) h7 h8 k I))
                · simp only[if_neg M]at I;simp only[if_neg a3]at Z
                  exact m3 j j' l l' (Y j M) (Y j' a3) h7 h8 h9 ba k I Z
              box:=λhr=>absurd hr (by show ¬ B0<=t;omega) }
    · show (t,(⟨0,bg a.isAgg,aT (aq true a x.1.1) c (uO x.1.2 off ((aq true a x.1.1).getD c .dead))⟩:bP))::c5 (t+1) ps x.2=_
      rw[bb];rfl
theorem tY:∀ {ps:List PK} {x:ab ps} {u:List Value} {r:List (List Nat)},c8 P w ro pr ps x u r->u.length=ps.length
 |[],_,_,_,h=>by rw[h.1];rfl
 |_::_,_,_,_,⟨_,_,_,_,e,_,_,h⟩=>by rw[e,CM,CM,tY h]
theorem vw:∀ (ps:List PK) (x:ab ps) (Z:List Value) (H:List (List Nat)) (t:Nat),c8 P w ro pr ps x Z H->H.flatten.Nodup->t+ps.length<=B0 ->
  ∃ O:List Ent,c5 t ps x=O.map (λe=>(e.r,e.c))/\O.flatMap (·.bl)=H.flatten/\(∀ e∈O,qk P w ro pr (d6 t ps Z) e) /\
   (∀ e∈O,(t<=e.r/\e.r<t+ps.length)\/(B0+t<=e.r/\e.r<B0+t+ps.length))/\(O.map (·.r)).Nodup /\
   (∀ (i:Nat) (v:Value),Z[i]?=some v->∃ e∈O,e.r=t+i/\d9 e.c.sh v e.cs)/\(∀ z∈d6 t ps Z,∃ e∈O,e.r=z.1/\e.g=z.2/\B0<=z.1)
 |[],x,Z,H,t,⟨e1,e2⟩,_,_=>by
  subst e1;subst e2;exact⟨[],rfl,rfl,by simp,by simp,by simp,λi v h=>by simp at h,by simp[d6]⟩
 |pk::ps,x,Z,H,t,⟨v,M,b,a1,e1,e2,h1,h2⟩,J,hB=>by
  subst e1;subst e2;rw[BW,CN]at J;simp only[CM]at hB;obtain⟨a2,X,p2⟩:=Bz t (by omega) (ps:=ps) (x:=x) J.1 h1;obtain⟨a5,q1,q2,q3,q4,q5,q6,q7⟩:=vw ps x.2 M a1 (t+1) h2 J.2.1 (by omega);have a0:d6 t (pk::ps) (v::M)=pk.bx t v++d6 (t+1) ps M:=by cases pk <;> rfl
  refine⟨a2++a5,by rw[p2,q1,CX],by rw[List.flatMap_append,X.bl,q2,BW],λe y=>?_,λe y=>?_,?_,λi u hi=>?_,λz I=>?_⟩
  ·rw[a0];rcases BH.1 y with y|y
   ·exact (X.ok e y).mono (λz I=>BJ _ I)
   ·exact (q3 e y).mono (λz I=>BK _ I)
  ·simp only[CM];rcases BH.1 y with y|y
   ·rcases X.at_ e y with h|h <;> omega
   ·rcases q4 e y with h|h <;> omega
  ·rw[CX,CN];refine⟨X.nod,q5,λa ha b' a3 e0=>?_⟩;subst e0;obtain⟨e,y,rfl⟩:=BR.1 ha;obtain⟨e',a4,e1⟩:=BR.1 a3;rcases X.at_ e y with h|h <;> rcases q4 e' a4 with h'|h' <;> omega
  ·cases i with
   |zero =>
    simp at hi;subst hi;obtain⟨e,y,h3,Y⟩:=X.slot;exact⟨e,BJ _ y,by omega,Y⟩
   |succ i =>
    obtain⟨e,y,h3,Y⟩:=q6 i u (by simpa using hi);exact⟨e,BK _ y,by omega,Y⟩
  ·rw[a0]at I;rcases BH.1 I with I|I
   ·obtain⟨h3,e,y,Y,h5⟩:=X.bxs z I;exact⟨e,BJ _ y,by rw[Y,h3],h5,by rw[h3];exact Nat.le_add_right _ _⟩
   ·obtain⟨e,y,Y,h5,h6⟩:=q7 z I;exact⟨e,BK _ y,Y,h5,h6⟩
def ge (w:World)(ro:Nat->Prop)(ps:List PK)(u:List Value)(r:List (List Nat))(nt:Nat):Env:=⟨w,ro,r.flatten,nt,d6 0 ps u,d7 0 ps u⟩
theorem nY:∀ {J:List Ent},(J.flatMap (·.bl)).Nodup->∀ e∈J,∀ H∈J,∀ k,k∈e.bl->k∈H.bl->e=H
 |[],_,e,M,_,_,_,_,_=>by simp at M
 |x::J,r,e,M,H,O,k,I,u=>by
  rw[List.flatMap_cons,CN]at r;rcases BU.1 M with y|y <;> rcases BU.1 O with z|z
  ·rw[y,z]
  ·rw[y]at I;exact absurd rfl (r.2.2 k I k (BZ.2 ⟨H,z,u⟩))
  ·rw[z]at u;exact absurd rfl (r.2.2 k u k (BZ.2 ⟨e,y,I⟩))
  ·exact nY r.2.1 e y H z k I u
theorem yi:∀ {I:List Ent},(I.map (·.r)).Nodup->∀ e∈I,∀ H∈I,e.r=H.r->e=H
 |[],_,e,M,_,_,_=>by simp at M
 |x::I,u,e,M,H,O,J=>by
  rw[B7,CH]at u;rcases BU.1 M with y|y <;> rcases BU.1 O with z|z
  ·rw[y,z]
  ·exact absurd (BR.2 ⟨H,z,by rw[<- J,y]⟩) u.1
  ·exact absurd (BR.2 ⟨e,y,by rw[J,z]⟩) u.1
  ·exact yi u.2 e y H z J
theorem rN:∀ (u:List Ent) (q:Nat),(av (u.map λe=>(e.r,e.c)) q=bP.none/\u.find? (λe=>e.r==q)=none)\/∃ e∈u,e.r=q/\u.find? (λe=>e.r==q)=some e/\av (u.map λe=>(e.r,e.c)) q=e.c
 |[],q=>.inl ⟨rfl,rfl⟩
 |e::u,q=>by
  by_cases h:e.r=q
  ·refine .inr ⟨e,BM ..,h,by simp[h],?_⟩;simp[av,ac,h]
  ·have y:BP q e.r=false:=by
    cases y:BP q e.r with
    |false=>rfl
    |true=>exact absurd (BN y).symm h
   have M:av ((e::u).map λe=>(e.r,e.c)) q=av (u.map λe=>(e.r,e.c)) q:=by simp[av,ac,y]
   have I:(e::u).find? (λe=>e.r==q)=u.find? (λe=>e.r==q):=by simp[h]
   rw[M,I];rcases rN u q with z|⟨X,z,O,H,J⟩
   ·exact .inl z
   ·exact .inr ⟨X,BL _ z,O,H,J⟩
theorem vz:∀ {ps:List PK} {r:List Value} {t:Nat} {z:Nat×Value},z∈d7 t ps r->∃ i,z.1=t+i/\r[i]?=some z.2
 |[],_,_,_,h=>by simp[d7]at h
 |u::ps,[],_,_,h=>by cases u <;> simp[d7]at h
 |u::ps,v::r,t,z,h=>by
  have:z=(t,v)\/z∈d7 (t+1) ps r:=by cases u <;> simp[d7]at h <;> first|exact h|exact .inr h
  rcases this with rfl|h
  ·exact⟨0,rfl,rfl⟩
  ·obtain⟨i,H,y⟩:=vz h;exact⟨i+1,by omega,by simpa using y⟩
theorem vA {ps:List PK}{x:ab ps}{O:List Value}{J:List (List Nat)}{nt:Nat}(h:c8 P w ro (λk=>k<w.heap.size/\k∉J.flatten) ps x O J)(a2:J.flatten.Nodup)
  (cb:ps.length<=nt) (hB:nt<=GH):Rel P (ge w ro ps O J nt) (av (c5 0 ps x)) { tmps:=O.toArray++CI (nt-O.length) undef,defers:=[] } w:=by
 have c3:=tY h;have c4:GH<=B0:=by decide
 obtain⟨Y,q1,q2,q3,q4,q5,q6,q7⟩:=vw ps x O J 0 h a2 (by omega);rw[q1];have b3:=rN Y;have a3:∀ e∈Y,∀ H∈Y,e.r=H.r->e=H:=by
  intro e he H c2 hr;exact yi q5 e he H c2 hr
 rw[<- q2]at a2;have a1:∀ e∈Y,∀ k∈e.bl,k∈J.flatten:=λe he k Z=>by rw[<- q2];exact BZ.2 ⟨e,he,Z⟩
 have hE:∀ q,(av (Y.map λe=>(e.r,e.c)) q=bP.none/\Y.find? (λe=>e.r==q)=none)\/∃ e∈Y,e.r=q/\Y.find? (λe=>e.r==q)=some e/\av (Y.map λe=>(e.r,e.c)) q=e.c:=b3;have a0:∀ q,live (av (Y.map λe=>(e.r,e.c))) q->∃ e∈Y,e.r=q/\B0<=e.r/\Y.find? (λe=>e.r==q)=some e:=by
  rintro q ⟨h1,h2⟩;rcases hE q with ⟨I,_⟩|⟨e,I,y,h5,M⟩
  ·rw[I]at h2;cases h2
  ·exact⟨e,I,y,by rw[y];exact h1,h5⟩
 let β:Nat->Nat:=λq=>match Y.find? (λe=>e.r==q) with|some e=>e.g|none=>0
 let cs:Nat->List Value:=λq=>match Y.find? (λe=>e.r==q) with|some e=>e.cs|none=>[]
 let bs:Nat->Nat->List Nat:=λq j=>match Y.find? (λe=>e.r==q) with|some e=>e.bs j|none=>[]
 have a9:∀ z∈d6 0 ps O,B0<=z.1/\(av (Y.map λe=>(e.r,e.c)) z.1).sh=.agg/\β z.1=z.2:=by
  intro z hz;obtain⟨e,he,h1,h2,I⟩:=q7 z hz;refine⟨I,?_⟩;rcases hE z.1 with ⟨_,y⟩|⟨H,y,h5,M,h7⟩
  ·exfalso;rw[C3]at y;exact y e he (by simp[h1])
  ·have:H=e:=a3 H y e he (by rw[h5,h1]);subst this;rw[h7];exact⟨((q3 H he).box (by rw[h1];exact I)).1,by simp only[β,M];exact h2⟩
 refine⟨{ β:=β,cs:=cs,bs:=bs,nw:=λ_=>False },?_⟩;have b4:(ge w ro ps O J nt).prot=λk=>k<w.heap.size/\k∉J.flatten:=rfl
 exact {
  nt:=by show (O.toArray++CI (nt-O.length) undef).size=nt;simp;omega
  df:=rfl
  slots:=λt ht=>by
   show d9 _ ((O.toArray++CI (nt-O.length) undef).getD t undef) (cs t);by_cases hq:t<ps.length
   ·have hv:=BX (show t<O.length by omega);have:(O.toArray++CI (nt-O.length) undef).getD t undef=O[t]:=by
     rw[BT,Cc (by simp;omega)];simp[hv]
    rw[this];obtain⟨e,he,h1,h2⟩:=q6 t _ hv;rw[CQ]at h1;rcases hE t with ⟨_,y⟩|⟨H,y,h5,M,h7⟩
    ·exfalso;rw[C3]at y;exact y e he (by simp[h1])
    ·have:H=e:=a3 H y e he (by rw[h5,h1]);subst this;rw[h7];simp only[cs,M];exact h2
   ·rcases hE t with ⟨I,y⟩|⟨H,y,h5,M,h7⟩
    ·rw[I];simp only[cs,y];rfl
    ·rcases q4 H y with h8|h8 <;> omega
  boxes:=λb hb=>by
   rcases hE b with ⟨I,y⟩|⟨H,y,h5,M,h7⟩
   ·rw[I];exact .inl ⟨rfl,rfl⟩
   ·obtain⟨g1,g2,g3,⟨E,g4⟩,g5⟩:=(q3 H y).box (by rw[h5];exact hb);rw[h7];exact .inr ⟨g1,E,by simp only[β,cs,M];exact g4⟩
  len:=λq=>by
   rcases hE q with ⟨I,y⟩|⟨H,y,h5,M,h7⟩
   ·rw[I];simp only[cs,y];rfl
   ·rw[h7];simp only[cs,M];exact (q3 H y).len
  one:=λq u hu=>by
   have hu:u∈cs q:=hu;rcases hE q with ⟨I,y⟩|⟨H,y,h5,M,h7⟩
   ·simp only[cs,y]at hu;simp at hu
   ·simp only[cs,M]at hu;exact (q3 H y).one u hu
  leaf:=λq j l v X hv=>by
   have hv:(cs q)[j]?=some v:=hv;rcases hE q with ⟨I,y⟩|⟨H,y,h5,M,h7⟩
   ·rw[I]at X;simp[bP.none]at X
   ·rw[h7]at X;simp only[cs,M]at hv;show aK P _ _ _ w (bs q j) l v;simp only[bs,M];exact (q3 H y).leaf (ge w ro ps O J nt) _ _ rfl rfl rfl a9 j l v X hv
  ownb:=λq j l X ho k Z=>by
   have Z:k∈bs q j:=Z;rcases hE q with ⟨I,y⟩|⟨H,y,h5,M,h7⟩
   ·rw[I]at X;simp[bP.none]at X
   ·rw[h7]at X;simp only[bs,M]at Z;have b2:=(q3 H y).own j l X ho k Z;refine⟨id,λhp=>hp.2 (a1 H y k b2),λb hb e0=>?_⟩;obtain⟨e2,g1,g2,g3,g4⟩:=a0 b hb;have a6:=(q3 e2 g1).box g3;have e0:β b=k:=e0;simp only[β,g4]at e0;have:=nY a2 H y e2 g1 k b2 (by rw[<- e0];exact a6.2.1);subst this;exact a6.2.2.1 j l X ho (by rw[e0];exact Z)
  sep:=λq j l q' j' l' X ho a4 b1 k Z a5=>by
   have Z:k∈bs q j:=Z;have a5:k∈bs q' j':=a5;rcases hE q with ⟨I,y⟩|⟨e1,y,h5,M,h7⟩
   ·rw[I]at X;simp[bP.none]at X
   ·rcases hE q' with ⟨b9,ad⟩|⟨e2,ad,bb,b5,c1⟩
    ·rw[b9]at a4;simp[bP.none]at a4
    ·rw[h7]at X;rw[c1]at a4;simp only[bs,M]at Z;simp only[bs,b5]at a5;have:=nY a2 e1 y e2 ad k ((q3 e1 y).own j l X ho k Z) ((q3 e2 ad).own j' l' a4 b1 k a5);subst this;exact⟨by rw[<- h5,<- bb],(q3 e1 y).sep j j' l l' X ho a4 b1 k Z a5⟩
  box:=λb hb=>by
   obtain⟨e2,g1,g2,g3,g4⟩:=a0 b hb;have a6:=(q3 e2 g1).box g3;refine⟨id,λhp=>hp.2 ?_⟩;show β b∈_;simp only[β,g4];exact a1 e2 g1 _ a6.2.1
  inj:=λb b' hb ba e0=>by
   obtain⟨e1,g1,g2,g3,g4⟩:=a0 b hb;obtain⟨e2,b0,bn,bx,c0⟩:=a0 b' ba;have e0:β b=β b':=e0;simp only[β,g4,c0]at e0;have:=nY a2 e1 g1 e2 b0 e1.g ((q3 e1 g1).box g3).2.1 (by rw[e0];exact ((q3 e2 b0).box bx).2.1);subst this;rw[<- g2,<- bn]
  nwlt:=λk Z=>Z.elim
  os:=rfl,tape:=rfl,output:=rfl,size:=Cq _,keep:=λ_ _=>rfl
  fixb:=λz hz=>by
   obtain⟨h1,h2,I⟩:=a9 z hz;exact⟨⟨h1,h2⟩,I⟩
  fixt:=λz hz=>by
   obtain⟨i,h1,h2⟩:=vz hz;rw[CQ]at h1;show (O.toArray++CI (nt-O.length) undef).getD z.1 undef=z.2;rw[h1,BT,Cc (by simpa using (BQ.1 h2).1)];simp[h2] }
end
section
variable {P:Program} {V:Env} {W:Wit} {Γ:List Ctr} {T:TypeId->TI} {R:Type} {st:St} {a:Act} {w:World} {ro:Nat->Prop}
theorem BA (hT:TOk P T)(h:an P V W st a w)(x:ResultVar)(H:pw st T x≠.off) :
  ∃ v M,(match x with|.tmp t=>(pure (a.tmps.getD t undef):Sem Value)|.cell b t=>(do loadVar t (<- asAddr (a.tmps.getD b undef)):Sem Value)).run P w=.ok v w /\
   d9 (pw st T x) v M/\aB P V W st w (vD st T x) M:=by
 cases x with
 |tmp t =>
  obtain⟨M,h1,J⟩:=cQ h (.tmp t);exact⟨_,M,rfl,h1,J⟩
 |cell t u =>
  simp only[pw]at H ⊢;split at H
  ·rename_i b off Y;cases O:decide ((st b).sh=.agg)&&Cs (off+(T u).cells) (st b).ls.length&&!BP (T u).cells 0 with
   |false=>rw[O]at H;exact absurd rfl H
   |true =>
    simp only[Y,O,cond_true,vD];simp only[BI,decide_eq_true_eq,CK]at O;obtain⟨⟨h1,J⟩,h3⟩:=O;have J:off+(T u).cells<=(st b).ls.length:=CC J;have a0:T u≠.none:=by
     intro e;rw[e]at h3;simp[TI.cells]at h3
    obtain⟨hp,_,_,_,_⟩:=br h (.tmp t) (by rw[Y];simp);rw[Y]at hp;obtain⟨hB,a1,z⟩:=hp;have z:a.tmps.getD t undef=.pointer (some ⟨W.β b,off,none⟩):=z;rcases h.boxes b hB with ⟨X,_⟩|⟨_,E,X⟩
    ·rw[a1]at X;cases X
    ·have r:cV w (W.β b) 0 (W.cs b):=λi v z=>by
      rw[CQ,cell_of_row w (W.β b) i _ E (0,0) X];simpa using z
     have a2:=h.len b;have y:=r.sub off (T u).cells;rw[CQ]at y;obtain⟨v,I,Z⟩:=od (hT u) a0 y (by simp;omega);refine⟨v,_,?_,Z,((iA h b).drop off).take _⟩;simp only[z];simpa[asAddr]using I
  ·exact absurd rfl H
def nG (a:Act):ResultVar->Sem Value
 |.tmp t=>pure (a.tmps.getD t undef)
 |.cell b t=>do loadVar t (<- asAddr (a.tmps.getD b undef))
def nH (P:Program)(a:Act)(w:World):List ResultVar->List Value->Prop
 |[],u=>u=[]
 |x::y,u=>∃ v r,u=v::r/\(nG a x).run P w=.ok v w/\nH P a w y r
theorem rO:∀ (l:List ResultVar) (u:List Value),nH P a w l u->(l.mapM (nG a)).run P w=.ok u w
 |[],_,h=>by rw[show _=_ from h];rfl
 |x::l,_,⟨v,r,e,y,z⟩=>by subst e;simp[Cr,y,rO l r z]
theorem AO (b:Bool):bg b≠.off:=by cases b <;> simp[bg]
def RK.isBox:RK->Bool
 |.box _=>true
 |_=>false
theorem tZ (hV:ax V)(hT:TOk P T)(h:an P V W st a w)(b1:V.ro0=ro){fx:List Nat}:∀ (rs:List RK) (I:List ResultVar) (y:cH (ai rs)),kp st T fx rs I=some y ->
  ∀ {G:Nat->Prop},(∀ k,bo V W y.p y.frz k->G k) ->
  ∃ (us:List Value) (H:List (List Nat)) (bx:List Nat),nH P a w I us/\gy w G ro rs y.val us H/\(∀ k,H.flatten.count k=(aX W y.kill).count k+(bx.map W.β).count k) /\
   (∀ b∈bx,live st b/\fx.any (BP b)=false)/\bx.length=rs.countP RK.isBox/\(∀ z∈y.frz,aA st z)/\∀ z∈y.kill,aA st z
 |[],[],y,J,G,hG=>by
  simp only[kp,BG]at J;subst J;exact⟨[],[],[],rfl,⟨rfl,rfl⟩,λk=>by simp[aX],by simp,rfl,by simp,by simp⟩
 |[],_::_,_,J,_,_=>by simp[kp]at J
 |_::_,[],_,J,_,_=>by simp[kp]at J
 |r::rs,x::I,y,J,G,hG=>by
  simp only[kp]at J;cases M:decide (pw st T x=r.sh) with
  |false=>simp[M]at J
  |true =>
   simp only[M,cond_true]at J;have M:=of_decide_eq_true M;split at J
   ·rename_i X y2 u b4;simp only[BG]at J;subst J;obtain⟨v,a3,a9,O,Z⟩:=BA hT h x (by rw[M];cases r <;> simp only[RK.sh] <;> first|exact AO _|simp);rw[M]at O;have a1:∀ k,bo V W X.p X.frz k->G k:=λk Y=>hG k (dL.1 k Y)
    have b3:∀ k,bo V W y2.p y2.frz k->G k:=λk Y=>hG k (dL.2 k Y)
    obtain⟨us,H,bx,i1,i2,i3,i4,i5,i6,i7⟩:=tZ hV hT h b1 rs I y2 b4 b3;have a4:(nG a x).run P w=.ok v w:=by cases x <;> exact a9
    have a5:∀ (b:List Nat) (a0:List Nat),p8 w G ro r X.val v b->(∀ k,b.count k=(aX W X.kill).count k+(a0.map W.β).count k)->(∀ b∈a0,live st b/\fx.any (BP b)=false)->a0.length=(if r.isBox then 1 else 0)->(∀ z∈X.frz,aA st z)->(∀ z∈X.kill,aA st z) ->
      ∃ (us:List Value) (H:List (List Nat)) (bx:List Nat),nH P a w (x::I) us/\gy w G ro (r::rs) (X.val,y2.val) us H/\(∀ k,H.flatten.count k=(aX W (X.kill++y2.kill)).count k+(bx.map W.β).count k) /\
       (∀ b∈bx,live st b/\fx.any (BP b)=false)/\bx.length=(r::rs).countP RK.isBox/\(∀ z∈X.frz++y2.frz,aA st z)/\∀ z∈X.kill++y2.kill,aA st z:=by
     intro b a0 f1 f2 f3 f4 f5 f6;refine⟨v::us,b::H,a0++bx,⟨v,us,rfl,a4,i1⟩,⟨v,us,b,H,rfl,rfl,f1,i2⟩,λk=>?_,λz hz=>(BH.1 hz).elim (f3 z) (i4 z),?_,λz hz=>(BH.1 hz).elim (f5 z) (i6 z),λz hz=>(BH.1 hz).elim (f6 z) (i7 z)⟩
     ·rw[BW,B3,f2 k,i3 k,dE,B3,CX,B3];omega
     ·rw[List.length_append,f4,i5,C9];cases r.isBox <;> simp <;> omega
    cases r with
    |v b =>
     simp only[sb]at u;obtain⟨g1,g2,g3⟩:=dJ (pos:=0) h Z u;exact a5 (aX W X.kill) [] ⟨a3,gz O,g1.mono a1⟩ (λk=>by simp) (by simp) rfl g2 g3
    |bv b =>
     simp only[sb,BO]at u;obtain⟨⟨p,z⟩,hz,rfl⟩:=u;have g1:=eE h Z hz;refine a5 [] [] ⟨rfl,a3,gz O,g1.mono λk Y=>?_⟩ (λk=>by simp[aX]) (by simp) rfl (λz hz=>eh Z hz) (by simp);rcases Y with (Y|⟨_,Y⟩)|Y
     ·exact .inl (a1 k (.inl (.inl Y)))
     ·exact .inr (by rw[<- b1];exact Y)
     ·exact .inl (a1 k (.inr Y))
    |box b =>
     simp only[sb]at u;split at u
     ·rename_i b0 b5;cases a2:!(fx.any (BP b0)) with
      |false=>rw[a2]at u;cases u
      |true =>
       rw[a2]at u;simp only[cond_true]at u;have O:a3=[v]:=O;subst O;rw[b5]at Z;obtain⟨hB,ad,b2⟩:=Z.1.1;obtain⟨g1,g2,g3⟩:=dJ (pos:=0) h (iA h b0) u;rcases h.boxes b0 hB with ⟨h8,_⟩|⟨_,E,h8⟩
       ·rw[ad]at h8;cases h8
       ·exact a5 (W.β b0::aX W X.kill) [b0] ⟨W.β b0,W.cs b0,E,_,b2,h8,g1.mono a1,rfl⟩ (λk=>by
         rw[CY,B7,DH,CY,List.count_nil];omega) (λb' a6=>by
         simp at a6;subst a6;exact⟨⟨hB,ad⟩,by simpa using a2⟩) rfl g2 g3
     ·cases u
   ·cases J
theorem mA (hV:ax V)(h:an P V W st a w){w0:World}{pr:Nat->Prop}(a9:V.nt<=GH):∀ (ps:List PK) (x:ab ps) (vs:List Value) (a6:List (List Nat)) (t:Nat) (o:cH (ah ps)),c8 P w0 ro pr ps x vs a6->ic st t ps=some o->t+ps.length<=V.nt ->
  (∀ z∈d7 t ps vs,a.tmps.getD z.1 undef=z.2)->(∀ z∈d6 t ps vs,live st z.1/\W.β z.1=z.2)->∀ {G:Nat->Prop},(∀ k,bo V W o.p o.frz k->G k) ->
  ∃ r,bJ w G ps o.val vs r/\(∀ k,r.flatten.count k=(aX W o.kill).count k+((bF t ps).map W.β).count k)/\(∀ z∈o.frz,aA st z)/\(∀ z∈o.kill,aA st z)/\∀ b∈bF t ps,live st b
 |[],x,vs,a6,t,o,⟨e1,e2⟩,y,_,_,_,G,hG=>by
  simp only[ic,BG]at y;subst y;subst e1;exact⟨[],trivial,λk=>by simp[aX,bF],by simp,by simp,by simp[bF]⟩
 |pk::ps,x,vs,a6,t,o,⟨v,Y,b,a0,e1,e2,h1,h2⟩,y,ht,a2,a1,G,hG=>by
  subst e1;subst e2;simp only[CM]at ht;have u:∀ (o':cH (ah ps)),ic st (t+1) ps=some o'->d7 t (pk::ps) (v::Y)=d7 (t+1) ps Y->d6 t (pk::ps) (v::Y)=d6 (t+1) ps Y->(∀ k,bo V W o'.p o'.frz k->G k) ->
    ∃ r,bJ w G ps o'.val Y r/\(∀ k,r.flatten.count k=(aX W o'.kill).count k+((bF (t+1) ps).map W.β).count k)/\(∀ z∈o'.frz,aA st z)/\(∀ z∈o'.kill,aA st z)/\∀ b∈bF (t+1) ps,live st b:=by
   intro o' b1 e1 e2 ad;exact mA hV h a9 ps x.2 Y a0 (t+1) o' h2 b1 (by omega) (λz H=>a2 z (by rw[e1];exact H)) (λz H=>a1 z (by rw[e2];exact H)) ad
  cases pk with
  |io b =>
   simp only[ic]at y;split at y
   ·rename_i y1 y2 Z a3;simp only[BG]at y;subst y;obtain⟨r,I,X,M,J,O⟩:=mA hV h a9 ps x.2 Y a0 (t+1) y2 h2 a3 (by omega) (λz H=>a2 z (BL _ H)) (λz H=>a1 z H) (λk hk=>hG k (dL.2 k hk));cases hb:decide ((au st (.tmp t)).1=bg b.isAgg) with
    |false=>rw[hb]at Z;cases Z
    |true =>
     rw[hb]at Z;simp only[cond_true]at Z;obtain⟨cs,h3,h4⟩:=cQ h (.tmp t);rw[of_decide_eq_true hb]at h3;have hv:a.eval (.tmp t)=v:=a2 (t,v) (BM ..);rw[hv]at h3;obtain⟨g1,g2,g3⟩:=dJ (pos:=0) h h4 Z;refine⟨aX W y1.kill::r,⟨?_,I⟩,λk=>?_,λz H=>(BH.1 H).elim (g2 z) (M z),λz H=>(BH.1 H).elim (g3 z) (J z),O⟩
     ·unfold jx;rw[if_neg (by simp)];exact⟨cs,gz h3,g1.mono (λk hk=>hG k (dL.1 k hk))⟩
     ·rw[BW,B3,X k,dE,B3];show _=_+((bF (t+1) ps).map W.β).count k;omega
   ·cases y
  |iop b =>
   simp only[ic]at y;split at y
   ·rename_i y1 y2 Z a3;simp only[BG]at y;subst y;obtain⟨r,I,X,M,J,O⟩:=mA hV h a9 ps x.2 Y a0 (t+1) y2 h2 a3 (by omega) (λz H=>a2 z (BL _ H)) (λz H=>a1 z (BL _ H)) (λk hk=>hG k (dL.2 k hk));obtain⟨g,c,E,b0,hv,_,_,_⟩:=h1;subst hv;obtain⟨a4,hβ⟩:=a1 (B0+t,tX (.pointer (some ⟨g,0,none⟩))) (BM ..);have hβ:W.β (B0+t)=g:=hβ;obtain⟨g1,g2,g3⟩:=dJ (pos:=0) h (iA h (B0+t)) Z;rcases h.boxes (B0+t) a4.1 with ⟨h8,_⟩|⟨_,E',h8⟩
    ·have:=a4.2;rw[h8]at this;cases this
    ·refine⟨(g::aX W y1.kill)::r,⟨?_,I⟩,λk=>?_,λz H=>(BH.1 H).elim (g2 z) (M z),λz H=>(BH.1 H).elim (g3 z) (J z),λb' a5=>?_⟩
     ·unfold jx;rw[if_pos rfl];exact⟨g,W.cs (B0+t),E',_,rfl,by rw[<- hβ];exact h8,g1.mono (λk hk=>hG k (dL.1 k hk)),rfl⟩
     ·rw[BW,B3,X k,dE,B3,CY];show _=_+(W.β (B0+t)::(bF (t+1) ps).map W.β).count k;rw[CY,hβ];omega
     ·rcases BU.1 a5 with rfl|a5
      ·exact a4
      ·exact O b' a5
   ·cases y
  |rd b =>
   obtain⟨r,I,X,M,J,O⟩:=u o y rfl rfl hG;exact⟨[]::r,⟨rfl,I⟩,λk=>by rw[BW,CF];exact X k,M,J,O⟩
  |own b =>
   obtain⟨r,I,X,M,J,O⟩:=u o y rfl rfl hG;exact⟨[]::r,⟨rfl,I⟩,λk=>by rw[BW,CF];exact X k,M,J,O⟩
  |rref b =>
   obtain⟨r,I,X,M,J,O⟩:=u o y rfl rfl hG;exact⟨[]::r,⟨rfl,I⟩,λk=>by rw[BW,CF];exact X k,M,J,O⟩
  |rref2 b =>
   obtain⟨r,I,X,M,J,O⟩:=u o y rfl rfl hG;exact⟨[]::r,⟨rfl,I⟩,λk=>by rw[BW,CF];exact X k,M,J,O⟩
  |fn As B =>
   obtain⟨r,I,X,M,J,O⟩:=u o y rfl rfl hG;exact⟨[]::r,⟨rfl,I⟩,λk=>by rw[BW,CF];exact X k,M,J,O⟩
  |clo f cs =>
   obtain⟨r,I,X,M,J,O⟩:=u o y rfl rfl hG;exact⟨[]::r,⟨rfl,I⟩,λk=>by rw[BW,CF];exact X k,M,J,O⟩
  |hol b c off =>
   obtain⟨r,I,X,M,J,O⟩:=u o y rfl rfl hG;exact⟨[]::r,⟨rfl,I⟩,λk=>by rw[BW,CF];exact X k,M,J,O⟩
end
section
variable {P:Program} {Γ:List Ctr} {T:TypeId->TI} {w:World} {ro:Nat->Prop}
theorem uL {fn:Func}{a:Act}{w:World}{r:List Value}(h:nH P a w fn.results.toList r):(results fn a.tmps).run P w=.ok (if h:r.toArray.size=1 then r.toArray[0] else .tuple r.toArray) w:=by
 have y:=rO _ _ h;have e:results fn a.tmps=(fn.results.mapM (nG a) >>= λu=>pure (if h:u.size=1 then u[0] else .tuple u)):=by
  unfold results;congr 1
 have z:(fn.results.mapM (nG a)).run P w=.ok r.toArray w:=by
  rw[Array.mapM_eq_mapM_toList];simp[y]
 rw[e];simp only[CU,z,CO,C5]
theorem BB (us:List Value):sm us (if h:us.toArray.size=1 then us.toArray[0] else .tuple us.toArray):=by
 match us with
 |[]=>rfl
 |[u]=>rfl
 |u::r::us =>
  rw[dif_neg (by simp)];rfl
theorem rP:∀ (ps:List PK) (t:Nat),(bF t ps).Nodup/\∀ b∈bF t ps,B0+t<=b
 |[],t=>⟨Cd,by simp[bF]⟩
 |H::ps,t=>by
  obtain⟨y,z⟩:=rP ps (t+1);have u:∀ b∈bF (t+1) ps,B0+t<=b:=λb r=>by have:=z b r;omega
  cases H with
  |iop a =>
   refine⟨CH.2 ⟨λI=>?_,y⟩,λb r=>?_⟩
   ·have:=z _ I;omega
   ·rcases BU.1 r with rfl|r
    ·exact Cq _
    ·exact u b r
  |_=>exact⟨y,u⟩
theorem BC {u:List RK}(h:qp u=true):u.countP RK.isBox<=1:=by
 unfold qp at h;split at h
 ·simp[RK.isBox]
 ·rw[Cv.2]
  ·exact DB _
  ·intro r y;rw[B6]at h;have:=h r y;cases r <;> simp[RK.isV,RK.isBox]at this ⊢
theorem rQ {β:Nat->Nat}:∀ {bs:List Nat},bs.Nodup->(∀ b∈bs,∀ u∈bs,β b=β u->b=u)->(bs.map β).Nodup
 |[],_,_=>Cd
 |b::bs,z,H=>by
  rw[CH]at z;rw[B7,CH];refine⟨λI=>?_,rQ z.2 (λx J y M=>H x (BL _ J) y (BL _ M))⟩;obtain⟨u,r,e⟩:=BR.1 I;have:=H u (BL _ r) b (BM ..) e;exact z.1 (by rw[<- this];exact r)
theorem yj (hT:TOk P T){c:Ctr}(c2:qp c.rs=true){vs:List Value}{J:List (List Nat)}{fn:Func}{nt:Nat}(hV:ax (ge w ro c.ps vs J nt)){x:ab c.ps}{pr:Nat->Prop}(b3:c8 P w ro pr c.ps x vs J)(c3:c.ps.length<=nt){ex:Ex}{s1:St}{y:ai c.rs×ah c.ps}
  (r:cS T c.ps c.rs c.fresh fn.results.toList ex s1=some y) {a:Act} {w':World} (u:Rel P (ge w ro c.ps vs J nt) s1 a w') :
  (ex=.normal\/ex=.ret)/\∃ v,(results fn a.tmps).run P w'=.ok v w'/\tD c w ro vs J y (.returned v) w':=by
 obtain⟨W,u⟩:=u;have bb:ex=.normal\/ex=.ret:=by
  cases ex with
  |normal=>exact .inl rfl
  |ret=>exact .inr rfl
  |exit id=>cases r
 refine⟨bb,?_⟩;have r:finR T c.ps c.rs c.fresh fn.results.toList s1=some y:=by
  rcases bb with rfl|rfl <;> exact r
 unfold finR at r;split at r
 ·rename_i M O c0 cb;cases X:aY (M.kill++O.kill)&&dx (M.frz++O.frz) (M.kill++O.kill)&&(!c.fresh||!(M.p||O.p)) with
  |false=>rw[X]at r;cases r
  |true =>
   rw[X]at r;simp only[cond_true,BG]at r;subst r;simp only[BI]at X;obtain⟨⟨ba,cc⟩,b9⟩:=X;let N:Nat->Prop:=λk=>W.nw k\/∃ z∈M.frz++O.frz,k∈W.bs z.1 z.2
   have hG:∀ (p:Bool) (ad:List (Nat×Nat)),(p=true->(M.p||O.p)=true)->(∀ z∈ad,z∈M.frz++O.frz)->∀ k,bo (ge w ro c.ps vs J nt) W p ad k->N k\/(c.fresh=false/\ro k):=by
    intro p ad hp H k I;rcases I with (I|⟨hq,I⟩)|⟨z,Z,I⟩
    ·exact .inl (.inl I)
    ·refine .inr ⟨?_,I⟩;rw[hp hq]at b9;simpa using b9
    ·exact .inl (.inr ⟨z,H z Z,I⟩)
   obtain⟨us,a9,bx,r1,r2,r3,r4,r5,r6,r7⟩:=tZ hV hT u rfl c.rs fn.results.toList M c0 (G:=λk=>N k\/(c.fresh=false/\ro k)) (hG M.p M.frz (by intro h;simp[h]) (λz H=>BJ _ H));obtain⟨a6,o1,o2,o3,o4,o5⟩:=mA hV u hV.nt c.ps x vs J 0 O b3 cb (by rw[CQ];exact c3) (λz H=>u.fixt z H) (λz H=>u.fixb z H) (G:=λk=>N k\/(c.fresh=false/\ro k)) (hG O.p O.frz (by intro h;simp[h]) (λz H=>BK _ H));have a3:∀ z∈M.kill++O.kill,aA s1 z:=λz H=>(BH.1 H).elim (r7 z) (o4 z)
   have a0:∀ z∈M.frz++O.frz,aA s1 z:=λz H=>(BH.1 H).elim (r6 z) (o3 z)
   have a4:∀ k,k<w'.heap.size->¬ (ge w ro c.ps vs J nt).prot k->p9 w w' J.flatten k:=by
    intro k I hp;refine⟨I,?_⟩;by_cases bn:k<w.heap.size
    ·right;apply CB;intro hn;exact hp ⟨bn,hn⟩
    ·exact .inl (by omega)
   have c4:∀ k,N k->p9 w w' J.flatten k:=by
    rintro k (I|⟨z,H,I⟩)
    ·exact a4 k (u.nwlt k I).1 (u.nwlt k I).2
    ·obtain⟨l,h7,h8⟩:=a0 z H;exact a4 k (u.own_lt h7 h8 k I) (u.ownb z.1 z.2 l h7 h8 k I).2.1
   have Y:∀ b∈bx++bF 0 c.ps,live s1 b:=λb R=>(BH.1 R).elim (λR=>(r4 b R).1) (o5 b)
   have bl:(bx++bF 0 c.ps).Nodup:=by
    rw[CN];refine⟨?_,(rP c.ps 0).1,λb R b' b4 e=>?_⟩
    ·have:=BC c2;rw[<- r5]at this
     match bx,this with
     |[],_=>exact Cd
     |[b],_=>simp
    ·subst e;have:=Cf.1 (r4 b R).2 b b4;simp at this
   have b0:=rQ (β:=W.β) bl (λb R b' b4 e=>u.inj b b' (Y b R) (Y b' b4) e);have a5:∀ k,(a6.flatten++a9.flatten).count k=(aX W (M.kill++O.kill)).count k+((bx++bF 0 c.ps).map W.β).count k:=λk=>by
    rw[B3,o2 k,r3 k,dE,B3,CX,B3];omega
   have c1:=bt.1 (gP u ba a3);have b2:∀ k∈a6.flatten++a9.flatten,(∃ z∈M.kill++O.kill,k∈W.bs z.1 z.2)\/∃ b,live s1 b/\W.β b=k:=λk I=>by
    have h5:=B5.2 I;rw[a5 k]at h5;by_cases h6:k∈aX W (M.kill++O.kill)
    ·exact .inl (gl.1 h6)
    ·have:=Ce.2 h6;obtain⟨b,R,e⟩:=BR.1 (B5.1 (show 0<((bx++bF 0 c.ps).map W.β).count k by omega));exact .inr ⟨b,Y b R,e⟩
   refine⟨_,uL r1,_,us,N,a6,a9,rfl,BB us,u.size,u.os,u.tape,u.output,λk h1 h2=>u.keep k ⟨h1,h2⟩,c4,o1,r2,bt.2 λk=>?_,λk I=>?_⟩
   ·rw[a5 k];have h5:=c1 k;have h6:=bt.1 b0 k;by_cases h7:k∈(bx++bF 0 c.ps).map W.β
    ·have:(aX W (M.kill++O.kill)).count k=0:=Ce.2 λhm=>by
      obtain⟨b,R,e⟩:=BR.1 h7;obtain⟨z,H,a2⟩:=gl.1 hm;obtain⟨l,hl,ho⟩:=a3 z H;exact (u.ownb z.1 z.2 l hl ho k a2).2.2 b (Y b R) e
     omega
    ·have:=Ce.2 h7;omega
   ·rcases b2 k I with ⟨z,H,a2⟩|⟨b,R,e⟩
    ·obtain⟨l,hl,ho⟩:=a3 z H;have h9:=u.ownb z.1 z.2 l hl ho k a2;refine⟨a4 k (u.own_lt hl ho k a2) h9.2.1,?_⟩;rintro (hn|⟨z',Z,a1⟩)
     ·exact h9.1 hn
     ·obtain⟨l',b1,b5⟩:=a0 z' Z;obtain⟨e1,e2⟩:=u.sep z.1 z.2 l z'.1 z'.2 l' hl ho b1 b5 k a2 a1;exact nL cc z' Z (by rw[show z'=z from Prod.ext e1.symm e2.symm];exact H)
    ·subst e;have h9:=u.box b R;refine⟨a4 _ (u.box_lt R) h9.2,?_⟩;rintro (hn|⟨z',Z,a1⟩)
     ·exact h9.1 hn
     ·obtain⟨l',b1,b5⟩:=a0 z' Z;exact (u.ownb z'.1 z'.2 l' b1 b5 _ a1).2.2 b R rfl
 ·cases r
theorem kh:∀ {ps:List PK} {u:List Value} {t:Nat} {z:Nat×Value},z∈d7 t ps u->z.1∈gj t ps
 |[],_,_,_,h=>by simp[d7]at h
 |r::ps,[],_,_,h=>by cases r <;> simp[d7]at h
 |r::ps,v::u,t,z,h=>by
  cases r <;> simp only[d7,gj,BU]at h ⊢ <;> first
   |exact kh h
   |exact h.imp (λe=>by rw[e]) kh
theorem ki:∀ {ps:List PK} {u:List Value} {t:Nat} {z:Nat×Nat},z∈d6 t ps u->z.1∈bF t ps
 |[],_,_,_,h=>by simp[d6]at h
 |r::ps,[],_,_,h=>by cases r <;> simp[d6]at h
 |r::ps,v::u,t,z,h=>by
  cases r <;> simp only[d6,bF,BU]at h ⊢ <;> first
   |exact ki h
   |exact h.imp (λe=>by rw[e]) ki
theorem dW {f:FuncId}{fn:Func}{c:Code}(z:P.funcs[f]?=some fn)(H:(fn.name== "runtime.NumGoroutine")=false) (y:fn.body=some c):fR P f:=by
 intro u w;have r:fn.name≠ "runtime.NumGoroutine" := by simpa using H
 simp[callFunc,z,r,y]
theorem pm (hT:TOk P T)(hΓ:∀ c∈Γ,bN P c)(Y:P.follows .mixedOrders=true){c:Ctr}{fn:Func}(hf:P.funcs[c.f]?=some fn)(hn:(fn.name== "runtime.NumGoroutine")=false)
  {L:List (Nat×List (Nat×List Coe))} {R:Nat} (Z:fn.body.isSome=true) (O:∀ x,evF Γ T L R fn c.ps c.rs c.fresh x=c.den x):bN P c:=by
 obtain⟨H,Z⟩:=Option.isSome_iff_exists.1 Z;refine⟨dW hf hn Z,λw ro x vs a4 y u a5 a1 J=>?_⟩;rw[<- O]at J;unfold evF at J;simp only[Z]at J;cases r:dK fn.ntmps (gj 0 c.ps) H&&Cs c.ps.length fn.ntmps&&Cs fn.ntmps GH&&qp c.rs&&dj L (bF 0 c.ps) H with
 |false=>simp[r]at J
 |true =>
  simp only[r,cond_true]at J;simp only[BI]at r;obtain⟨⟨⟨⟨h1,h2⟩,h3⟩,h4⟩,h5⟩:=r;have h2:=CC h2;have h3:=CC h3;have hV:ax (ge w ro c.ps vs a4 fn.ntmps):=⟨λk hk=>a5 k hk,h3⟩;have M:=vA (P:=P) (ro:=ro) u a1 h2 h3;refine calls_of_wp hf Z ?_;rw[C6];refine so hV hT hΓ Y (λz hz=>ki hz) (nt:=fn.ntmps) (fix:=gj 0 c.ps) rfl (λz hz=>kh hz) H h1 h5 _ _ y _ J (λex s1 X a' w' hr=>?_) _ _ M;obtain⟨a2,v,a0,I⟩:=yj hT h4 hV u h2 X hr;have a3:a'.defers=[]:=by obtain⟨W,hr⟩:=hr;exact hr.df
  rcases a2 with rfl|rfl <;> exact⟨a3,v,a0,I⟩
end
section
variable {P:Program}
def szB (P:Program)(t:TypeId)(n:Nat):Bool :=
 match P.info? t with
 |some i=>BP i.size n
 |none=>false
theorem fP {t:TypeId}{n:Nat}(h:szB P t n=true):bO P t n:=by
 unfold szB at h;unfold bO;split at h
 ·rename_i i r;rw[r];simp only[B9];rw[BN h]
 ·cases h
def ua (P:Program)(t:TypeId)(agg:Bool):Bool :=
 match P.underlying t with
 |some (.struct _)|some (.array _ _)=>agg
 |some _=>!agg
 |none=>false
theorem qS {t:TypeId}{agg:Bool}(h:ua P t agg=true):(P.underlying t).map (λd=>match d with|.struct _|.array _ _=>true|_=>false)=some agg:=by
 unfold ua at h;split at h
 ·rename_i r;rw[r];simp[h]
 ·rename_i r;rw[r];simp[h]
 ·rename_i d u y r;rw[r];simp only[B9,BG];cases agg with
  |true=>cases h
  |false =>
   cases d <;> first|rfl|(exact absurd r (u _))|(exact absurd r (y _ _))
 ·cases h
theorem AP {t:TypeId}{agg:Bool}(h:(P.underlying t).map (λd=>match d with|.struct _|.array _ _=>true|_=>false)=some agg)(w:World):(isAgg t).run P w=.ok agg w:=by
 unfold isAgg;cases r:P.underlying t with
 |none=>simp[r]at h
 |some u =>
  rw[r]at h;simp only[B9,BG]at h;subst h;rw[CU,run_underlying r w];cases u <;> rfl
def lN (P:Program)(f:Field)(off:Nat)(b:Ty):Bool:=(f.name != "_")&&BP f.offset off&&szB P f.type b.cells&&ua P f.type b.isAgg
def eqF (P:Program)(g:Ty->TypeId->Bool):List Field->Nat->Ty->Bool
 |[],_,_=>false
 |[f],off,b=>lN P f off b&&g b f.type
 |f::r,off,.pair b c=>lN P f off b&&g b f.type&&eqF P g r (off+b.cells) c
 |_,_,_=>false
def eqT (P:Program):Nat->Ty->TypeId->Bool
 |0,_,_=>false
 |n+1,a,t=>match a with
  |.int k=>(match P.underlying t with|some (.int k')=>decide (k'=k)|_=>false)
  |.bool=>(match P.underlying t with|some .bool=>true|_=>false)
  |.str=>(match P.underlying t with|some .string=>true|_=>false)
  |.pair b c=>(match P.underlying t with|some (.struct fs)=>!P.stoodInHeld t&&eqF P (eqT P n) fs.toList 0 (.pair b c)|_=>false)
  |_=>false
theorem zy:∀ (b:Ty),b.isAgg=false->b.cells=1
 |.int _,_=>rfl
 |.bool,_=>rfl
 |.str,_=>rfl
 |.list _ _ _,_=>rfl
 |.hdr,_=>rfl
 |.unit,h=>by cases h
 |.pair _ _,h=>by cases h
theorem mB {f:Field}{off:Nat}{b:Ty}(h:lN P f off b=true){xs p c s:List Value}(M:xs=p++c++s)(J:p.length=off)(H:c.length=b.cells)(w:World) :
  ∃ v,(part f.type xs.toArray f.offset).run P w=.ok v w/\da b.isAgg v c:=by
 unfold lN at h;simp only[BI]at h;obtain⟨⟨⟨_,y⟩,R⟩,X⟩:=h;have y:=BN y;have r:=AP (qS X) w;have I:=dn (fP R) w;have u:(xs.drop off).take b.cells=c:=by
  rw[M,CD,<- J,List.drop_left,<- H,List.take_left]
 cases z:b.isAgg with
 |true =>
  rw[z]at r;refine⟨.agg c.toArray,?_,rfl⟩;have e:xs.toArray.extract off (off+b.cells)=c.toArray:=by
   rw[List.extract_toArray,List.extract_eq_take_drop,Nat.add_sub_cancel_left,u]
  simp only[part,CU,r,CO,if_true,I,C5,y,e]
 |false =>
  rw[z]at r;have O:=zy b z;rw[O]at H
  match c,H with
  |[v],_ =>
   refine⟨v,?_,rfl⟩;have e:xs.toArray[off]?=some v:=by
    simp only[List.getElem?_toArray];rw[M,CD,B8 (by omega)];simp[J]
   simp only[part,CU,r,CO,CZ,if_false,y,e,C5]
def zS (P:Program)(d:Nat)(b:Ty)(t:TypeId):Prop:=∀ (w:World) (G:Nat->Prop) (x y:b.den) (z H:Value) (u r:List Value),da b.isAgg z u->Rd w G b x u->da b.isAgg H r->Rd w G b y r ->
 (Op.equalIn d t z H).run P w=.ok (b.eqv x y) w
theorem yk {d:Nat}{g:Ty->TypeId->Bool}(hg:∀ b t,g b t=true->zS P d b t):∀ (fs:List Field) (off:Nat) (b:Ty),eqF P g fs off b=true->∀ (w:World) (G:Nat->Prop) (x y:b.den) (z R r J:List Value),
  z.length=off->r.length=off->Rd w G b x R->Rd w G b y J->(Op.eqFields d (z++R).toArray (r++J).toArray fs).run P w=.ok (b.eqv x y) w
 |[],_,_,h=>by simp[eqF]at h
 |[f],off,b,h=>by
  intro w G x y z R r J u H hx hy;simp only[eqF,BI]at h;obtain⟨v1,h1,h2⟩:=mB h.1 (xs:=z++R) (p:=z) (c:=R) (s:=[]) (by simp) u hx.len w;obtain⟨v2,h3,h4⟩:=mB h.1 (xs:=r++J) (p:=r) (c:=J) (s:=[]) (by simp) H hy.len w;have h5:=hg b f.type h.2 w G x y v1 v2 R J h2 hx h4 hy;have hn:f.name≠ "_" := by
   have:=h.1;unfold lN at this;simp only[BI]at this;simpa using this.1.1.1
  simp only[Op.eqFields,if_pos hn,CU,h1,h3,h5,CO];cases b.eqv x y <;> simp
 |f::O::fs,off,.pair b c,h=>by
  intro w G x y z R r J u H hx hy;simp only[eqF,BI]at h;obtain⟨⟨Y,a2⟩,M⟩:=h;obtain⟨Z,c2,rfl,X,a1⟩:=hx;obtain⟨d1,d2,rfl,I,a0⟩:=hy;obtain⟨v1,h1,h2⟩:=mB Y (xs:=z++(Z++c2)) (p:=z) (c:=Z) (s:=c2) (by simp) u X.len w;obtain⟨v2,h3,h4⟩:=mB Y (xs:=r++(d1++d2)) (p:=r) (c:=d1) (s:=d2) (by simp) H I.len w;have h5:=hg b f.type a2 w G x.1 y.1 v1 v2 Z d1 h2 X h4 I;have h6:=yk hg (O::fs) (off+b.cells) c M w G x.2 y.2 (z++Z) c2 (r++d1) d2 (by simp[u,X.len]) (by simp[H,I.len]) a1 a0;rw[CD,CD]at h6;have hn:f.name≠ "_" := by
   unfold lN at Y;simp only[BI]at Y;simpa using Y.1.1.1
  rw[Op.eqFields];simp only[if_pos hn,CU,h1,h3,h5,CO];show _=Result.ok (b.eqv x.1 y.1&&c.eqv x.2 y.2) w;cases b.eqv x.1 y.1 with
  |false=>simp
  |true=>simpa using h6
 |f::O::fs,off,.int _,h=>by simp[eqF]at h
 |f::O::fs,off,.bool,h=>by simp[eqF]at h
 |f::O::fs,off,.str,h=>by simp[eqF]at h
 |f::O::fs,off,.unit,h=>by simp[eqF]at h
 |f::O::fs,off,.list _ _ _,h=>by simp[eqF]at h
 |f::O::fs,off,.hdr,h=>by simp[eqF]at h
theorem rR (x y:ByteArray):(x==y)=decide (x=y):=by
 rw[beq_toListBytes];by_cases h:x=y
 ·subst h;simp
 ·rw[decide_eq_false h];cases r:(x.toList==y.toList) with
  |false=>rfl
  |true =>
   exfalso;apply h;have:=eq_of_beq r;rw[Cw,Cw]at this;apply ByteArray.ext;exact Array.ext' this
theorem yl:∀ (n:Nat) (a:Ty) (t:TypeId),eqT P n a t=true->∀ d,n<=d->zS P d a t
 |0,_,_,h=>by simp[eqT]at h
 |n+1,a,t,h=>by
  intro d hd;obtain⟨d,rfl⟩:∃ d',d=d'+1:=⟨d-1,by omega⟩;intro w G x y R O J I r z u H;cases a with
  |int k =>
   simp only[eqT]at h;split at h
   ·rename_i X M;have hk:=of_decide_eq_true h;subst hk;have z:J=[.int X x]:=z;have H:I=[.int X y]:=H;have r:J=[R]:=r;have u:I=[O]:=u;rw[z]at r;rw[H]at u;simp at r u;subst r;subst u;simp[Op.equalIn,run_underlying M,Ty.eqv];rfl
   ·cases h
  |bool =>
   simp only[eqT]at h;split at h
   ·rename_i M;have z:J=[.bool x]:=z;have H:I=[.bool y]:=H;have r:J=[R]:=r;have u:I=[O]:=u;rw[z]at r;rw[H]at u;simp at r u;subst r;subst u;simp[Op.equalIn,run_underlying M,Ty.eqv]
   ·cases h
  |str =>
   simp only[eqT]at h;split at h
   ·rename_i M;have z:J=[.string x]:=z;have H:I=[.string y]:=H;have r:J=[R]:=r;have u:I=[O]:=u;rw[z]at r;rw[H]at u;simp at r u;subst r;subst u;have:=rR x y;simp[Op.equalIn,run_underlying M,Ty.eqv,this]
   ·cases h
  |pair b c =>
   simp only[eqT]at h;split at h
   ·rename_i Z M;simp only[BI,CK]at h;have Y:P.fieldsOf t=Z:=by simp[Program.fieldsOf,M]
    have r:R=.agg J.toArray:=r;have u:O=.agg I.toArray:=u;subst r;subst u;rw[run_equalIn_struct (P:=P) w d t _ _ (by rw[Y];exact M) h.1,Y];have:=yk (P:=P) (λb t hb=>yl n b t hb d (by omega)) Z.toList 0 (.pair b c) h.2 w G x y [] J [] I rfl rfl z H;simpa using this
   ·cases h
  |unit=>simp[eqT]at h
  |hdr=>simp[eqT]at h
  |list m E e=>simp[eqT]at h
theorem AQ {t:TypeId}{a:Ty}(h:eqT P 64 a t=true)(z:a.isAgg=true):EqAt P t a:=by
 intro _ w G x y u r H I;have:=yl 64 a t h Op.maxDepth (by decide) w G x y (.agg u.toArray) (.agg r.toArray) u r (by rw[z];rfl) H (by rw[z];rfl) I;exact this
def wL:Value->Value->Bool
 |.int k n,.int u z=>decide (k=u)&&decide (n=z)
 |.bool b,.bool y=>b==y
 |.string s,.string r=>decide (s.toList=r.toList)
 |.slice none 0 0,.slice none 0 0=>true
 |.pointer none,.pointer none=>true
 |.nilFunc,.nilFunc=>true
 |_,_=>false
def kX:List Value->List Value->Bool
 |[],[]=>true
 |v::y,u::r=>wL v u&&kX y r
 |_,_=>false
theorem zz {v u:Value}(h:wL v u=true):v=u:=by
 unfold wL at h;split at h
 ·simp only[BI,decide_eq_true_eq]at h;rw[h.1,h.2]
 ·rw[eq_of_beq h]
 ·rename_i s y;have:s=y:=by
   have r:=rR s y;rw[beq_toListBytes,of_decide_eq_true h]at r;simpa using r.symm
  rw[this]
 ·rfl
 ·rfl
 ·rfl
 ·cases h
theorem mC:∀ {r us:List Value},kX r us=true->r=us
 |[],[],_=>rfl
 |v::r,u::us,h=>by
  simp only[kX,BI]at h;rw[zz h.1,mC h.2]
 |[],_::_,h=>by simp[kX]at h
 |_::_,[],h=>by simp[kX]at h
def zB (P:Program)(t:TypeId)(agg:Bool)(cs:List Value):Bool :=
 match P.info? t with
 |some i=>match i.zero with
  |some (.agg r)=>agg&&kX r.toList cs
  |some v=>!agg&&kX [v] cs
  |none=>false
 |none=>false
theorem ym {t:TypeId}{cs:List Value}(h:zB P t true cs=true):dY P t (.agg cs.toArray):=by
 unfold zB at h;unfold dY;split at h
 ·rename_i i u;rw[u];split at h
  ·rename_i y r;simp only[Cy]at h;rw[B9,r,<- mC h,Array.toArray_toList]
  ·cases h
  ·cases h
 ·cases h
theorem lO {t:TypeId}{v:Value}(h:zB P t false [v]=true):dY P t v:=by
 unfold zB at h;unfold dY;split at h
 ·rename_i i y;rw[y];split at h
  ·cases h
  ·rename_i u _ r;simp only[DG,Cy]at h;have:=mC h;simp only[Cm,and_true]at this;rw[B9,r,this]
  ·cases h
 ·cases h
def ko (P:Program)(n:Nat):List Field->List (Nat×Nat×Bool)->Bool
 |[],[]=>true
 |f::r,(off,k,agg)::u=>BP f.offset off&&szB P f.type k&&ua P f.type agg&&Cl 0 k&&Cs (off+k) n&&(agg||BP k 1)&&ko P n r u
 |_,_=>false
def isU8:Ty->Bool
 |.int .u8=>true
 |_=>false
def u8B (P:Program)(E:TypeId):Bool :=
 match P.underlying E with
 |some (.int .u8)=>true
 |_=>false
def tiB (P:Program)(t:TypeId):TI->Bool
 |.int k=>(match P.underlying t with|some (.int k')=>decide (k'=k)|_=>false)&&szB P t 1&&zB P t false [.int k 0]
 |.bool=>(match P.underlying t with|some .bool=>true|_=>false)&&szB P t 1&&zB P t false [.bool false]
 |.str=>(match P.underlying t with|some .string=>true|_=>false)&&szB P t 1&&zB P t false [.string ByteArray.empty]
 |.slice E e r=>(match P.underlying t with|some (.slice E')=>BP E' E|_=>false)&&szB P t 1&&zB P t false [.slice none 0 0]&&Cl 0 e.cells&&Cl 0 r &&
  szB P E e.cells&&(match P.info? E with | some i=>BP i.bytes r&&(match i.zero with | some z=>kX z.cells.toList (zeroCells e) | none=>false) | none=>false)&&(!isU8 e||u8B P E)
 |.arr e n=>(match P.underlying t with|some (.array m E)=>BP m n&&szB P E e.cells&&ua P E e.isAgg|_=>false)&&Cl 0 e.cells&&szB P t (n*e.cells)&&zB P t true (List.replicate n (zeroCells e)).flatten
 |.struct a u=>(match P.underlying t with | some (.struct y)=>ko P a.cells y.toList u | _=>false)&&szB P t a.cells&&zB P t true (zeroCells a)&&a.isAgg&&(!a.flat||eqT P 64 a t)&&!P.eqGuardType P.depth t
 |.ptr=>(match P.underlying t with|some (.pointer _)=>true|_=>false)&&szB P t 1&&zB P t false [.pointer none]
 |.fn=>(match P.underlying t with|some (.func _ _ _)=>true|_=>false)&&szB P t 1&&zB P t false [.nilFunc]
 |.none=>true
theorem ql {n:Nat}:∀ {fs:List Field} {xs:List (Nat×Nat×Bool)},ko P n fs xs=true ->
  fs.mapM (λf=>(P.info? f.type).map λi=>(f.offset,i.size))=some (xs.map λx=>(x.1,x.2.1)) /\
  ∀ (i off k:Nat) (agg:Bool),xs[i]?=some (off,k,agg)->(agg=false->k=1)/\∃ f:Field,fs[i]?=some f/\f.offset=off/\0<k/\off+k<=n/\bO P f.type k /\
   (P.underlying f.type).map (λd=>match d with|.struct _|.array _ _=>true|_=>false)=some agg
 |[],[],_=>⟨rfl,λi off k agg h=>by simp at h⟩
 |[],_::_,h=>by simp[ko]at h
 |_::_,[],h=>by simp[ko]at h
 |f::fs,(off,k,agg)::xs,h=>by
  simp only[ko,BI,CW]at h;obtain⟨⟨⟨⟨⟨⟨H,Y⟩,R⟩,h4⟩,X⟩,u⟩,h7⟩:=h;have H:=BN H;have r:=fP Y;obtain⟨h8,h9⟩:=ql h7;constructor
  ·unfold bO at r;cases I:P.info? f.type with
   |none=>rw[I]at r;cases r
   |some i =>
    rw[I]at r;simp only[B9,BG]at r;simp[Cr,I,h8,r,H]
  ·intro i z O y J;cases i with
   |zero =>
    simp at J;obtain⟨rfl,rfl,rfl⟩:=J;refine⟨λha=>?_,f,rfl,H,by simpa[CS]using h4,CC X,r,qS R⟩;rcases u with u|u
    ·rw[ha]at u;cases u
    ·exact BN u
   |succ i =>
    obtain⟨Z,f',M,q3⟩:=h9 i z O y (by simpa using J);exact⟨Z,f',by simpa using M,q3⟩
theorem BD {t:TypeId}{i:TI}(h:tiB P t i=true):oM P t i:=by
 cases i with
 |none=>trivial
 |int k =>
  simp only[tiB,BI]at h;obtain⟨⟨r,I⟩,H⟩:=h;split at r
  ·rename_i k' u;rw[of_decide_eq_true r]at u;exact⟨u,fP I,lO H⟩
  ·cases r
 |bool =>
  simp only[tiB,BI]at h;obtain⟨⟨r,I⟩,H⟩:=h;split at r
  ·rename_i u;exact⟨u,fP I,lO H⟩
  ·cases r
 |str =>
  simp only[tiB,BI]at h;obtain⟨⟨r,I⟩,H⟩:=h;split at r
  ·rename_i u;exact⟨u,fP I,lO H⟩
  ·cases r
 |ptr =>
  simp only[tiB,BI]at h;obtain⟨⟨r,I⟩,H⟩:=h;split at r
  ·rename_i e u;exact⟨⟨e,u⟩,fP I,lO H⟩
  ·cases r
 |fn =>
  simp only[tiB,BI]at h;obtain⟨⟨r,I⟩,H⟩:=h;split at r
  ·rename_i x y z u;exact⟨⟨x,y,z,u⟩,fP I,lO H⟩
  ·cases r
 |slice E e a0 =>
  simp only[tiB,BI]at h;obtain⟨⟨⟨⟨⟨⟨⟨r,I⟩,H⟩,Z⟩,M⟩,Y⟩,R⟩,J⟩:=h;have a1:e=.int .u8->P.underlying E=some (.int .u8):=by
   intro he;subst he;have J:u8B P E=true:=by simpa[isU8]using J
   unfold u8B at J;split at J
   ·rename_i hq;exact hq
   ·cases J
  split at r
  ·rename_i E' u;rw[BN r]at u;split at R
   ·rename_i ti X;simp only[BI]at R;obtain⟨h8,h9⟩:=R;split at h9
    ·rename_i z hz;have O:=fP Y;unfold bO at O;rw[X]at O;simp only[B9,BG]at O;exact⟨u,fP I,lO H,by simpa[CS]using Z,⟨by simpa[CS]using M,a1⟩,ti,z,X,O,BN h8,hz,mC h9⟩
    ·cases h9
   ·cases R
  ·cases r
 |arr e n =>
  simp only[tiB,BI]at h;obtain⟨⟨⟨r,I⟩,H⟩,Z⟩:=h;split at r
  ·rename_i m E u;simp only[BI]at r;obtain⟨⟨M,Y⟩,R⟩:=r;rw[BN M]at u;exact⟨⟨E,u,fP Y,qS R⟩,by simpa[CS]using I,fP H,ym Z⟩
  ·cases r
 |struct a a2 =>
  simp only[tiB,BI,CW,CK]at h;obtain⟨⟨⟨⟨⟨r,I⟩,H⟩,Z⟩,M⟩,Y⟩:=h;split at r
  ·rename_i fs u;obtain⟨R,h8⟩:=ql r;refine⟨⟨fs,u,R,λi off n agg hx=>?_⟩,fP I,ym H,?_,Y⟩
   ·obtain⟨q1,f,q2,q3⟩:=h8 i off n agg hx;exact⟨q1,f,by simpa using q2,q3⟩
   ·intro hf;rcases M with M|M
    ·rw[hf]at M;cases M
    ·exact AQ M Z hf
  ·cases r
def tlB (P:Program):List (TypeId×TI)->Bool
 |[]=>true
 |x::l=>tiB P x.1 x.2&&tlB P l
theorem jb:∀ {l:List (TypeId×TI)},tlB P l=true->TOk P (gD l):=by
 intro l h;refine sD ?_;induction l with
 |nil=>simp
 |cons x l u =>
  simp only[tlB,BI]at h;intro y r;rcases BU.1 r with rfl|r
  ·exact BD h.1
  ·exact u h.2 y r
end
section
variable {P:Program} {T:TypeId->TI}
theorem kY (hT:TOk P T)(X:P.follows .mixedOrders=true){f:FuncId}{fn:Func}(hf:P.funcs[f]?=some fn)(hn:(fn.name== "runtime.NumGoroutine")=false) {E:TypeId} {e:Ty} {rs:List RK} {r:Bool}
  {a0:ab [PK.rd (.list false E e)]->Option (ai rs×ah [PK.rd (.list false E e)])} {R0 A B C:Code} {rid:Nat} {o0 o1:Oper} {d0 q t t':Nat} {x0:Operand} {L:List (Nat×List (Nat×List Coe))} {K:Nat}
  (hb:fn.body=some (.seq R0 (.seq (.seq (.region rid #[o0,o1] false) (.cond (.tmp q) A B)) C))) (bb:o0.guard=none) (dd:o0.op=.move x0) (bl:o1.op=.binOp .eql t (.tmp d0) (.const (.slice none 0 0)) t') (cw:o1.guard=none) (b0:o1.dst=some q)
  {E':TypeId} (ht:P.underlying t=some (.slice E'))
  (a3:(dK fn.ntmps [] (.seq R0 (.seq (.seq (.region rid #[o0,o1] false) (.cond (.tmp q) A B)) C))&&Cs 1 fn.ntmps&&Cs fn.ntmps GH&&qp rs&&dj L [] (.seq R0 (.seq (.seq (.region rid #[o0,o1] false) (.cond (.tmp q) A B)) C)))=true)
  {S1:ab [PK.rd (.list false E e)]->St}
  (bx:∀ x,evK [] T L K R0 (av (c5 0 [PK.rd (.list false E e)] x)) (oL (λs _=>act [] T o0 s (λU=>some (ac U s))) (λ_ _=>none))=some (S1 x))
  (Z:∀ x,one (S1 x) (.tmp d0)=.ro true E e x.1)
  (hF:∀ x,evK [] T L K (.seq (.cond (.tmp q) A B) C) (ac (cf (S1 x) [] q .one [.bool false]) (S1 x)) (cS T [PK.rd (.list false E e)] rs r fn.results.toList)=a0 x)
  (d2:∀ x y,x.1=[]->a0 x=some y->evK [] T L K (.seq (.cond (.tmp q) A B) C) (ac (cf (S1 x) [] q .one [.bool true]) (S1 x)) (cS T [PK.rd (.list false E e)] rs r fn.results.toList)=some y) :
  bN P ⟨f,[PK.rd (.list false E e)],rs,r,a0⟩:=by
 refine⟨dW hf hn hb,λw ro x vs u y Y d3 c2 hy=>?_⟩;simp only[BI]at a3;obtain⟨⟨⟨⟨h1,h2⟩,h3⟩,h4⟩,h5⟩:=a3;have h2:=CC h2;have h3:=CC h3;have hV:ax (ge w ro [PK.rd (.list false E e)] vs u fn.ntmps):=⟨λk hk=>d3 k hk,h3⟩;have b3:=vA (P:=P) (ro:=ro) Y c2 h2 h3;have hnoΓ:∀ c∈([]:List Ctr),bN P c:=by simp
 have b1:∀ z∈(ge w ro [PK.rd (.list false E e)] vs u fn.ntmps).fixb,z.1∈([]:List Nat):=λz hz=>ki (ps:=[PK.rd (.list false E e)]) hz
 have O:∀ z∈(ge w ro [PK.rd (.list false E e)] vs u fn.ntmps).fixt,z.1∈([]:List Nat):=λz hz=>kh (ps:=[PK.rd (.list false E e)]) hz
 simp only[dK,BI]at h1;simp only[dj,BI]at h5;obtain⟨cp,⟨ba,c1⟩,cc⟩:=h1;obtain⟨c4,⟨_,cx⟩,d1⟩:=h5;refine calls_of_wp hf hb ?_;rw[C6];generalize cy:bodyPost P fn (tD ⟨f,[PK.rd (.list false E e)],rs,r,a0⟩ w ro vs u y)=Q;have hQ:∀ ex s1,cS T [PK.rd (.list false E e)] rs r fn.results.toList ex s1=some y->∀ a I,Rel P (ge w ro [PK.rd (.list false E e)] vs u fn.ntmps) s1 a I->Q (exOf ex) a I:=by
  intro ex s1 b9 a' I J;obtain⟨cb,v,R,b2⟩:=yj (c:=⟨f,[PK.rd (.list false E e)],rs,r,a0⟩) hT h4 hV Y h2 b9 J;have cu:a'.defers=[]:=by obtain⟨W,J⟩:=J;exact J.df
  subst cy;rcases cb with rfl|rfl <;> exact⟨cu,v,R,b2⟩
 have a9:∀ (b:Bool),evK [] T L K (.seq (.cond (.tmp q) A B) C) (ac (cf (S1 x) [] q .one [.bool b]) (S1 x)) (cS T [PK.rd (.list false E e)] rs r fn.results.toList)=some y ->
   ∀ a I,Rel P (ge w ro [PK.rd (.list false E e)] vs u fn.ntmps) (ac (cf (S1 x) [] q .one [.bool b]) (S1 x)) a I->(Code.cond (.tmp q) A B).wp P (Exit.then (C.wp P Q) Q) a I:=by
  intro b a6 a I J;refine so hV hT hnoΓ X b1 (nt:=fn.ntmps) (fix:=[]) rfl O (.cond (.tmp q) A B) (by simp only[dK,BI];exact c1) (by simp only[dj,BI];exact cx) _ _ y _ a6 (λex s1 H a I J=>?_) a I J;cases ex with
  |normal=>exact so hV hT hnoΓ X b1 (nt:=fn.ntmps) (fix:=[]) rfl O C cc d1 s1 _ y Q H hQ a I J
  |exit c0=>exact hQ (.exit c0) s1 H a I J
  |ret=>exact hQ .ret s1 H a I J
 have a5:∀ (i:Nat) (o:Oper),(#[o0,o1]:Array Oper)[i]?=some o->lC fn.ntmps [] #[o0,o1] o=true:=λi o hi=>by
  simp only[B6]at ba;exact ba o (by simpa using Co hi)
 refine wp_seq (so hV hT hnoΓ X b1 (nt:=fn.ntmps) (fix:=[]) rfl O R0 cp c4 _ _ (S1 x) _ (bx x) (λex s0 H a I J=>?_) _ _ b3);cases ex with
 |exit c0=>cases H
 |ret=>cases H
 |normal =>
  have H:act [] T o0 s0 (λU=>some (ac U s0))=some (S1 x):=H;rw[tK]at H;obtain⟨U,hU,H⟩:=CE.1 H;simp only[BG]at H;refine wp_seq (wp_seq (wp_region ?_));have a2:DF (#[o0,o1]:Array Oper).size=[0,1]:=rfl;rw[a2,wpOps_cons];refine wI hV hT hnoΓ (ops:=#[o0,o1]) (i:=0) (o:=o0) rfl (my rfl O (a5 0 o0 rfl)) (λj dc hg=>by rw[bb]at hg;cases hg) (U:=U) (by unfold mu;rw[bb];exact hU) J (λa1 w1 M=>?_);rw[H]at M;rw[wpOps_cons];obtain⟨W1,M⟩:=M;have a4:bL (ge w ro [PK.rd (.list false E e)] vs u fn.ntmps) o1:=my rfl O (a5 1 o1 rfl);obtain⟨h7,_,_,_,_⟩:=br M (.tmp d0) (by rw[Z x];simp);rw[Z x]at h7;obtain⟨A',b5,hv,_,c3⟩:=h7;have hv:a1.eval (.tmp d0)=.slice A' x.1.length b5:=by simpa using hv
  have b4:A'=none->x.1=[]:=λhA=>by
   cases hx:x.1 with
   |nil=>rfl
   |cons y ys =>
    obtain⟨g,o,bn,_⟩:=c3 (by rw[hx];simp);rw[hA]at bn;cases bn
  have a6:evK [] T L K (.seq (.cond (.tmp q) A B) C) (ac (cf (S1 x) [] q .one [.bool A'.isNone]) (S1 x)) (cS T [PK.rd (.list false E e)] rs r fn.results.toList)=some y:=by
   cases hA:A' with
   |none=>exact d2 x y (b4 hA) hy
   |some ad=>exact (hF x).trans hy
  have R:(execOp a1.eval o1).run P w1=.ok (.value (.bool A'.isNone)) w1:=by
   have:=Lib.run_eql_slice_nil (P:=P) w1 t E' A' x.1.length b5 0 0 ht;have hc:a1.eval (.const (.slice none 0 0))=.slice none 0 0:=rfl;simp[execOp,bl,hv,hc,eqGuard,this]
  unfold wpOp;have hi:(#[o0,o1]:Array Oper)[1]?=some o1:=rfl;simp only[hi];have hw:Region.wanted o1 (yielded #[o0,o1] a1.tmps)=true:=by simp[Region.wanted,cw]
  rw[if_pos hw];refine .inl (dR R ?_);rw[b0];show Exit.then _ _ _ _ _;exact a9 _ a6 _ _ (M.putLs hV q (a4 q b0).1 (a4 q b0).2 _ .one [.bool A'.isNone] (.bool A'.isNone) [.bool A'.isNone] (CP _) rfl ⟨⟨rfl,id,rfl⟩,trivial⟩)
end
open Go.ChangeShapes Go.WideShapes
section
variable {H:Type} {enc:TypeId×Value->H} {P:Program}
theorem mF (J:laidOutB P=true){W W':World}{M:Nat->Bool}:∀ {y:List TypeId} {z:List Value} {ds:List (DataW H)} {ps:List MemPlace},(∀ t∈y,P.readableRec t=true/\t<P.types.size) ->
  DataW.TrodAll enc P W 0 (λ_=>true) true y z ds ps->(∀ x∈ps,W.sameAt W' x)->(∀ x∈ps,M x.block=true)->DataW.TrodAll enc P W' 0 M true y z ds ps
 |[],[],[],_,_,h,_,_=>h
 |[],[],_::_,_,_,h,_,_=>h.elim
 |[],_::_,_,_,_,h,_,_=>h.elim
 |_::_,[],_,_,_,h,_,_=>h.elim
 |_::_,_::_,[],_,_,h,_,_=>h.elim
 |t::y,v::z,d::ds,ps,I,⟨p,q,R,Z,e⟩,O,u=>by
  subst e;refine⟨p,q,WideElems.Trod_stays J (I t (BM ..)).1 (I t (BM ..)).2 R (λx r=>O x (BJ _ r)) (λx r=>u x (BJ _ r)),
   mF J (λX Y=>I X (BL _ Y)) Z (λx r=>O x (BK _ r)) (λx r=>u x (BK _ r)),rfl⟩
theorem r8 (hl:laidOutB P=true){f:Func}{s:ChangeSpec}{u R J a0:Bool}{W W':World}{z:Array Value}{ds gs:List (DataW H)}{r:List MemPlace}
  (hW:DataW.Whole enc P f.params.toList s.vars u W z.toList ds gs r) (I:s.vars=[]) (hb:Below W.heap.size W W') (Z:∀ t∈f.params.toList,P.readableRec t=true/\t<P.types.size)
  {tb:TypeId} (O:f.resultTypes=#[tb]) (y:P.underlying tb=some .bool) (a2:(s.fn H (ds++gs)).results=[.lit (.bool true)]) (a1:(s.fn H (ds++gs)).args=ds) (a9:(s.fn H (ds++gs)).vars=[]) :
  s.post enc P f u R J a0 W z (.bool true) W':=by
 have Y:∀ p∈r,p.block<W.heap.size:=λp hp=>by simpa using hW.lt p hp
 have a3:=hW;obtain⟨p,q,hA,hV,e,hz,hn⟩:=hW;rw[I]at hV;obtain⟨rfl,rfl⟩:=trodVars_none hV;simp only[List.append_nil]at e;subst e;have X:∀ x∈r,W.sameAt W' x:=λx hx=>hb.same (Y x hx)
 have a4:(Value.bool true).resultList f.resultTypes.size=[.bool true]:=by rw[O];rfl
 have hr:∀ (b:Nat) (M:Nat->Bool) (hd:Bool),DataW.TrodAll enc P W' b M hd f.resultTypes.toList ((Value.bool true).resultList f.resultTypes.size) (s.fn H (ds++[])).results []:=by
  intro b M hd;rw[a4,a2,O];exact trodAll_mk1 (shut_bool y true)
 have ha:∀ (M:Nat->Bool),(∀ x∈r,M x.block=true)->DataW.TrodAll enc P W' 0 M true f.params.toList z.toList (s.fn H (ds++[])).args r:=by
  intro M a6;rw[a1];exact mF hl Z hA X a6
 have hv:∀ (M:Nat->Bool),DataW.TrodVars enc P W' M s.vars (s.fn H (ds++[])).vars []:=by
  intro M;rw[I,a9];rfl
 refine⟨ds,[],r,[],r,[],a3,hr _ _ _,ha _ (λx hx=>by simpa using Y x hx),hv _,hb.frame _,λ_=>⟨ok_one O rfl (okWide_bool_mk y true),_,_,([]++r)++[],⟨[]++r,[],trodAll_append (ha _ (λ_ _=>rfl)) (hr _ _ _),hv _,rfl,?_,?_⟩,?_⟩⟩
 ·intro b off hp;have hp:MemPlace.cell b off∈r:=by simpa using hp
  rw[hb.frozen (p:=⟨b,off,none⟩) (Y _ hp)];exact hz b off hp
 ·intro a5;have:=hn a5;simpa using this
 ·intro x hx _;simpa using hx
end
section
variable {H:Type} {enc:TypeId×Value->H} {P:Program} {w:World} {base:Nat} {spare:Nat->Bool} {held:Bool}
def shF (P:Program)(g:Ty->TypeId->Bool):List Field->Nat->Ty->Bool
 |[],_,_=>false
 |[f],off,b=>BP f.offset off&&BP (P.cellsOf f.type) b.cells&&g b f.type
 |f::r,off,.pair b c=>BP f.offset off&&BP (P.cellsOf f.type) b.cells&&g b f.type&&shF P g r (off+b.cells) c
 |_,_,_=>false
def shT (P:Program):Nat->Ty->TypeId->Bool
 |0,_,_=>false
 |n+1,a,t=>match a with
  |.int k=>(match P.underlying t with|some (.int k')=>decide (k'=k)|_=>false)
  |.bool=>(match P.underlying t with|some .bool=>true|_=>false)
  |.str=>(match P.underlying t with|some .string=>true|_=>false)
  |.pair b c=>(match P.underlying t with|some (.struct fs)=>shF P (shT P n) fs.toList 0 (.pair b c)&&BP (P.cellsOf t) (b.cells+c.cells)|_=>false)
  |.list _ E e=>(match P.underlying t with|some (.slice E')=>BP E' E&&BP (P.cellsOf E) e.cells&&Cl 0 e.cells&&shT P n e E|_=>false)
  |.unit=>false
  |.hdr=>false
def Sm:(a:Ty)->a.den->Prop
 |.int k,n=>(Lit.int k n).wf=true
 |.pair a b,x=>Sm a x.1/\Sm b x.2
 |.list _ _ e,r=>r.length<=maxLen/\∀ x∈(r:List e.den),Sm e x
 |.bool,_=>True
 |.str,s=>s.size<=maxLen
 |.unit,_=>True
 |.hdr,_=>True
theorem kZ {α β:Type}{f:α->Option β}:∀ (l:List α) (r:List β),l.mapM f=some r->r.length=l.length/\∀ (i:Nat) (x:α),l[i]?=some x->∃ y,f x=some y/\r[i]?=some y
 |[],r,h=>by
  simp at h;subst h;exact⟨rfl,λi x R=>by simp at R⟩
 |x::l,r,h=>by
  rw[Cr]at h;cases z:f x with
  |none=>rw[z]at h;cases h
  |some y =>
   rw[z]at h;cases I:l.mapM f with
   |none=>rw[I]at h;cases h
   |some M =>
    rw[I]at h;cases h;obtain⟨O,X⟩:=kZ l M I;refine⟨by simp[O],λi u J=>?_⟩;cases i with
    |zero=>simp at J;subst J;exact⟨y,z,rfl⟩
    |succ i=>simpa using X i u (by simpa using J)
theorem rS {a:Addr}{n:Nat}{cs:List Value}(h:w.cells? base a n=some cs):base<=a.block/\cs.length=n/\∀ i u,cs[i]?=some u->w.cell? (a.add i)=some u:=by
 unfold World.cells? at h;split at h
 ·rename_i J;obtain⟨r,O⟩:=kZ _ _ h;refine⟨J,by simpa using r,λi u I=>?_⟩;have R:i<n:=by have:=(BQ.1 I).1;rw[r]at this;simpa using this
  obtain⟨y,M,z⟩:=O i i (by simp[R]);rw[I]at z;cases z;exact M
 ·cases h
theorem oG {g:Ty->TypeId->Bool}{rd:TypeId->List Value->Option (DataW H×List MemPlace)}
  (X:∀ b t,g b t=true->∀ cs d,rd t cs=some d->∃ x:b.den,Rd w (λk=>k<w.heap.size) b x cs/\Sm b x) :
  ∀ (fs:List Field) (off:Nat) (b:Ty),shF P g fs off b=true->∀ (cs:List Value),cs.length=off+b.cells ->
   (∀ f∈fs,∃ d,rd f.type ((cs.drop f.offset).take (P.cellsOf f.type))=some d)->∃ x:b.den,Rd w (λk=>k<w.heap.size) b x (cs.drop off)/\Sm b x
 |[],_,_,h=>by simp[shF]at h
 |[f],off,b,h=>by
  intro cs I M;simp only[shF,BI]at h;obtain⟨⟨r,u⟩,R⟩:=h;have r:=BN r;have u:=BN u;obtain⟨d,J⟩:=M f (BM ..);rw[r,u,List.take_of_length_le (by simp;omega)]at J;exact X b f.type R _ d J
 |f::z::fs,off,.pair b c,h=>by
  intro cs I M;simp only[shF,BI]at h;obtain⟨⟨⟨r,u⟩,R⟩,h4⟩:=h;have r:=BN r;have u:=BN u;have I:cs.length=off+(b.cells+c.cells):=I;obtain⟨d,J⟩:=M f (BM ..);rw[r,u]at J;obtain⟨x,hx,Y⟩:=X b f.type R _ d J;obtain⟨y,hy,O⟩:=oG X (z::fs) (off+b.cells) c h4 cs (by omega) (λf0 Z=>M f0 (BL _ Z));refine⟨(x,y),⟨_,_,?_,hx,hy⟩,Y,O⟩;rw[<- Cp,List.take_append_drop]
 |f::z::fs,off,.int _,h=>by simp[shF]at h
 |f::z::fs,off,.bool,h=>by simp[shF]at h
 |f::z::fs,off,.str,h=>by simp[shF]at h
 |f::z::fs,off,.unit,h=>by simp[shF]at h
 |f::z::fs,off,.list _ _ _,h=>by simp[shF]at h
 |f::z::fs,off,.hdr,h=>by simp[shF]at h
theorem oH {β:Type}(Q:Nat->β->Prop):∀ (n:Nat),(∀ i,i<n->∃ x,Q i x)->∃ u:List β,u.length=n/\∀ i x,u[i]?=some x->Q i x
 |0,_=>⟨[],rfl,λi x h=>by simp at h⟩
 |n+1,h=>by
  obtain⟨u,I,M⟩:=oH Q n (λi O=>h i (by omega));obtain⟨x,J⟩:=h n (by omega);refine⟨u++[x],by simp[I],λi y r=>?_⟩;by_cases O:i<n
  ·rw[CA (by omega)]at r;exact M i y r
  ·have z:i<(u++[x]).length:=(BQ.1 r).1;have:i=n:=by simp at z;omega
   subst this;rw[B8 (by omega),I,Nat.sub_self]at r;simp at r;subst r;exact J
theorem qT:∀ (n:Nat) (a:Ty) (t:TypeId),shT P n a t=true->∀ (I:Nat) (cs:List Value) (d:DataW H×List MemPlace),DataW.trod enc P w base spare held I t cs=some d ->
    ∃ x:a.den,Rd w (λk=>k<w.heap.size) a x cs/\Sm a x
  |0,_,_,h=>by simp[shT]at h
  |n+1,a,t,h=>by
    intro I cs d r;cases I with
    |zero=>simp[DataW.trod]at r
    |succ I =>
      cases a with
      |int k =>
        simp only[shT]at h;split at h
        · rename_i k' O
          have hk:=of_decide_eq_true h;subst hk;simp only[DataW.trod,O]at r;split at r <;> first|(rename_i M;cases M;done)|skip
          all_goals first
            | (rename_i k1 k2 m J
               cases J;split at r
               · rename_i hw
                 obtain⟨rfl,hw⟩:=hw;exact⟨m,rfl,hw⟩
               · cases r)
            |cases r
        · cases h
      |bool =>
        simp only[shT]at h;split at h
        · rename_i O
          simp only[DataW.trod,O]at r;split at r <;> first|(rename_i M;cases M;done)|skip
          all_goals first
            |(rename_i b J;exact⟨b,rfl,trivial⟩)
            |cases r
        · cases h
      |str =>
        simp only[shT]at h;split at h
        · rename_i O
          simp only[DataW.trod,O]at r;split at r <;> first|(rename_i M;cases M;done)|skip
          all_goals first
            | (rename_i b J
               split at r
               · rename_i hb
                 exact⟨b,rfl,hb⟩
               · cases r)
            |cases r
        · cases h
      |unit=>simp[shT]at h
      |hdr=>simp[shT]at h
      |pair b c =>
        simp only[shT]at h;split at h
        · rename_i fs O
          simp only[BI]at h;obtain⟨h1,h2⟩:=h;have h2:=BN h2;simp only[DataW.trod,O]at r;split at r
          · rename_i a3
            simp only[BO]at r;obtain⟨ys,b1,_⟩:=r;obtain⟨h3,h4⟩:=kZ _ _ b1;have:=oG (w:=w) (rd:=DataW.trod enc P w base spare held I) (λb t hb cs d r=>qT n b t hb I cs d r) fs.toList 0 (.pair b c) h1 cs (by rw[a3,h2,CQ];rfl) (λf hf=>by
              obtain⟨i,hi,e⟩:=Cx hf;obtain⟨y,h5,_⟩:=h4 i f (by rw[BX hi,e]);exact⟨y,h5⟩)
            simpa using this
          · cases r
        · cases h
      |list m E e =>
        simp only[shT]at h;split at h
        · rename_i E' O
          simp only[BI]at h;obtain⟨⟨⟨h1,h2⟩,h3⟩,h4⟩:=h;have h1:=BN h1;subst h1;have h2:=BN h2;have h3:0<e.cells:=by simpa[CS]using h3
          simp only[DataW.trod,O]at r;split at r <;> first|(rename_i M;cases M;done)|skip
          all_goals first
            |cases r;done
            |skip
          · exact⟨[],Rd.nil w _ m _ e,DB _,by simp⟩
          · rename_i E2 R a6 b3 J
            cases J;split at r
            · rename_i hc
              obtain⟨b2,bl,bb⟩:=hc;obtain⟨ba,a1,_⟩:=CE.1 r;obtain⟨h5,h6⟩:=kZ _ _ a1;have b0:∀ i,i<a6->∃ x:e.den,∃ c,w.cells? base (R.add (i*e.cells)) e.cells=some c/\Rd w (λk=>k<w.heap.size) e x c/\Sm e x:=by
                intro i hi;obtain⟨y,h7,_⟩:=h6 i i (by simp[hi]);obtain⟨c,h8,h9⟩:=CE.1 h7;rw[h2]at h8;obtain⟨x,hx,b5⟩:=qT n e _ h4 I c y h9;exact⟨x,c,h8,hx,b5⟩
              obtain⟨xs,b4,Z⟩:=oH (λi (x:e.den)=>∃ c,w.cells? base (R.add (i*e.cells)) e.cells=some c/\Rd w (λk=>k<w.heap.size) e x c/\Sm e x) a6 b0;refine⟨xs,⟨some R,b3,by rw[b4],by omega,λhp=>?_⟩,by omega,λx hx=>?_⟩
              · have a9:0<xs.length:=hp
                obtain⟨c,X,a4,_⟩:=Z 0 xs[0] (BX a9);obtain⟨_,b9,a0⟩:=rS X;have h0:0<c.length:=by omega
                have z:=a0 0 c[0] (BX h0);have e0:(R.add (0*e.cells)).add 0=R:=by simp[Addr.add]
                rw[e0]at z;have Y:R.spot=none/\R.block<w.heap.size:=by
                  unfold World.cell? at z;split at z
                  · rename_i hh
                    split at z
                    · cases z
                    · rename_i hs
                      refine⟨by simpa using hs,(Cb.1 hh).1⟩
                  · cases z
                obtain⟨g,o,sp⟩:=R;obtain⟨a2,a5⟩:=Y;simp only at a2 a5;subst a2;refine⟨g,o,rfl,a5,λj x hj=>?_⟩;obtain⟨c,X,a4,_⟩:=Z j x hj;obtain⟨_,_,a0⟩:=rS X;refine⟨c,a4,λi u hi=>?_⟩;have:=a0 i u hi
                rwa [fa,fa]at this
              · obtain⟨j,hj,e1⟩:=Cx hx
                obtain⟨c,_,_,hs⟩:=Z j x (by rw[BX hj,e1]);exact hs
            · cases r
        · cases h
end
section
variable {H:Type} {enc:TypeId×Value->H} {P:Program} {w:World}
theorem zA {n:Nat}{a:Ty}{t:TypeId}(r:shT P (n+1) a t=true){v:Value}{d:DataW H}{p:List MemPlace}(M:DataW.Trod enc P w 0 (λ_=>true) true t v d p){base:Nat}(u:DI P w .any base t v) :
  ∃ x:a.den,(∃ I,da a.isAgg v I/\Rd w (λk=>k<w.heap.size) a x I)/\Sm a x:=by
 obtain⟨z,M⟩:=M;obtain⟨x,R,J⟩:=qT (n+1) a t r z _ _ M;refine⟨x,⟨v.cells.toList,?_,R⟩,J⟩;cases a with
 |int k =>
  simp only[shT]at r;split at r
  ·rename_i Z y;obtain⟨n,rfl⟩:=okWide_int y u;rfl
  ·cases r
 |bool =>
  simp only[shT]at r;split at r
  ·rename_i y;obtain⟨n,rfl⟩:=okWide_bool y u;rfl
  ·cases r
 |str =>
  simp only[shT]at r;split at r
  ·rename_i y;obtain⟨n,rfl⟩:=okWide_string y u;rfl
  ·cases r
 |list m E e =>
  simp only[shT]at r;split at r
  ·rename_i Y y;obtain⟨A,O,X,rfl⟩:=okWide_slice y u;rfl
  ·cases r
 |unit=>simp[shT]at r
 |hdr=>simp[shT]at r
 |pair b c =>
  simp only[shT]at r;split at r
  ·rename_i fs y;obtain⟨I,rfl,_⟩:=okWide_struct y u;show Value.agg I=.agg (Value.agg I).cells.toList.toArray;simp[Value.cells]
  ·cases r
def Sms:(as:List Ty)->ab (as.map .rd)->Prop
 |[],_=>True
 |a::as,x=>Sm a x.1/\Sms as x.2
def ub (P:Program):List Ty->List TypeId->Bool
 |[],[]=>true
 |a::as,t::r=>shT P 64 a t&&ub P as r
 |_,_=>false
theorem rT {pr:Nat->Prop}:∀ (as:List Ty) (z:List TypeId) (u:List Value) (ds:List (DataW H)) (ps:List MemPlace),ub P as z=true->DataW.TrodAll enc P w 0 (λ_=>true) true z u ds ps ->
  (∃ r,∀ (j:Nat) (t:TypeId) (v:Value),z[j]?=some t->u[j]?=some v->DI P w .any r t v)->∃ x:ab (as.map .rd),c8 P w (λk=>k<w.heap.size) pr (as.map .rd) x u (as.map λ_=>[])/\Sms as x
 |[],[],[],[],_,_,_,_=>⟨(),⟨rfl,rfl⟩,trivial⟩
 |[],[],[],_::_,_,_,h,_=>h.elim
 |[],[],_::_,_,_,_,h,_=>h.elim
 |[],_::_,_,_,_,h,_,_=>by simp[ub]at h
 |_::_,[],_,_,_,h,_,_=>by simp[ub]at h
 |_::_,_::_,[],_,_,_,h,_=>h.elim
 |_::_,_::_,_::_,[],_,_,h,_=>h.elim
 |a::as,t::z,v::u,d::ds,ps,M,⟨p,q,R,Z,_⟩,⟨r,I⟩=>by
  simp only[ub,BI]at M;obtain⟨x,hx,O⟩:=zA (n:=63) M.1 R (I 0 t v rfl rfl);obtain⟨y,hy,J⟩:=rT as z u ds q M.2 Z ⟨r,λj X v' Y h4=>I (j+1) X v' (by simpa using Y) (by simpa using h4)⟩;exact⟨(x,y),⟨v,u,[],_,rfl,rfl,⟨rfl,hx⟩,hy⟩,O,J⟩
theorem zC (tys:List Ty):(tys.map λ_=>([]:List Nat)).flatten=[]:=by
 induction tys with
 |nil=>rfl
 |cons a tys r=>simp
theorem yn {f:FuncId}{tys:List Ty}{y:Bool}{J:ab (tys.map PK.rd)->Option (ai [.v .bool]×ah (tys.map PK.rd))}(hs:bN P ⟨f,tys.map .rd,[.v .bool],y,J⟩){x:ab (tys.map .rd)}{Y:List Value}{o:ah (tys.map .rd)}
  (hx:c8 P w (λk=>k<w.heap.size) (λk=>k<w.heap.size) (tys.map .rd) x Y (tys.map λ_=>[])) (hd:J x=some ((true,()),o)):Calls P f Y.toArray w (λe w'=>e=.returned (.bool true)/\Below w.heap.size w w'):=by
 have R:=zC tys;have:=hs.2 w (λk=>k<w.heap.size) x Y _ _ (hx.mono (λ_ h=>h) (λk I=>⟨I,by rw[R];simp⟩)) (λk I=>⟨I,by rw[R];simp⟩) (by rw[R];exact Cd) hd;refine this.mono λe w' hp=>?_
 obtain⟨v,us,N,a5,a6,rfl,r,a2,Z,X,a1,a0,_,_,O,_,_⟩:=hp;refine⟨?_,⟨Z,X,a1,a2,λk I=>a0 k I (by rw[R];simp)⟩⟩;obtain⟨u,a4,b,a3,e1,e2,⟨cs,z,M⟩,e3,e4⟩:=O;subst e3;subst e1;have r:v=u:=r;subst r;have z:cs=[v]:=z;have M:cs=[.bool true]:=M.1;rw[z]at M;simp only[Cm,and_true]at M;rw[M]
end
end Go.Proofs.YtaegajachoklkabGreatEv
