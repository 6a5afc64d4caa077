/- One operation looks at some slots alone. -/
import Derived.Test.YtaegajachoklkaaGreatE3
import Derived.Laws.StructEq
import Derived.Lib.SliceRun
import Derived.ProofKit
set_option linter.unusedVariables false
set_option linter.unusedSimpArgs false
open Array renaming getElem?_eq_getElem->BP,getD_eq_getD_getElem?->BQ,replicate->CF,all_eq_true_iff_forall_mem->CQ,getElem?_eq_some_iff->CY,getElem?_append_left->CZ,getElem?_replicate->Cf,mem_of_getElem?->Cl,length_toList->Cr,mem_append->C5
open Bool renaming and_eq_true->BF,not_eq_true'->CH,or_eq_true->CT,false_eq_true->CW,and_false->CX,and_true->Ce,true_and->Cv,not_false->DD
open Classical renaming byContradiction->B8
open Go.ByteArray renaming toList_eq->Ct
open Go.Result renaming andThen_ok->CL
open Go.Sem renaming run_bind->CR,run_pure->C0
open Go.Value renaming okWide->DF
open List renaming mem_append->BE,mem_append_left->BG,mem_append_right->BH,mem_cons_of_mem->BI,mem_cons_self->BJ,getElem?_eq_some_iff->BN,mem_map->BO,mem_cons->BR,getD_eq_getElem?_getD->BS,flatten_cons->BT,getElem?_eq_getElem->BU,mem_flatMap->BW,count_append->BX,mem_singleton_self->BY,count_pos_iff->BZ,all_eq_true->B3,map_cons->B4,getElem?_append_right->B5,getElem?_append_left->B7,append_assoc->CA,nil_append->CC,mem_singleton->CD,nodup_cons->CE,length_cons->CJ,nodup_append->CK,mem_filter->CO,any_eq_true->CS,map_append->CU,count_cons->CV,nodup_nil->Ca,count_eq_zero->Cb,any_eq_false->Cc,all_cons->Cd,getElem?_cons_succ->Ch,getElem?_eq_none->Ck,drop_drop->Cm,mapM_cons->Co,map_congr_left->Cq,countP_eq_zero->Cs,getElem_of_mem->Cu,set_cons_succ->Cw,find?_eq_none->Cy,getElem?_map->Cz,size_toArray->C3,mem_toArray->C4,countP_cons->C6,foldl_cons->DA,range->DC,map_nil->DE
open List.cons renaming injEq->Cj
open Nat renaming eq_of_beq_eq_true->BK,beq->BM,le_of_ble_eq_true->B9,lt_succ_self->CM,zero_add->CN,blt_eq->CP,blt->Ci,le_refl->Cn,ble->Cp,lt_of_lt_of_le->Cx,zero_le->C8,strongRecOn->DB
open Option renaming map_eq_some_iff->BL,map_some->B6,bind_eq_some_iff->CB,bind_assoc->CG,bind_some->CI,bind_none->Cg,getD_some->C7
open Option.some renaming injEq->BD,inj->C9
open Prod.mk renaming injEq->BV
namespace Go.Proofs.YtaegajachoklkaaGreatEv
open Go Go.RowKit
section
variable {P:Program} {V:Env} {Γ:List Ctr} {T:TypeId->TI} {st st':St} {o:Oper} {R:Type} {κ:Upd->Option R} {r:R}
theorem gz {α β:Type}(b:Bool)(x y:Option α)(f:α->Option β):(bif b then x else y).bind f=bif b then x.bind f else y.bind f:=by cases b <;> rfl
theorem wA {b:Option (Bool×Nat×Nat)}{U:Upd}:j0 st b U κ=(j0 st b U some).bind κ:=by
 unfold j0;split
 ·split
  ·simp only[CG];congr 1;funext y;split <;> rfl
  ·rfl
 ·rfl
theorem wB {d:Nat}{f:FuncId}{xs:List (aI×List Leaf)}:ju Γ st d f xs κ=(ju Γ st d f xs some).bind κ:=by
 unfold ju;cases lV Γ f with
 |none=>rfl
 |some c =>
  simp only[gy,CG];congr 1;funext u;cases oJ Γ (ac u.1 st) c.ps u.2.1 with
  |none=>rfl
  |some g =>
   simp only[gz,CG,Cg];congr 2;funext y;exact wA
theorem mJ {z:St}{H:Upd}{d:Nat}{E:TypeId}{e:Ty}{u:Nat}{p:Bool}{xs:List e.den}{ks:List (Nat×Nat)}{y:Leaf}:dU st z H d E e u p xs ks y κ=(dU st z H d E e u p xs ks y some).bind κ:=by
 unfold dU;split
 ·simp only[gz,Cg,CI]
 ·rfl
theorem tH {z:Upd}{d:Nat}{E:TypeId}{e:Ty}{u:Nat}{x y:Leaf}:er st z d E e u x y κ=(er st z d E e u x y some).bind κ:=by
 unfold er;split
 ·split
  ·rw[gz,<- mJ];rfl
  ·rfl
 ·exact mJ
 ·rfl
theorem tI {d:Nat}{E:TypeId}{e:Ty}{u:Nat}{x y:Leaf}:iw st d E e u x y κ=(iw st d E e u x y some).bind κ:=by
 unfold iw;simp only[hH,gz,CG,<- tH]
theorem ny {r j i off n:Nat}{p:Bool}{E:TypeId}{e:Ty}{xs:List e.den}{h:Option (Nat×Nat)}{ls:List Leaf}:gE st r j i off n p E e xs h ls κ=(gE st r j i off n p E e xs h ls some).bind κ:=by
 unfold gE;simp only[CG];congr 1;funext u;split
 ·rw[gz];congr 1;split
  ·rfl
  ·simp only[gz,CI]
 ·rfl
theorem tJ:act Γ T o st κ=(act Γ T o st some).bind κ:=by
 cases u:o.op <;> simp only[act,wrU,u] <;> (repeat' split) <;>
  (try simp only[gz,CG,Cg,CI]) <;> (try rfl) <;> (try exact wB) <;> (try (rw[tI];done)) <;> (try (rw[ny];done)) <;> (try (rw[<- ny];done))
theorem bm {q:Nat}(h:st' q=st q):∀ (U:Upd),ac U st' q=ac U st q
 |[]=>h
 |(r,c)::U=>by simp only[ac,bm h U]
theorem dS {x:Operand}(h:∀ t,x=.tmp t->st' t=st t):au st' x=au st x:=by
 cases x with
 |tmp t=>simp only[au,h t rfl]
 |_=>rfl
theorem dB {x:Operand}(h:∀ t,x=.tmp t->st' t=st t):one st' x=one st x:=by
 unfold one;rw[dS h]
theorem lp:∀ (y u:List Leaf),aw (y++u)=aw y++aw u
 |[],_=>rfl
 |l::y,u=>by cases l <;> simp[aw,lp y u]
theorem aL (l:Leaf)(ls:List Leaf):aw (l::ls)=aw [l]++aw ls:=lp [l] ls
theorem fF:∀ (n:Nat) (ls:List Leaf) (q:Nat),q∈aw (ls.drop n)->q∈aw ls
 |0,_,_,h=>h
 |n+1,[],_,h=>h
 |n+1,l::ls,q,h=>by rw[aL];exact BH _ (fF n ls q h)
theorem rD:∀ (n:Nat) (ls:List Leaf) (q:Nat),q∈aw (ls.take n)->q∈aw ls
 |0,_,_,h=>by simp[aw]at h
 |n+1,[],_,h=>by simp[aw]at h
 |n+1,l::ls,q,h=>by
  rw[List.take_succ_cons,aL,BE]at h;rw[aL,BE];exact h.imp id (rD n ls q)
theorem qL:∀ {ls:List Leaf} {k:Nat} {l:Leaf},ls[k]?=some l->∀ q∈aw [l],q∈aw ls
 |[],_,_,h,_,_=>by simp at h
 |y::ls,0,l,h,q,u=>by simp at h;subst h;rw[aL];exact BG _ u
 |y::ls,k+1,l,h,q,u=>by rw[aL];exact BH _ (qL (by simpa using h) q u)
theorem jN {ks:List (Nat×Nat×Nat)}{ep:Nat}(h:∀ q∈EPO::ks.map (·.1),st' q=st q):br st' ks ep=br st ks ep:=by
 unfold br;rw[h EPO (BJ ..)];congr 1;induction ks with
 |nil=>rfl
 |cons k ks y =>
  rw[Cd,Cd,y (λq u=>h q (by simp at u ⊢;rcases u with u|u;exact .inl u;exact .inr (.inr u))),h k.1 (by simp)]
theorem is {p:Bool}{ks:List (Nat×Nat×Nat)}{ep:Nat}{u:Option (Nat×Nat×Nat)}{E:TypeId}{e:Ty}{xs:List e.den}:aw [.nal p ks ep u E e xs]=EPO::ks.map (·.1):=by simp[aw]
theorem vn {p:Bool}{ks:List (Nat×Nat×Nat)}{ep:Nat}{a:Ty}{x:a.den}{off:Nat}:aw [.np p ks ep a x off]=EPO::ks.map (·.1):=by simp[aw]
theorem ci {l:Leaf}(h:∀ q∈aw [l],st' q=st q):aD st' l=aD st l:=by
 cases l with
 |al r j v=>simp only[aD,h r (by simp[aw])]
 |nal p z ep u E e y=>rw[is]at h;simp only[aD,jN h]
 |_=>rfl
theorem jY:∀ (a:Ty) (ls:List Leaf) (p:Bool) (x:a.den) (u:List Leaf),a8 st a ls=some (p,x,u)->∃ J,ls=J++u
 |.int k,ls,p,x,u,h=>by
  simp only[a8]at h;split at h
  ·split at h
   ·simp at h;exact⟨[_],by rw[<- h.2.2];rfl⟩
   ·cases h
  ·cases h
 |.bool,ls,p,x,u,h=>by
  simp only[a8]at h;split at h
  ·simp at h;exact⟨[_],by rw[<- h.2.2];rfl⟩
  ·cases h
 |.str,ls,p,x,u,h=>by
  simp only[a8]at h;split at h
  ·simp at h;exact⟨[_],by rw[<- h.2.2];rfl⟩
  ·cases h
 |.unit,ls,p,x,u,h=>by
  simp only[a8,BD,BV]at h;exact⟨[],by rw[h.2.2];rfl⟩
 |.hdr,ls,p,x,u,h=>by
  simp only[a8]at h;split at h
  ·split at h
   ·simp at h;exact⟨[_],by rw[<- h.2.2];rfl⟩
   ·cases h
  ·cases h
 |.pair a b,ls,p,x,u,h=>by
  simp only[a8]at h;split at h
  ·rename_i q y H M;split at h
   ·rename_i Z z I hb;simp at h;obtain⟨J,Y⟩:=jY a ls q y H M;obtain⟨X,O⟩:=jY b H Z z I hb;exact⟨J++X,by rw[Y,O,h.2.2,CA]⟩
   ·cases h
  ·cases h
 |.list m E e,ls,p,x,u,h=>by
  simp only[a8]at h;split at h
  ·split at h
   ·simp at h;exact⟨[_],by rw[<- h.2.2];rfl⟩
   ·cases h
  ·cases h
theorem gA:∀ (a:Ty) (ls:List Leaf),(∀ q∈aw ls,st' q=st q)->a8 st' a ls=a8 st a ls
 |.int k,ls,h=>rfl
 |.bool,ls,h=>rfl
 |.str,ls,h=>rfl
 |.unit,ls,h=>rfl
 |.hdr,ls,h=>by
  cases ls with
  |nil=>rfl
  |cons l ls =>
   simp only[a8];rw[ci (l:=l) (λq u=>h q (by rw[aL];exact BG _ u))]
 |.pair a b,ls,h=>by
  simp only[a8,gA a ls h];cases I:a8 st a ls with
  |none=>rfl
  |some x =>
   obtain⟨p,y,z⟩:=x;obtain⟨J,H⟩:=jY a ls p y z I;simp only;rw[gA b z (λq u=>h q (by rw[H,lp];exact BH _ u))]
 |.list m E e,ls,h=>by
  cases ls with
  |nil=>rfl
  |cons l ls =>
   simp only[a8];rw[ci (l:=l) (λq u=>h q (by rw[aL];exact BG _ u))]
theorem eK {a:Ty}{ls:List Leaf}(h:∀ q∈aw ls,st' q=st q):cQ st' a ls=cQ st a ls:=by
 unfold cQ;rw[gA a ls h]
theorem nz {e:Ty}:∀ (n:Nat) (ls:List Leaf),(∀ q∈aw ls,st' q=st q)->fE st' e n ls=fE st e n ls
 |0,_,_=>rfl
 |n+1,ls,h=>by
  simp only[fE,eK (ls:=ls.take e.cells) (λq u=>h q (rD _ _ q u)),nz n (ls.drop e.cells) (λq u=>h q (fF _ _ q u))]
theorem jo:∀ {ls:List Leaf},(∀ q∈aw ls,st' q=st q)->bz st' ls=bz st ls
 |[],_=>rfl
 |l::ls,h=>by
  have z:=jo (ls:=ls) (λq u=>h q (by rw[aL];exact BH _ u));cases l with
  |al r j v=>simp only[bz,z,ci (l:=.al r j v) (λq u=>h q (by rw[aL];exact BG _ u))]
  |nal p H ep y E e I=>simp only[bz,z,ci (l:=.nal p H ep y E e I) (λq u=>h q (by rw[aL];exact BG _ u))]
  |_=>simpa[bz]using z
theorem pa:∀ {ls:List Leaf},(∀ q∈aw ls,st' q=st q)->bZ st' ls=bZ st ls
 |[],_=>rfl
 |l::ls,h=>by
  have y:=pa (ls:=ls) (λq u=>h q (by rw[aL];exact BH _ u));cases l with
  |al r j v=>simp only[bZ,y,ci (l:=.al r j v) (λq u=>h q (by rw[aL];exact BG _ u))]
  |_=>simpa[bZ]using y
theorem qM:∀ {ls:List Leaf},(∀ q∈aw ls,st' q=st q)->du st' ls=du st ls
 |[],_=>rfl
 |l::ls,h=>by
  have z:=qM (ls:=ls) (λq y=>h q (by rw[aL];exact BH _ y));cases l with
  |nal p H ep u E e I =>
   cases u with
   |none=>simp only[du,z,ci (l:=.nal p H ep none E e I) (λq y=>h q (by rw[aL];exact BG _ y))]
   |some x=>simpa[du]using z
  |_=>simpa[du]using z
theorem pb {ls:List Leaf}(h:∀ q∈aw ls,st' q=st q):dF st' ls=dF st ls:=by
 unfold dF;induction ls with
 |nil=>rfl
 |cons l ls y =>
  rw[B4,B4,y (λq u=>h q (by rw[aL];exact BH _ u))];unfold gh;rw[ci (λq u=>h q (by rw[aL];exact BG _ u))]
theorem ez:∀ {ls:List Leaf} {x:Nat×Nat},x∈bz st ls->x.1∈aw ls
 |[],_,h=>by simp[bz]at h
 |l::ls,x,h=>by
  cases l with
  |al r j v =>
   simp only[bz,BE]at h;rcases h with h|h
   ·split at h
    ·simp at h;subst h;simp[aw]
    ·simp at h
   ·rw[aL];exact BH _ (ez h)
  |nal p z ep y E e H =>
   simp only[bz,BE]at h;rcases h with h|h
   ·split at h
    ·obtain⟨k,u,rfl⟩:=BO.1 h;rw[aL,is];exact BG _ (BI _ (BO.2 ⟨k,u,rfl⟩))
    ·simp at h
   ·rw[aL];exact BH _ (ez h)
  |_=>(simp only[bz]at h;rw[aL];exact BH _ (ez h))
theorem jp:∀ {ls:List Leaf} {x:Nat×Nat},x∈bZ st ls->x.1∈aw ls
 |[],_,h=>by simp[bZ]at h
 |l::ls,x,h=>by
  cases l with
  |al r j v =>
   simp only[bZ,BE]at h;rcases h with h|h
   ·split at h
    ·simp at h;subst h;simp[aw]
    ·simp at h
   ·rw[aL];exact BH _ (jp h)
  |_=>(simp only[bZ]at h;rw[aL];exact BH _ (jp h))
theorem ia:∀ {ls:List Leaf} {x:Nat×Nat},x∈du st ls->x.1∈aw ls
 |[],_,h=>by simp[du]at h
 |l::ls,x,h=>by
  cases l with
  |nal p H ep u E e I =>
   cases u with
   |none =>
    simp only[du,BE]at h;rcases h with h|h
    ·split at h
     ·obtain⟨k,z,rfl⟩:=BO.1 h;rw[aL,is];exact BG _ (BI _ (BO.2 ⟨k,z,rfl⟩))
     ·simp at h
    ·rw[aL];exact BH _ (ia h)
   |some y=>(simp only[du]at h;rw[aL];exact BH _ (ia h))
  |_=>(simp only[du]at h;rw[aL];exact BH _ (ia h))
theorem it:∀ {ks:List (Nat×Nat)},(∀ x∈ks,st' x.1=st x.1)->aN st' ks=aN st ks
 |[],_=>rfl
 |(r,j)::ks,h=>by
  simp only[aN,it (ks:=ks) (λx u=>h x (BI _ u)),bm (h (r,j) (BJ ..))]
theorem kn:∀ {ks:List (Nat×Nat)},(∀ x∈ks,st' x.1=st x.1)->aF st' ks=aF st ks
 |[],_=>rfl
 |(r,j)::ks,h=>by
  simp only[aF,kn (ks:=ks) (λx u=>h x (BI _ u)),bm (h (r,j) (BJ ..))]
theorem tK {ls:List Leaf}(h:∀ q∈aw ls,st' q=st q):mvU st' ls=mvU st ls:=by
 unfold mvU;rw[qM h,pa h,kn (λx u=>h _ (ia u))];simp only;rw[it (λx u=>bm (h _ (jp u)) _)]
theorem qN {ls:List Leaf}(h:∀ q∈aw ls,st' q=st q):ib st' ls=ib st ls:=by
 unfold ib;rw[qM h,pa h]
theorem jq:∀ (a:Ty) (ls:List Leaf),(∀ q∈aw ls,st' q=st q)->take st' a ls=take st a ls
 |.int k,ls,h=>by simp only[take,gA (.int k) ls h]
 |.bool,ls,h=>by simp only[take,gA .bool ls h]
 |.str,ls,h=>by simp only[take,gA .str ls h]
 |.unit,ls,h=>rfl
 |.hdr,ls,h=>by simp only[take,gA .hdr ls h]
 |.pair a b,ls,h=>by
  simp only[take,jq a ls h];cases z:take st a ls with
  |none=>rfl
  |some x =>
   have H:=km.take_rest a ls x z;simp only;rw[jq b x.rest (λq y=>h q (fF a.cells ls q (by rw[<- H];exact y)))]
 |.list m E e,ls,h=>by
  cases ls with
  |nil=>rfl
  |cons l ls =>
   have u:∀ q∈aw [l],st' q=st q:=λq y=>h q (by rw[aL];exact BG _ y)
   simp only[take,ci u,jo u];congr 1;split
   ·rename_i r j v;rw[ci u]
   ·rfl
   ·rfl
theorem gQ {a:Ty}{ls:List Leaf}(h:∀ q∈aw ls,st' q=st q):cg st' a ls=cg st a ls:=by
 unfold cg;rw[jq a ls h]
theorem nW:∀ (a:Ty) (ls:List Leaf) (t:cI a.den),take st a ls=some t->(∀ z∈t.frz,z.1∈aw ls)/\∀ z∈t.kill,z.1∈aw ls
 |.int k,ls,t,h=>by simp only[take,BL]at h;obtain⟨_,_,rfl⟩:=h;exact⟨by simp,by simp⟩
 |.bool,ls,t,h=>by simp only[take,BL]at h;obtain⟨_,_,rfl⟩:=h;exact⟨by simp,by simp⟩
 |.str,ls,t,h=>by simp only[take,BL]at h;obtain⟨_,_,rfl⟩:=h;exact⟨by simp,by simp⟩
 |.hdr,ls,t,h=>by simp only[take,BL]at h;obtain⟨_,_,rfl⟩:=h;exact⟨by simp,by simp⟩
 |.unit,ls,t,h=>by simp only[take,BD]at h;subst h;exact⟨by simp,by simp⟩
 |.pair a b,ls,t,h=>by
  simp only[take]at h;split at h
  ·rename_i x J;split at h
   ·rename_i y Y;simp only[BD]at h;subst h;have X:=km.take_rest a ls x J;obtain⟨h1,Z⟩:=nW a ls x J;obtain⟨I,M⟩:=nW b x.rest y Y;rw[X]at I M;exact⟨λz u=>(BE.1 u).elim (h1 z) (λu=>fF _ _ _ (I z u)),λz u=>(BE.1 u).elim (Z z) (λu=>fF _ _ _ (M z u))⟩
   ·cases h
  ·cases h
 |.list m E e,ls,t,h=>by
  cases ls with
  |nil=>simp[take]at h
  |cons l ls =>
   have H:∀ q∈aw [l],q∈aw (l::ls):=λq O=>by rw[aL];exact BG _ O
   cases m with
   |false =>
    simp only[take,cond_false]at h;split at h
    ·simp only[BD]at h;subst h;exact⟨λz u=>H _ (ez u),by simp⟩
    ·cases h
   |true =>
    simp only[take,cond_true]at h;split at h
    ·split at h
     ·simp only[BL]at h;obtain⟨_,_,rfl⟩:=h;exact⟨by simp,λz u=>by simp at u;subst u;exact H _ (by simp[aw])⟩
     ·cases h
    ·simp only[BD]at h;subst h;exact⟨by simp,by simp⟩
    ·cases h
theorem ja {a:Ty}{ls:List Leaf}{t:cI a.den}(h:cg st a ls=some t):(∀ z∈t.frz,z.1∈aw ls)/\∀ z∈t.kill,z.1∈aw ls:=by
 unfold cg at h;split at h
 ·rename_i p x f k u;simp only[BD]at h;subst h;exact nW a ls _ u
 ·cases h
theorem kg:∀ {off n:Nat} (a:Ty) (pos:Nat) (x:a.den) (ls:List Leaf) (t:cI a.den),db st off n a pos x ls=some t->∃ k,t.rest=ls.drop k
 |off,n,.pair a b,pos,x,ls,t,h=>by
  simp only[db]at h;split at h
  ·rename_i u z;split at h
   ·rename_i v y;simp only[BD]at h;subst h;obtain⟨M,J⟩:=kg a pos x.1 ls u z;obtain⟨I,H⟩:=kg b (pos+a.cells) x.2 u.rest v y;exact⟨M+I,by show v.rest=_;rw[H,J,Cm]⟩
   ·cases h
  ·cases h
 |off,n,.unit,pos,x,ls,t,h=>by simp only[db,BD]at h;subst h;exact⟨0,rfl⟩
 |off,n,.hdr,pos,x,ls,t,h=>by simp[db]at h
 |off,n,.int k,pos,x,ls,t,h=>sc (a:=.int k) h
 |off,n,.bool,pos,x,ls,t,h=>sc (a:=.bool) h
 |off,n,.str,pos,x,ls,t,h=>sc (a:=.str) h
 |off,n,.list m E e,pos,x,ls,t,h=>sc (a:=.list m E e) h
where
 sc {a:Ty} {b:Bool} {x:a.den} {ls:List Leaf} {t:cI a.den} (h:(bif b then take st a ls else some ⟨false,x,[],[],ls⟩)=some t):∃ k,t.rest=ls.drop k:=by
  cases b with
  |true=>exact⟨_,km.take_rest a ls t h⟩
  |false=>simp only[cond_false,BD]at h;subst h;exact⟨0,rfl⟩
theorem pc:∀ {off n:Nat} (a:Ty) (pos:Nat) (x:a.den) (ls:List Leaf),(∀ q∈aw ls,st' q=st q)->db st' off n a pos x ls=db st off n a pos x ls
 |off,n,.pair a b,pos,x,ls,h=>by
  simp only[db,pc a pos x.1 ls h];cases z:db st off n a pos x.1 ls with
  |none=>rfl
  |some u =>
   obtain⟨k,e⟩:=kg a pos x.1 ls u z;simp only;rw[pc b (pos+a.cells) x.2 u.rest (λq y=>h q (fF k ls q (by rw[<- e];exact y)))]
 |off,n,.unit,pos,x,ls,h=>rfl
 |off,n,.hdr,pos,x,ls,h=>rfl
 |off,n,.int k,pos,x,ls,h=>by simp only[db,jq (.int k) ls h]
 |off,n,.bool,pos,x,ls,h=>by simp only[db,jq .bool ls h]
 |off,n,.str,pos,x,ls,h=>by simp only[db,jq .str ls h]
 |off,n,.list m E e,pos,x,ls,h=>by simp only[db,jq (.list m E e) ls h]
theorem pd:∀ {off n:Nat} (a:Ty) (pos:Nat) (x:a.den) (ls:List Leaf) (t:cI a.den),db st off n a pos x ls=some t->(∀ z∈t.frz,z.1∈aw ls)/\∀ z∈t.kill,z.1∈aw ls
 |off,n,.pair a b,pos,x,ls,t,h=>by
  simp only[db]at h;split at h
  ·rename_i u H;split at h
   ·rename_i v M;simp only[BD]at h;subst h;obtain⟨k,e⟩:=kg a pos x.1 ls u H;obtain⟨X,O⟩:=pd a pos x.1 ls u H;obtain⟨I,J⟩:=pd b (pos+a.cells) x.2 u.rest v M;rw[e]at I J;exact⟨λz y=>(BE.1 y).elim (X z) (λy=>fF _ _ _ (I z y)),λz y=>(BE.1 y).elim (O z) (λy=>fF _ _ _ (J z y))⟩
   ·cases h
  ·cases h
 |off,n,.unit,pos,x,ls,t,h=>by simp only[db,BD]at h;subst h;exact⟨by simp,by simp⟩
 |off,n,.hdr,pos,x,ls,t,h=>by simp[db]at h
 |off,n,.int k,pos,x,ls,t,h=>sc (a:=.int k) h
 |off,n,.bool,pos,x,ls,t,h=>sc (a:=.bool) h
 |off,n,.str,pos,x,ls,t,h=>sc (a:=.str) h
 |off,n,.list m E e,pos,x,ls,t,h=>sc (a:=.list m E e) h
where
 sc {a:Ty} {b:Bool} {x:a.den} {ls:List Leaf} {t:cI a.den} (h:(bif b then take st a ls else some ⟨false,x,[],[],ls⟩)=some t):(∀ z∈t.frz,z.1∈aw ls)/\∀ z∈t.kill,z.1∈aw ls:=by
  cases b with
  |true=>exact nW a ls t h
  |false=>simp only[cond_false,BD]at h;subst h;exact⟨by simp,by simp⟩
theorem vo {U:Upd}{d:Nat}{sh:aI}{ls:List Leaf}(h:st' d=st d):cf st' U d sh ls=cf st U d sh ls:=by
 simp only[cf,bm h]
theorem rE:∀ {xs:List Operand} {t:Nat},Operand.tmp t∈xs->t∈iy xs
 |[],_,h=>by simp at h
 |x::xs,t,h=>by
  rcases BR.1 h with rfl|h
  ·simp[iy]
  ·have u:=rE h;cases x <;> simp[iy,u]
theorem nA (t n:Nat):∀ (j:Nat) (ls:List Leaf) (q:Nat),q∈aw (bG t n j ls)->q=t\/q∈aw ls
 |_,[],_,h=>by simp[bG,aw]at h
 |j,l::ls,q,h=>by
  simp only[bG]at h;rw[aL,BE]at h;rw[aL,BE];rcases h with h|h
  ·cases l with
   |own p u E e y=>simp[lS,aw]at h;exact .inl h
   |_=>exact .inr (.inl h)
  ·exact (nA t n (j+1) ls q h).imp id .inr
theorem lq:∀ (y u:List Leaf),az (y++u)=az y++az u
 |[],_=>rfl
 |l::y,u=>by cases l <;> simp[az,lq y u]
theorem dr (l:Leaf)(ls:List Leaf):az (l::ls)=az [l]++az ls:=lq [l] ls
theorem fG:∀ {ls:List Leaf} {q:Nat},q∈aw ls->q∈az ls
 |[],_,h=>by simp[aw]at h
 |l::ls,q,h=>by
  rw[aL,BE]at h;rw[dr,BE];rcases h with h|h
  ·left;cases l with
   |nal p y ep u E e z=>simp[aw]at h;simpa[az]using h
   |np p y ep a x off=>simp[aw]at h;simpa[az]using h
   |_=>simp[aw]at h <;> simp[az,h]
  ·exact .inr (fG h)
theorem nB (t n:Nat):∀ (j:Nat) (ls:List Leaf) (q:Nat),q∈az (bG t n j ls)->q=t\/q∈az ls
 |_,[],_,h=>by simp[bG,az]at h
 |j,l::ls,q,h=>by
  simp only[bG]at h;rw[dr,BE]at h;rw[dr,BE];rcases h with h|h
  ·cases l with
   |own p u E e y=>simp[lS,az]at h;exact .inl h
   |_=>exact .inr (.inl h)
  ·exact (nB t n (j+1) ls q h).imp id .inr
theorem rF {x:Operand}{q:Nat}(h:q∈aw (au st x).2):∃ t,x=.tmp t/\(q=t\/q∈aw (st t).ls):=by
 cases x with
 |tmp t =>
  simp only[au]at h;cases y:Ci t GH with
  |false=>simp[y,aw]at h
  |true=>simp only[y,cond_true]at h;exact⟨t,rfl,nA _ _ _ _ _ h⟩
 |const v =>
  simp only[au]at h;split at h
  ·rename_i l u;unfold iu at u;split at u <;> simp at u <;> subst u <;> simp[aw]at h
  ·simp[aw]at h
 |func f=>simp[au,aw]at h
 |global g=>simp[au,aw]at h
theorem rG {x:Operand}{q:Nat}(h:q∈az (au st x).2):∃ t,x=.tmp t/\(q=t\/q∈az (st t).ls):=by
 cases x with
 |tmp t =>
  simp only[au]at h;cases y:Ci t GH with
  |false=>simp[y,az]at h
  |true=>simp only[y,cond_true]at h;exact⟨t,rfl,nB _ _ _ _ _ h⟩
 |const v =>
  simp only[au]at h;split at h
  ·rename_i l u;unfold iu at u;split at u <;> simp at u <;> subst u <;> simp[az]at h
  ·simp[az]at h
 |func f=>simp[au,az]at h
 |global g=>simp[au,az]at h
theorem qO {x:Operand}{l:Leaf}(h:one st x=l)(u:l≠.dead):(au st x).2=[l]:=by
 unfold one at h;split at h
 ·rename_i z y;rw[y,h]
 ·exact absurd h.symm u
theorem jr {x:Operand}{q:Nat}(h:q∈aw [one st x]):q∈aw (au st x).2:=by
 by_cases u:one st x=.dead
 ·rw[u]at h;simp[aw]at h
 ·rw[qO rfl u];exact h
theorem tL {x:Operand}{q:Nat}(h:q∈az [one st x]):q∈az (au st x).2:=by
 by_cases u:one st x=.dead
 ·rw[u]at h;simp[az]at h
 ·rw[qO rfl u];exact h
def jB:Leaf->Bool×Leaf
 |.own _ _ _ e u=>(true,.ep 0 0 0 e.cells u.length 0)
 |l=>(false,l)
def bJ (c:bQ):Nat×aI×List (Bool×Leaf):=(c.ver,c.sh,c.ls.map jB)
theorem tM {l l':Leaf}(h:jB l'=jB l):l'=l\/∃ (p p':Bool) (z y:Option (Nat×Nat)) (E E':TypeId) (e e':Ty) (xs:List e.den) (u:List e'.den),l=.own p z E e xs/\l'=.own p' y E' e' u/\e'.cells=e.cells/\u.length=xs.length:=by
 cases l <;> cases l' <;> simp only[jB,BV,CW,reduceCtorEq,false_and,and_false,true_and,Leaf.ep.injEq,Bool.true_eq_false]at h <;>
  first
  |exact .inr ⟨_,_,_,_,_,_,_,_,_,_,rfl,rfl,h.1,h.2.1⟩
  |exact .inr ⟨_,_,_,_,_,_,_,_,_,_,rfl,rfl,h.1,h.2⟩
  |exact .inl rfl
  |exact .inl (by rw[h])
  |exact .inl h
  |(obtain⟨rfl,rfl,rfl,rfl,rfl,rfl⟩:=h;exact .inl rfl)
theorem qc (t n:Nat):∀ (j:Nat) (ls u:List Leaf),u.map jB=ls.map jB->bG t n j u=bG t n j ls
 |_,[],[],_=>rfl
 |_,[],_::_,h=>by simp at h
 |_,_::_,[],h=>by simp at h
 |j,l::ls,X::u,h=>by
  simp only[B4,Cj]at h;simp only[bG,qc t n (j+1) ls u h.2];rcases tM h.1 with e|⟨p,J,Y,y,E,M,e,O,Z,I,H,z,_,_⟩
  ·rw[e]
  ·rw[H,z];rfl
theorem yd {x:Operand}(h:∀ t,x=.tmp t->bJ (st' t)=bJ (st t)):au st' x=au st x:=by
 cases x with
 |tmp t =>
  have:=h t rfl;simp only[bJ,BV]at this;simp only[au,this.1,this.2.1,qc _ _ _ _ _ this.2.2]
 |_=>rfl
theorem zQ {x:Operand}(h:∀ t,x=.tmp t->bJ (st' t)=bJ (st t)):one st' x=one st x:=by
 unfold one;rw[yd h]
theorem ye {c u:bQ}(h:bJ u=bJ c)(j:Nat):jB (u.ls.getD j .dead)=jB (c.ls.getD j .dead):=by
 simp only[bJ,BV]at h;have:=congrArg (λl=>l[j]?) h.2.2;simp only[Cz]at this;rw[BS,BS];generalize u.ls[j]?=a at this;generalize c.ls[j]?=b at this
 match a,b,this with
 |none,none,_=>rfl
 |some x,some y,h=>exact C9 h
theorem rH (l:Leaf):lz l=(jB l).1:=by cases l <;> rfl
theorem zu {ks:List (Nat×Nat×Nat)}{ep:Nat}(h:∀ q∈EPO::ks.map (·.1),bJ (st' q)=bJ (st q)):br st' ks ep=br st ks ep:=by
 unfold br;have z:=h EPO (BJ ..);simp only[bJ,BV]at z;rw[z.1];congr 1;induction ks with
 |nil=>rfl
 |cons k ks I =>
  have y:=h k.1 (by simp);have H:(st' k.1).ver=(st k.1).ver:=by simp only[bJ,BV]at y;exact y.1
  rw[Cd,Cd,I (λq u=>h q (by simp at u ⊢;rcases u with u|u;exact .inl u;exact .inr (.inr u))),rH,rH,ye y,H]
end
section
variable {P:Program} {V:Env} {Γ:List Ctr} {T:TypeId->TI} {st st':St} {o:Oper} {R:Type} {κ:Upd->Option R} {r:R}
theorem tN {d:Nat}(u:o.dst=some d)(h:∀ q∈fu st o,st' q=st q):st' d=st d/\st' (B0+d)=st (B0+d):=by
 refine⟨h d ?_,h (B0+d) ?_⟩ <;> simp[fu,zD,u]
theorem lr {ls:List Leaf}(h:∀ q∈aw ls,st' q=st q):∀ x∈bz st ls,st' x.1=st x.1:=λx u=>h _ (ez u)
theorem qd {u:List (Nat×Nat×Bool)}:∀ (ps:List (Nat×Operand)) (ls:List Leaf),(∀ x∈ps,∀ t,x.2=.tmp t->st' t=st t)->ft st' u ps ls=ft st u ps ls
 |[],_,_=>rfl
 |(i,x)::ps,ls,h=>by
  simp only[ft,dS (h (i,x) (BJ ..))];split
  ·rw[qd ps _ (λy z=>h y (BI _ z))]
  ·rfl
theorem oz {e:Ty}:∀ (ps:List (Nat×Operand)) (k:Nat),(∀ x∈ps,(∀ t,x.2=.tmp t->st' t=st t)/\∀ q∈aw (au st x.2).2,st' q=st q)->eC st' e k ps=eC st e k ps
 |[],_,_=>rfl
 |(i,x)::ps,k,h=>by
  have u:=h (i,x) (BJ ..);simp only[eC,dS u.1,gQ u.2,oz ps (k+1) (λy z=>h y (BI _ z))]
theorem oA {e:Ty}:∀ (ps:List (Nat×Operand)) (k:Nat) (u:cI (List e.den)),eC st e k ps=some u->∀ z,z∈u.frz\/z∈u.kill->∃ x∈ps,z.1∈aw (au st x.2).2
 |[],_,_,h=>by simp only[eC,BD]at h;subst h;simp
 |(i,x)::ps,k,u,h=>by
  simp only[eC]at h;cases O:BM i k&&decide ((au st x).1=bi e.isAgg) with
  |false=>simp[O]at h
  |true =>
   simp only[O,cond_true]at h;split at h
   ·rename_i t1 M hg J;simp only[BD]at h;subst h;intro z H;obtain⟨Z,p2⟩:=ja hg;have I:(z∈t1.frz\/z∈t1.kill)\/(z∈M.frz\/z∈M.kill):=by
     rcases H with H|H <;> rcases BE.1 H with H|H
     ·exact .inl (.inl H)
     ·exact .inr (.inl H)
     ·exact .inl (.inr H)
     ·exact .inr (.inr H)
    rcases I with H|H
    ·exact⟨(i,x),BJ ..,H.elim (Z z) (p2 z)⟩
    ·obtain⟨y,X,Y⟩:=oA ps (k+1) M J z H;exact⟨y,BI _ X,Y⟩
   ·cases h
theorem nC {x:Option Operand}{n:Int}(h:∀ y,x=some y->∀ t,y=.tmp t->st' t=st t):di st' x n=di st x n:=by
 cases x with
 |none=>rfl
 |some y=>simp only[di,dB (h y rfl)]
theorem vp:∀ (xs:List Operand) (u:Option (List Nat)),(∀ x∈xs,∀ t,x=.tmp t->st' t=st t) ->
  xs.foldl (λ (u:Option (List Nat)) x=>u.bind λl=>match one st' x with|.bp b 0=>some (l++[b])|_=>none) u =
  xs.foldl (λ (u:Option (List Nat)) x=>u.bind λl=>match one st x with|.bp b 0=>some (l++[b])|_=>none) u
 |[],_,_=>rfl
 |x::xs,u,h=>by
  simp only[DA,dB (h x (BJ ..))];exact vp xs _ (λy z=>h y (BI _ z))
theorem qe {l:Leaf}(H:st' TMP=st TMP)(z:st' EPO=st EPO)(h:∀ q∈aw [l],st' q=st q):cj st' l=cj st l:=by
 cases l with
 |nal p I ep u E e M =>
  rw[is]at h;simp only[cj,jN h,H,z];congr 1
  match I,u,h with
  |[(r,j,n)],some (i,J,off),h =>
   have y:=h r (by simp);simp only[y]
  |[(r,j,n)],none,_=>rfl
  |[],_,_=>rfl
  |_::_::_,_,_=>rfl
 |_=>rfl
theorem oC {l l':Leaf}{U:Upd}(h:cj st l=some (U,l')):∃ n,l'=.al TMP 0 n/\∀ q,q≠TMP->∀ z∈az (ac U st q).ls,z∈az (st q).ls:=by
 cases l with
 |nal p ks ep a0 E e xs =>
  simp only[cj]at h;cases H:br st ks ep with
  |false=>simp[H]at h
  |true =>
   rw[H]at h;simp only[cond_true]at h;split at h
   ·rename_i r j n0 i sz off;split at h
    ·rename_i X E' J M hg;cases Z:!BM r TMP&&!BM r EPO&&BM sz J.cells with
     |false=>simp[Z]at h
     |true =>
      rw[Z]at h;simp only[cond_true]at h;split at h
      ·split at h
       ·rename_i y _ _ _ _ _;simp only[BD,BV]at h;obtain⟨rfl,rfl⟩:=h;refine⟨_,rfl,λq hq z u=>?_⟩;rw[aP]at u;rcases aj r q ⟨(st r).ver,(st r).sh,aT (st r).ls j (.own X (some (i,off)) E' J M)⟩ (ac [(TMP,⟨(st TMP).ver+1,.one,[.own (X&&J.shy) none _ _ _]⟩),(EPO,bU (st EPO))] st) with ⟨rfl,O⟩|⟨_,O⟩
        ·rw[O]at u;exact refs_set u
        ·rw[O,aP,aJ hq]at u;rcases aj EPO q (bU (st EPO)) st with ⟨rfl,Y⟩|⟨_,Y⟩ <;> rw[Y]at u <;> exact u
       ·cases h
      ·cases h
    ·cases h
   ·cases h
 |_=>simp[cj]at h
where
 refs_set {I:List Leaf} {j z:Nat} {p:Bool} {hh:Option (Nat×Nat)} {E:TypeId} {e:Ty} {xs:List e.den} (h:z∈az (aT I j (.own p hh E e xs))):z∈az I:=by
  unfold aT at h;induction I generalizing j with
  |nil=>simpa using h
  |cons l I ih =>
   cases j with
   |zero =>
    rw[List.set_cons_zero,dr,BE]at h;rw[dr,BE];rcases h with h|h
    ·simp[az]at h
    ·exact .inr h
   |succ j =>
    rw[Cw,dr,BE]at h;rw[dr,BE];exact h.imp id ih
theorem uI {l l':Leaf}{U:Upd}(h:cj st l=some (U,l')):az (ac U st TMP).ls=[]:=by
 cases l with
 |nal p I ep J E e xs =>
  simp only[cj]at h;cases u:br st I ep with
  |false=>simp[u]at h
  |true =>
   rw[u]at h;simp only[cond_true]at h;split at h
   ·rename_i r j Z i M off;split at h
    ·rename_i X Y H O hg;cases y:!BM r TMP&&!BM r EPO&&BM M H.cells with
     |false=>simp[y]at h
     |true =>
      rw[y]at h;simp only[cond_true]at h;have z:TMP≠r:=λe=>by subst e;simp at y
      split at h
      ·split at h
       ·simp only[BD,BV]at h;obtain⟨rfl,rfl⟩:=h;rw[aP,aJ z,aP,bk];rfl
       ·cases h
      ·cases h
    ·cases h
   ·cases h
 |_=>simp[cj]at h
theorem wC {E:TypeId}{e:Ty}{y:Leaf}(u:∀ q∈aw [y],st' q=st q):fP st' E e y=fP st E e y:=by
 unfold fP;rw[ci u,jo u,gQ u]
theorem wD {E:TypeId}{e:Ty}{y:Leaf}{t:cI (List e.den)}(h:fP st E e y=some t):(∀ z∈t.frz,z.1∈aw [y])/\∀ z∈t.kill,z.1∈aw [y]:=by
 unfold fP at h;cases u:e.flat with
 |true =>
  rw[u]at h;simp only[cond_true,BL]at h;obtain⟨_,_,rfl⟩:=h;exact⟨by simp,by simp⟩
 |false =>
  rw[u]at h;simp only[cond_false]at h;cases H:decide (e.sh=e) with
  |true =>
   rw[H]at h;simp only[cond_true,BL]at h;obtain⟨_,_,rfl⟩:=h;exact⟨λz J=>ez J,by simp⟩
  |false =>
   rw[H]at h;simp only[cond_false,BL]at h;obtain⟨M,I,rfl⟩:=h;exact ja I
theorem lu {u:Upd}{d:Nat}{E:TypeId}{e:Ty}{H:Nat}{p:Bool}{xs:List e.den}{ks:List (Nat×Nat)}{y:Leaf}(J:∀ z∈ks,st' z.1=st z.1)(M:∀ q∈aw [y],st' q=st q)(Y:st' d=st d) :
  dU st' (ac u st') u d E e H p xs ks y κ=dU st (ac u st) u d E e H p xs ks y κ:=by
 unfold dU;have O:∀ q,st' q=st q->ac u st' q=ac u st q:=λq h=>bm h u
 rw[wC (st:=ac u st) (st':=ac u st') (λq X=>O q (M q X))];split
 ·rename_i t ht;obtain⟨p1,p2⟩:=wD ht;have e1:aF (ac u st') t.frz=aF (ac u st) t.frz:=kn (λz I=>O _ (M _ (p1 z I)));have Z:∀ U:Upd,aN (ac U (ac u st')) (t.kill++ks)=aN (ac U (ac u st)) (t.kill++ks):=λU=>it (λz I=>bm (O _ ((BE.1 I).elim (λI=>M _ (p2 z I)) (J z))) U)
  simp only[e1,Z,vo Y]
 ·rfl
theorem wE {H:Upd}{d:Nat}{E:TypeId}{e:Ty}{u:Nat}{x y:Leaf}(I:∀ q∈aw [x],st' q=st q)(M:∀ q∈aw [y],st' q=st q)(J:st' d=st d):er st' H d E e u x y κ=er st H d E e u x y κ:=by
 unfold er;cases x with
 |al r j v =>
  have Y:st' r=st r:=I r (by simp[aw]);simp only;rw[ci (st:=ac H st) (st':=ac H st') (l:=.al r j v) (λq X=>bm (I q X) H)];split
  ·rw[lu (λz O=>by simp at O;subst O;exact Y) M J]
  ·rfl
 |nil=>exact lu (by simp) M J
 |_=>rfl
theorem wF {d:Nat}{E:TypeId}{e:Ty}{H:Nat}{x y:Leaf}(J:st' TMP=st TMP)(M:∀ q∈aw [x],st' q=st q)(X:∀ q∈aw [y],st' q=st q)(O:st' d=st d):iw st' d E e H x y κ=iw st d E e H x y κ:=by
 unfold iw;rw[wE M X O,hH,hH];cases hn:jt x with
 |false=>rfl
 |true =>
  simp only[cond_true];have hE:st' EPO=st EPO:=by
   cases x with
   |nal p ks ep a0 E e xs=>exact M EPO (by rw[is];exact BJ ..)
   |_=>simp[jt]at hn
  rw[qe J hE M];cases Z:cj st x with
  |none=>rfl
  |some u =>
   obtain⟨n,e1,_⟩:=oC (U:=u.1) (l':=u.2) Z;simp only[CI];rw[e1];unfold er;simp only;have e2:∀ q,q=TMP->ac u.1 st' q=ac u.1 st q:=λq I=>by rw[I];exact bm J u.1
   rw[ci (st:=ac u.1 st) (st':=ac u.1 st') (l:=.al TMP 0 n) (λq I=>e2 q (by simpa[aw]using I))];split
   ·rw[lu (λz Y=>by simp at Y;subst Y;exact J) X O]
   ·rfl
structure eQ (st st':St) (ls:List Leaf):Prop where
 d1:∀ q∈az ls,st' q=st q
 d2:∀ r∈az ls,∀ q∈az (st r).ls,st' q=st q
 d3:∀ r∈az ls,∀ r2∈az (st r).ls,∀ q∈az (st r2).ls,st' q=st q
theorem kG (p:Bool):∀ (a:Ty) (x:a.den),az (cH p a x)=[]
 |.int _,_=>rfl
 |.bool,_=>rfl
 |.str,_=>rfl
 |.unit,_=>rfl
 |.hdr,_=>rfl
 |.pair a b,x=>by simp[cH,lq,kG p a,kG p b]
 |.list _ _ _,_=>rfl
theorem rI {l:Leaf}(h:∀ q∈az [l],st' q=st q):target st' l=target st l:=by
 unfold target;cases l with
 |bp b off =>
  have u:=h b (by simp[az]);cases off with
  |zero=>simp only[u]
  |succ n=>rfl
 |rp p a x off=>cases off <;> rfl
 |_=>rfl
theorem lv {l:Leaf}{ls:List Leaf}(h:target st l=some ls):∀ q∈az ls,q∈az [l]\/∃ r∈az [l],q∈az (st r).ls:=by
 unfold target at h;split at h
 ·rename_i b;cases y:decide ((st b).sh=.agg) with
  |false=>simp[y]at h
  |true =>
   simp only[y,cond_true,BD]at h;subst h;intro q u;rcases nB _ _ _ _ _ u with rfl|u
   ·exact .inl (by simp[az])
   ·exact .inr ⟨b,by simp[az],u⟩
 ·simp only[BD]at h;subst h;intro q u;rw[kG]at u;simp at u
 ·simp only[BD]at h;subst h;intro q u;simp[az]at u
 ·cases h
theorem jb {x:aI×List Leaf}{q:Nat}(h:q∈az [ck x]):q∈az x.2:=by
 unfold ck at h;split at h
 ·exact h
 ·simp[az]at h
theorem eQ.target {l:Leaf}{ls:List Leaf}(h:eQ st st' [l])(H:Go.Proofs.YtaegajachoklkaaGreatEv.target st l=some ls):(∀ q∈az ls,st' q=st q)/\∀ r∈az ls,∀ q∈az (st r).ls,st' q=st q:=by
 constructor
 ·intro q y;rcases lv H q y with u|⟨r,u,z⟩
  ·exact h.d1 q u
  ·exact h.d2 r u q z
 ·intro r J q y;rcases lv H r J with u|⟨I,u,z⟩
  ·exact h.d2 r u q y
  ·exact h.d3 I u r z q y
theorem eQ.one {x:aI×List Leaf}(h:eQ st st' x.2):eQ st st' [ck x] :=
 ⟨λq y=>h.d1 q (jb y),λr u=>h.d2 r (jb u),λr u=>h.d3 r (jb u)⟩
def nD {α:Type}(st st':St)(g:Got α):Prop:=(∀ z∈g.frz,st' z.1=st z.1)/\(∀ z∈g.kill,st' z.1=st z.1)
theorem nE {c:Bool×Ty}{l:Leaf}(Y:eQ st st' [l]):fq st' c l=fq st c l/\∀ g,fq st c l=some g->nD st st' g:=by
 unfold fq;rw[rI Y.d1];cases I:target st l with
 |none=>cases c.1 <;> exact⟨rfl,by simp⟩
 |some X =>
  have y:=Y.target I;cases hc:c.1 with
  |false =>
   have u:∀ q∈aw X,st' q=st q:=λq H=>y.1 q (fG H)
   simp only[cond_false,eK u,jo u,true_and];intro g z;simp only[BL]at z;obtain⟨_,_,rfl⟩:=z;exact⟨lr u,by simp[Got.ofRd]⟩
  |true =>
   simp only[cond_true]
   match X,y,I with
   |[],_,_=>exact⟨rfl,by simp⟩
   |_::_::_,_,_=>exact⟨rfl,by simp⟩
   |[l'],y,I =>
    simp only[rI y.1];cases J:target st l' with
    |none=>exact⟨rfl,by simp⟩
    |some O =>
     have u:∀ q∈aw O,st' q=st q:=by
      intro q H;rcases lv J q (fG H) with M|⟨r,M,Z⟩
      ·exact y.1 q M
      ·exact y.2 r M q Z
     simp only[eK u,jo u,true_and];intro g z;simp only[BL]at z;obtain⟨_,_,rfl⟩:=z;exact⟨lr u,by simp[Got.ofRd]⟩
theorem mz:∀ (cs:List (Bool×Ty)) (ls:List Leaf),(∀ l∈ls,eQ st st' [l])->cr st' cs ls=cr st cs ls/\∀ g,cr st cs ls=some g->nD st st' g
 |[],[],_=>⟨rfl,λg u=>by simp only[cr,BD]at u;subst u;exact⟨by simp,by simp⟩⟩
 |[],_::_,_=>⟨rfl,λg u=>by simp[cr]at u⟩
 |_::_,[],_=>⟨rfl,λg u=>by simp[cr]at u⟩
 |c::cs,l::ls,h=>by
  obtain⟨Y,O⟩:=nE (c:=c) (h l (BJ ..));obtain⟨X,Z⟩:=mz cs ls (λy M=>h y (BI _ M));simp only[cr,Y,X,true_and];intro g u;split at u
  ·rename_i J I;split at u
   ·rename_i g2 H;simp only[BD]at u;subst u;exact⟨λz hz=>(BE.1 hz).elim ((O J I).1 z) ((Z g2 H).1 z),by simp⟩
   ·cases u
  ·cases u
theorem oD {c:Nat}{q:Nat}:∀ {ls:List Leaf} {c:Nat},q∈aw (aT ls c .nil)->q∈aw ls
 |[],_,h=>h
 |l::ls,0,h=>by
  rw[show aT (l::ls) 0 .nil=.nil::ls from rfl,aL,BE]at h;rw[aL,BE];rcases h with h|h
  ·simp[aw]at h
  ·exact .inr h
 |l::ls,c+1,h=>by
  rw[show aT (l::ls) (c+1) .nil=l::aT ls c .nil from rfl,aL,BE]at h;rw[aL,BE];exact h.imp id (oD (c:=c))
theorem pe {caps:List Nat}{f:FuncId}(H:eQ st st' [.clo f caps]):∀ l∈caps.map (λb=>Leaf.bp b 0),eQ st st' [l]:=by
 intro l I;obtain⟨b,M,rfl⟩:=BO.1 I;have u:b∈az [Leaf.clo f caps]:=by simp[az,M]
 have y:∀ r∈az [Leaf.bp b 0],r=b:=λr z=>by simpa[az]using z
 exact⟨λq J=>H.d1 q (by rw[y q J];exact u),λr z=>H.d2 r (by rw[y r z];exact u),λr z=>H.d3 r (by rw[y r z];exact u)⟩
theorem nF {caps:List (Bool×Bool×(a:Ty)×a.den)}:∀ l∈caps.map eR,eQ st st' [l]:=by
 intro l z;obtain⟨c,H,rfl⟩:=BO.1 z;have:∀ q,q∉az [eR c]:=by
  intro q u;unfold eR at u;cases y:c.2.1 <;> rw[y]at u <;> simp[az]at u
 exact⟨λq u=>absurd u (this q),λq u=>absurd u (this q),λq u=>absurd u (this q)⟩
theorem eq {pk:PK}{x:aI×List Leaf}(h:eQ st st' x.2):bg st' pk x=bg st pk x/\∀ g,bg st pk x=some g->nD st st' g:=by
 have Y:∀ q∈aw x.2,st' q=st q:=λq M=>h.d1 q (fG M)
 have h1:=h.one;have H:∀ {b:Bool} {a:Ty} {g:Got a.den},(bif b then (cg st a x.2).map (λt=>(⟨t.p,t.val,t.frz,t.kill,[],[]⟩:Got a.den)) else none)=some g->nD st st' g:=by
  intro b a g u;cases b with
  |false=>simp at u
  |true =>
   simp only[cond_true,BL]at u;obtain⟨t,ht,rfl⟩:=u;obtain⟨p1,p2⟩:=ja ht;exact⟨λz J=>Y _ (p1 z J),λz J=>Y _ (p2 z J)⟩
 cases pk with
 |rd a =>
  simp only[bg,eK Y,jo Y,true_and];intro g u;cases O:decide (x.1=bi a.isAgg) with
  |false=>simp[O]at u
  |true =>
   simp only[O,cond_true,BL]at u;obtain⟨y,_,rfl⟩:=u;exact⟨lr Y,by simp[Got.ofRd]⟩
 |own a =>
  simp only[bg,gQ Y,true_and];exact λg u=>H u
 |io a =>
  simp only[bg,gQ Y,true_and];exact λg u=>H u
 |rref a=>exact nE (c:=(false,a)) h1
 |rref2 a=>exact nE (c:=(true,a)) h1
 |iop a =>
  simp only[bg];split
  ·rename_i b Z;rw[Z]at h1;have O:=h1.d1 b (by simp[az]);have h3:∀ q∈aw (bG b (st b).ver 0 (st b).ls),st' q=st q:=by
    intro q M;rcases nA _ _ _ _ _ M with rfl|M
    ·exact O
    ·exact h1.d2 b (by simp[az]) q (fG M)
   simp only[O,gQ h3,true_and];intro g u;cases a1:decide ((st b).sh=.agg) with
   |false=>simp[a1]at u
   |true =>
    simp only[a1,cond_true,BL]at u;obtain⟨t,ht,rfl⟩:=u;obtain⟨p1,p2⟩:=ja ht;exact⟨λz J=>h3 _ (p1 z J),λz J=>h3 _ (p2 z J)⟩
  ·exact⟨rfl,by simp⟩
 |fn As B =>
  simp only[bg,true_and];intro g u;split at u
  ·split at u
   ·simp only[BD]at u;subst u;exact⟨by simp,by simp⟩
   ·cases u
  ·cases u
 |clo f cs =>
  simp only[bg];split
  ·rename_i f' caps Z;rw[Z]at h1;have:=mz cs _ (pe h1);rw[this.1];refine⟨rfl,λg u=>?_⟩;cases O:BM f' f with
   |false=>simp[O]at u
   |true=>rw[O]at u;exact this.2 g u
  ·rename_i f' caps Z;have:=mz (st:=st) (st':=st') cs _ (nF (caps:=caps));rw[this.1];refine⟨rfl,λg u=>?_⟩;cases O:BM f' f with
   |false=>simp[O]at u
   |true=>rw[O]at u;exact this.2 g u
  ·exact⟨rfl,by simp⟩
 |hol a c off =>
  simp only[bg];have X:∀ q∈aw (aT x.2 c .nil),st' q=st q:=λq M=>Y q (oD (c:=c) M)
  rw[gQ X];cases O:decide (x.1=bi a.isAgg) with
  |false=>exact⟨rfl,by simp⟩
  |true =>
   simp only[cond_true];split
   ·rename_i r j v I;have a2:x.2[c]?=some (.al r j v):=by
     rw[BS]at I;cases M:x.2[c]? with
     |none=>rw[M]at I;simp at I
     |some l0=>rw[M]at I;simp at I;rw[I]
    have hr:=λq M=>Y q (qL a2 q M)
    rw[ci hr];refine⟨rfl,λg u=>?_⟩;split at u
    ·rename_i p i o' E e xs _;cases a0:BM o' off with
     |false=>simp[a0]at u
     |true =>
      rw[a0]at u;simp only[cond_true]at u;split at u
      ·rename_i t ht;split at u
       ·simp only[BD]at u;subst u;obtain⟨p1,p2⟩:=ja ht;refine⟨λz J=>X _ (p1 z J),λz J=>?_⟩;rcases BR.1 J with rfl|J
        ·exact hr r (by simp[aw])
        ·exact X _ (p2 z J)
       ·cases u
      ·cases u
    ·cases u
   ·exact⟨rfl,by simp⟩
theorem kH {ga ga':(pk:PK)->aI×List Leaf->Option (Got pk.den)}:∀ (ps:List PK) (xs:List (aI×List Leaf)),
  (∀ x∈xs,∀ pk,ga' pk x=ga pk x/\∀ g,ga pk x=some g->nD st st' g) ->
  bc ga' ps xs=bc ga ps xs/\∀ g,bc ga ps xs=some g->nD st st' g
 |[],[],_=>⟨rfl,λg u=>by simp only[bc,BD]at u;subst u;exact⟨by simp,by simp⟩⟩
 |[],_::_,_=>⟨rfl,λg u=>by simp[bc]at u⟩
 |_::_,[],_=>⟨rfl,λg u=>by simp[bc]at u⟩
 |p::ps,x::xs,h=>by
  obtain⟨h1,O⟩:=h x (BJ ..) p;obtain⟨h3,X⟩:=kH ps xs (λy Z=>h y (BI _ Z));simp only[bc,h1,h3,true_and];intro g u;split at u
  ·rename_i M I;split at u
   ·rename_i Y H;simp only[BD]at u;subst u;exact⟨λz J=>(BE.1 J).elim ((O M I).1 z) ((X Y H).1 z),λz J=>(BE.1 J).elim ((O M I).2 z) ((X Y H).2 z)⟩
   ·cases u
  ·cases u
theorem tO {H:List Ty}{B:Ty}{f:FuncId}{ls:List Leaf}(h:∀ l∈ls,eQ st st' [l]):kJ Γ st' H B f ls=kJ Γ st H B f ls/\∀ g,kJ Γ st H B f ls=some g->nD st st' g:=by
 have u:=λ (q:List PK)=>kH (st:=st) (st':=st') (ga:=bg st) (ga':=bg st') q (ls.map λl=>(aI.one,[l])) (λy O X=>by
  obtain⟨l,M,rfl⟩:=BO.1 O;exact eq (h l M))
 unfold kJ;split
 ·rename_i c Y;unfold rZ;simp only[uL,(u _).1,true_and];intro g z;split at z
  ·cases J:(c.ps.drop H.length).all PK.reads&&B.flat&&c.fresh with
   |false=>simp[J]at z
   |true =>
    simp only[J,cond_true]at z;split at z
    ·rename_i g0 I;simp only[BD]at z;subst z;exact⟨((u _).2 g0 I).1,by simp⟩
    ·cases z
  ·cases z
 ·exact⟨rfl,by simp⟩
theorem wG {pk:PK}{x:aI×List Leaf}(h:eQ st st' x.2):b8 Γ st' pk x=b8 Γ st pk x/\∀ g,b8 Γ st pk x=some g->nD st st' g:=by
 cases pk with
 |fn O B =>
  simp only[b8];split
  ·rename_i z y;have H:(∃ u,ck x=.clo z.1 u/\z.2=u.map λb=>Leaf.bp b 0)\/∃ u,ck x=.clr z.1 u/\z.2=u.map eR:=by
    generalize ck x=l at y;cases l <;> simp only[vB,BD,reduceCtorEq]at y
    ·subst y;exact .inl ⟨_,rfl,rfl⟩
    ·subst y;exact .inr ⟨_,rfl,rfl⟩
   have J:=h.one;rcases H with ⟨u,H,I⟩|⟨u,H,I⟩
   ·rw[H]at J;rw[I];exact tO (pe J)
   ·rw[I];exact tO nF
  ·exact eq h
 |rd a=>exact eq (pk:=.rd a) h
 |own a=>exact eq (pk:=.own a) h
 |io a=>exact eq (pk:=.io a) h
 |rref a=>exact eq (pk:=.rref a) h
 |rref2 a=>exact eq (pk:=.rref2 a) h
 |iop a=>exact eq (pk:=.iop a) h
 |clo f M=>exact eq (pk:=.clo f M) h
 |hol a c off=>exact eq (pk:=.hol a c off) h
theorem tP:∀ (u ls:List Leaf),st' EPO=st EPO->(∀ q∈az u,st' q=st q)->b6 st' u ls=b6 st u ls
 |[],_,_,_=>by simp[b6]
 |x::u,[],_,_=>by cases x <;> simp[b6]
 |x::u,l::ls,y,h=>by
  have z:=tP u ls y (λq H=>h q (by rw[dr];exact BH _ H));cases x with
  |al r j v =>
   have I:st' r=st r:=h r (by simp[az]);simp only[b6,z,bm I,bm y]
  |_=>simp only[b6,z]
theorem qf {p:Bool}:∀ (ps:List PK) (xs:List (aI×List Leaf)) (y:ah ps),st' EPO=st EPO->(∀ x∈xs,∀ q∈az x.2,st' q=st q)->aG st' p ps xs y=aG st p ps xs y
 |[],_,_,_,_=>by simp[aG]
 |H::ps,[],y,_,h=>by cases H <;> simp[aG]
 |H::ps,x::xs,y,O,h=>by
  have J:=λ (y:ah ps)=>qf (p:=p) ps xs y O (λz Y=>h z (BI _ Y))
  have X:=h x (BJ ..);cases H with
  |io a =>
   simp only[aG,J];rw[tP x.2 _ (bm O _) (λq u=>bm (X q u) _)]
  |iop a =>
   simp only[aG,J];have M:∀ q∈az [ck x],st' q=st q:=λq u=>X q (jb u)
   congr 1;split
   ·rename_i b v I;rw[I]at M;rw[bm (M b (by simp[az]))]
   ·rfl
  |_=>exact J _
theorem qg {n q:Nat}:∀ {ls:List Leaf} {k:Nat},q∈az (aT ls k (.al TMP 0 n))->q∈az ls\/q=TMP
 |[],_,h=>.inl h
 |l::ls,0,h=>by
  rw[show aT (l::ls) 0 (.al TMP 0 n)=.al TMP 0 n::ls from rfl,dr,BE]at h;rw[dr,BE];rcases h with h|h
  ·simp[az]at h;exact .inr h
  ·exact .inl (.inr h)
 |l::ls,k+1,h=>by
  rw[show aT (l::ls) (k+1) (.al TMP 0 n)=l::aT ls k (.al TMP 0 n) from rfl,dr,BE]at h;rw[dr,BE];rcases h with h|h
  ·exact .inl (.inl h)
  ·exact (qg h).imp .inr id
theorem pf {U:Upd}{M ls:List Leaf}(hT:st' TMP=st TMP)(u:∀ q,q≠TMP->∀ z∈az (ac U st q).ls,z∈az (st q).ls)(J:az (ac U st TMP).ls=[])(hx:eQ st st' M)(H:∀ q∈az ls,q∈az M\/q=TMP) :
  eQ (ac U st) (ac U st') ls:=by
 have I:∀ r z,z∈az (ac U st r).ls->r≠TMP:=λr z hz e=>by subst e;rw[J]at hz;simp at hz
 refine⟨λq y=>?_,λr Z q y=>?_,λr Z O X q y=>?_⟩
 ·rcases H q y with h|h
  ·exact bm (hx.d1 q h) U
  ·subst h;exact bm hT U
 ·have Y:=I r q y;exact bm (hx.d2 r ((H r Z).resolve_right Y) q (u r Y q y)) U
 ·have Y:=I r O X;have h2:=I O q y;exact bm (hx.d3 r ((H r Z).resolve_right Y) O (u r Y O X) q (u O h2 q y)) U
theorem oE (hT:st' TMP=st TMP)(hE:st' EPO=st EPO):∀ (ps:List PK) (xs:List (aI×List Leaf)),(∀ x∈xs,eQ st st' x.2)->cZ st' ps xs=cZ st ps xs /\
  ∀ (U:Upd) (X:List (aI×List Leaf)) (b:Option (Bool×Nat×Nat)),cZ st ps xs=some (U,X,b)->(∀ y∈X,eQ (ac U st) (ac U st') y.2)/\(∀ f r j,b=some (f,r,j)->st' r=st r)/\∀ ls,eQ st st' ls->eQ (ac U st) (ac U st') ls
 |[],xs,h=>⟨rfl,λU X b z=>by
   simp only[cZ,BD,BV]at z;obtain⟨rfl,rfl,rfl⟩:=z;exact⟨h,(λ_ _ _ h=>by cases h),λ_ h=>h⟩⟩
 |_::_,[],h=>⟨rfl,λU X b z=>by
   simp only[cZ,BD,BV]at z;obtain⟨rfl,rfl,rfl⟩:=z;exact⟨h,(λ_ _ _ h=>by cases h),λ_ h=>h⟩⟩
 |p::ps,x::xs,h=>by
  have hx:=h x (BJ ..);obtain⟨i1,i2⟩:=oE hT hE ps xs (λy M=>h y (BI _ M));simp only[cZ];cases hk:p.nest x.2 with
  |none =>
   simp only[i1,true_and];intro U X b z;simp only[BL]at z;obtain⟨u,O,z⟩:=z;simp only[BV]at z;obtain⟨rfl,rfl,rfl⟩:=z;obtain⟨j1,j2,j3⟩:=i2 u.1 u.2.1 u.2.2 O;refine⟨λy M=>?_,j2,j3⟩;rcases BR.1 M with rfl|M
   ·exact j3 _ hx
   ·exact j1 y M
  |some k =>
   obtain⟨l,Y,Z⟩:=rz hk;have hg:x.2.getD k .dead=l:=by rw[BS,Y];rfl
   have a0:∀ q∈aw [l],st' q=st q:=λq J=>hx.d1 q (fG (qL Y q J))
   simp only[hg,qe hT hE a0,true_and];intro U X b z;simp only[BL]at z;obtain⟨u,O,z⟩:=z;simp only[BV]at z;obtain⟨rfl,rfl,rfl⟩:=z;obtain⟨n,e1,I⟩:=oC (U:=u.1) (l':=u.2) O;have H:=uI (U:=u.1) (l':=u.2) O;refine⟨λy M=>?_,λf r j hb=>?_,λls a1=>pf hT I H a1 (λq J=>.inl J)⟩
   ·rcases BR.1 M with rfl|M
    ·refine pf hT I H hx λq J=>?_
     have J:q∈az (aT x.2 k u.2):=J;rw[e1]at J;exact qg J
    ·exact pf hT I H (h y (BI _ M)) (λq J=>.inl J)
   ·simp only[BD,BV]at hb;have hr:r=(kj l).1:=by rw[hb.2]
    rw[hr];refine a0 _ ?_;cases l with
    |nal p ks ep a2 E e xs =>
     cases ks with
     |nil =>
      exfalso;simp only[cj]at O;cases hv:br st [] ep <;> simp[hv]at O
     |cons k ks=>rw[is];simp[kj]
    |_=>simp[jt]at Z
theorem zv {b:Option (Bool×Nat×Nat)}{U:Upd}(y:st' TMP=st TMP)(u:st' EPO=st EPO)(z:∀ f r j,b=some (f,r,j)->st' r=st r):j0 st' b U κ=j0 st b U κ:=by
 unfold j0;split
 ·rename_i r j;rw[bm (z true r j rfl),bm y,bm u]
 ·rfl
theorem tQ {d:Nat}{f:FuncId}{xs:List (aI×List Leaf)}(hT:st' TMP=st TMP)(X:st' EPO=st EPO)(hx:∀ x∈xs,eQ st st' x.2)(hd:st' d=st d)(hB:st' (B0+d)=st (B0+d)):ju Γ st' d f xs κ=ju Γ st d f xs κ:=by
 unfold ju;split
 ·rename_i c hc;obtain⟨n1,n2⟩:=oE hT X c.ps xs hx;rw[gy,gy,n1];cases hn:cZ st c.ps xs with
  |none=>rfl
  |some u =>
   obtain⟨H,O,b⟩:=u;obtain⟨m1,m2,_⟩:=n2 H O b hn;simp only[CI];have hg:=kH (st:=ac H st) (st':=ac H st') (ga:=b8 Γ (ac H st)) (ga':=b8 Γ (ac H st')) c.ps O (λx I pk=>wG (m1 x I));simp only[oJ,hg.1];split
   ·rename_i g a2;obtain⟨h1,h2⟩:=hg.2 g a2;have M:gD st' d c.rs=gD st d c.rs:=by
     unfold gD;split
     ·rw[hB]
     ·rfl
    have Z:∀ q,ac H st' q=ac H st q->∀ U,ac (U++H) st' q=ac (U++H) st q:=λq h U=>by rw[bC,bC];exact bm h U
    have a3:(bif c.fresh then [] else aF (ac H st') g.frz)=(bif c.fresh then [] else aF (ac H st) g.frz):=by rw[kn h1]
    have hk:∀ (U:Upd),aN (ac U (ac H st')) g.kill=aN (ac U (ac H st)) g.kill:=λU=>it (λz hz=>bm (h2 z hz) U)
    have ho:∀ (U:Upd) (p:Bool) (y:ah c.ps),aG (ac (U++H) st') p c.ps O y=aG (ac (U++H) st) p c.ps O y:=λU p y =>
     qf c.ps O y (Z _ (bm X H) U) (λx I q hq=>Z _ ((m1 x I).d1 q hq) U)
    have J:∀ (U:Upd),(g.frz.map λk=>(k.1,k.2,(ac (U++H) st' k.1).ver))=g.frz.map λk=>(k.1,k.2,(ac (U++H) st k.1).ver):=λU=>Cq λz hz=>by rw[Z _ (h1 z hz) U]
    have Y:∀ U,ac U st' d=ac U st d:=λU=>bm hd U
    have a1:∀ U,ac U st' (B0+d)=ac U st (B0+d):=λU=>bm hB U
    have a0:∀ U,ac U st' EPO=ac U st EPO:=λU=>bm X U
    simp only[M,a3,hk,ho,Y,a1,a0,<- CA,J,zv hT X m2]
   ·rfl
 ·rfl
theorem rJ:∀ (u:List Ty) (xs:List (aI×List Leaf)),(∀ x∈xs,∀ q∈aw x.2,st' q=st q)->iO st' u xs=iO st u xs
 |[],[],_=>rfl
 |[],_::_,_=>rfl
 |_::_,[],_=>rfl
 |a::u,x::xs,h=>by
  simp only[iO,eK (h x (BJ ..)),rJ u xs (λy z=>h y (BI _ z))]
theorem wH {r j i off n:Nat}{p:Bool}{E:TypeId}{e:Ty}{xs:List e.den}{h:Option (Nat×Nat)}{ls:List Leaf}(I:st' r=st r)(J:st' EPO=st EPO)(y:∀ q∈aw ls,st' q=st q):gE st' r j i off n p E e xs h ls κ=gE st r j i off n p E e xs h ls κ:=by
 unfold gE;congr 1;funext u;rw[pc e 0 u ls y];split
 ·rename_i t O;obtain⟨X,Y⟩:=pd e 0 u ls t O;have Z:aF st' t.frz=aF st t.frz:=kn (λz H=>y _ (X z H));have M:∀ U:Upd,aN (ac U st') t.kill=aN (ac U st) t.kill:=λU=>it (λz H=>bm (y _ (Y z H)) U)
  simp only[Z,M,I,bm J]
 ·rfl
end
section
variable {P:Program} {V:Env} {Γ:List Ctr} {T:TypeId->TI} {st st':St} {o:Oper} {R:Type} {κ:Upd->Option R} {r:R}
theorem dt {H:List Nat}(h:∀ q∈H++H.flatMap (λt=>aw (st t).ls),st' q=st q){x:Operand}(z:∀ t,x=.tmp t->t∈H):(∀ t,x=.tmp t->st' t=st t)/\∀ q∈aw (au st x).2,st' q=st q:=by
 refine⟨λt y=>h t (BG _ (z t y)),λq u=>?_⟩;obtain⟨t,y,u⟩:=rF u;rcases u with rfl|u
 ·exact h q (BG _ (z q y))
 ·exact h q (BH _ (BW.2 ⟨t,z t y,u⟩))
theorem nG {H:List Nat}(h:∀ q∈H++H.flatMap (λt=>az (st t).ls),st' q=st q){x:Operand}(z:∀ t,x=.tmp t->t∈H):(∀ t,x=.tmp t->st' t=st t)/\∀ q∈az (au st x).2,st' q=st q:=by
 refine⟨λt y=>h t (BG _ (z t y)),λq u=>?_⟩;obtain⟨t,y,u⟩:=rG u;rcases u with rfl|u
 ·exact h q (BG _ (z q y))
 ·exact h q (BH _ (BW.2 ⟨t,z t y,u⟩))
theorem qh {y:List Nat}(h:∀ q∈kL st y,st' q=st q){x:Operand}(Z:∀ t,x=.tmp t->t∈y):eQ st st' (au st x).2:=by
 have M:∀ q,q∈y->st' q=st q:=λq u=>h q (by simp[kL];exact .inl u)
 have O:∀ q,q∈y.flatMap (λt=>az (st t).ls)->st' q=st q:=λq u=>h q (by
  unfold kL;exact BG _ (BG _ (BH _ u)))
 have hb:∀ q,q∈(y.flatMap (λt=>az (st t).ls)).flatMap (λt=>az (st t).ls)->st' q=st q:=λq u=>h q (by
  unfold kL;exact BG _ (BH _ u))
 have hc:∀ q,q∈((y.flatMap (λt=>az (st t).ls)).flatMap (λt=>az (st t).ls)).flatMap (λt=>az (st t).ls)->st' q=st q:=λq u=>h q (by
  unfold kL;exact BH _ u)
 have l1:∀ r∈az (au st x).2,r∈y\/r∈y.flatMap (λt=>az (st t).ls):=by
  intro r z;obtain⟨t,X,u⟩:=rG z;rcases u with rfl|u
  ·exact .inl (Z r X)
  ·exact .inr (BW.2 ⟨t,Z t X,u⟩)
 have Y:∀ r∈az (au st x).2,∀ q∈az (st r).ls,q∈y.flatMap (λt=>az (st t).ls)\/q∈(y.flatMap (λt=>az (st t).ls)).flatMap (λt=>az (st t).ls):=by
  intro r z q u;rcases l1 r z with H|H
  ·exact .inl (BW.2 ⟨r,H,u⟩)
  ·exact .inr (BW.2 ⟨r,H,u⟩)
 refine⟨λq u=>(l1 q u).elim (M q) (O q),λr z q u=>(Y r z q u).elim (O q) (hb q),λr z I J q u=>?_⟩;rcases Y r z I J with H|H
 ·exact hb q (BW.2 ⟨I,H,u⟩)
 ·exact hc q (BW.2 ⟨I,H,u⟩)
theorem bf {xs:Array Operand}{x:Operand}(h:x∈xs):∀ t,x=.tmp t->t∈iy xs.toList:=λt e=>rE (by rw[<- e];simpa using h)
theorem op_fr (h:∀ q∈fu st o,st' q=st q)(z:∀ x,o.op≠.move x)(H:∀ t x i,o.op≠.indexAddr t x i):∀ q∈cl st o.op,st' q=st q:=λq y=>h q (by
 unfold fu;refine BG _ ?_;cases u:o.op with
 |move x=>exact absurd u (z x)
 |indexAddr t x i=>exact absurd u (H t x i)
 |_=>rw[u]at y;exact y)
theorem AH {α β:Type}{xs:List α}{n:Int}{K:Option β}:((idx xs n).bind λ_=>K)=if 0<=n/\n<xs.length then K else none:=by
 unfold idx;by_cases u:n<0
 ·rw[if_pos u,if_neg (by omega)];rfl
 ·rw[if_neg u];by_cases y:n.toNat<xs.length
  ·rw[BU y,if_pos (by omega)];rfl
  ·rw[Ck (by omega),if_neg (by omega)];rfl
theorem Bt (h:∀ q∈fu st o,st' q=st q)(hh:∀ q∈eZ st o.op,bJ (st' q)=bJ (st q)):act Γ T o st' κ=act Γ T o st κ:=by
 have M:=op_fr h;have a0:∀ (U:Upd) (d:Nat) (sh:aI) (ls:List Leaf),o.dst=some d->cf st' U d sh ls=cf st U d sh ls:=λU d sh ls hd=>vo (tN hd h).1
 have hB:∀ d,o.dst=some d->st' (B0+d)=st (B0+d):=λd hd=>(tN hd h).2
 have hw:∀ (sh:aI) (ls:List Leaf),wrU o st' κ sh ls=wrU o st κ sh ls:=by
  intro sh ls;unfold wrU;split
  ·rename_i d hd;rw[a0 _ _ _ _ hd]
  ·rfl
 cases I:o.op with
 |move x =>
  simp only[I,eZ]at hh;have e:au st' x=au st x:=yd λt Y=>hh t (bf (by simp[Op.operands]) t Y)
  simp only[act,I,e,hw]
 |assign x =>
  have H:=M (by simp[I]) (by simp[I]);simp only[I,cl]at H;have J:=dt H (x:=x) (bf (by simp[Op.operands]));have e:au st' x=au st x:=dS J.1;simp only[act,I,e,qN J.2,pb J.2,tK J.2];split
  ·rename_i d hd;rw[a0 _ _ _ _ hd]
  ·rfl
 |pick c x y =>
  have H:=M (by simp[I]) (by simp[I]);simp only[I,cl]at H;have e1:one st' c=one st c:=dB λt Y=>H t (bf (by simp[Op.operands]) t Y)
  have e2:au st' x=au st x:=dS λt Y=>H t (bf (by simp[Op.operands]) t Y)
  have e3:au st' y=au st y:=dS λt Y=>H t (bf (by simp[Op.operands]) t Y)
  simp only[act,I,e1,e2,e3,hw]
 |alloc t =>
  simp only[act,I];split
  ·rename_i d hd;rw[a0 _ _ _ _ hd,hB d hd]
  ·rfl
 |box t x =>
  have H:=M (by simp[I]) (by simp[I]);simp only[I,cl]at H;have J:=dt H (x:=x) (bf (by simp[Op.operands]));have e:au st' x=au st x:=dS J.1;have b0:sn st' x=sn st x:=by cases x <;> first|rfl|(simp only[sn];rw[J.1 _ rfl])
  simp only[act,I,e,qN J.2,pb J.2,tK J.2,b0];split
  ·rename_i d hd;simp only[a0 _ _ _ _ hd,hB d hd,bm (hB d hd)]
  ·rfl
 |build t a2 =>
  have H:=M (by simp[I]) (by simp[I]);simp only[I,cl]at H;have hb:∀ a5 ls,ft st' a5 a2.toList ls=ft st a5 a2.toList ls:=λa5 ls=>qd _ _ (λx J t Y=>H t (bf (by simp only[Op.operands,C4,BO];exact⟨x,J,rfl⟩) t Y))
  simp only[act,I,hw,hb]
 |buildSlice t n a2 =>
  have H:=M (by simp[I]) (by simp[I]);simp only[I,cl]at H;have J:∀ x∈a2.toList,(∀ t,x.2=.tmp t->st' t=st t)/\∀ q∈aw (au st x.2).2,st' q=st q:=λx J =>
   dt H (bf (by simp only[Op.operands,C4,BO];exact⟨x,J,rfl⟩))
  simp only[act,I];split
  ·rw[oz _ _ J];split
   ·rename_i u bx;have b9:=oA _ _ _ bx;have b4:∀ z,z∈u.frz\/z∈u.kill->st' z.1=st z.1:=λz hz=>by
     obtain⟨x,ba,c3⟩:=b9 z hz;exact (J x ba).2 _ c3
    have e1:aF st' u.frz=aF st u.frz:=kn λz hz=>b4 z (.inl hz)
    have e2:∀ U:Upd,aN (ac U st') u.kill=aN (ac U st) u.kill:=λU=>it (λz hz=>bm (b4 z (.inr hz)) U)
    simp only[e1,e2];congr 1;split
    ·rename_i d hd;rw[a0 _ _ _ _ hd]
    ·rfl
   ·rfl
  ·rfl
 |load t x =>
  have H:=M (by simp[I]) (by simp[I]);simp only[I,cl]at H;have J:=nG H (x:=x) (bf (by simp[Op.operands]));have e:one st' x=one st x:=dB J.1;have X:∀ q∈az [one st x],st' q=st q:=λq O=>J.2 q (tL O)
  simp only[act,I,e,hw];congr 1;split
  ·rfl
  ·rename_i b off Z;rw[Z]at X;rw[X b (by simp[az])]
  ·rfl
  ·rename_i p ks ep a y off Z;rw[Z]at X;rw[jN (λq O=>X q (by simpa[az]using O))]
  ·rename_i r j v i sz off Z;rw[Z]at X;rw[ci (l:=.al r j v) (λq O=>X q (by simp[aw]at O;simp[az,O])),X EPO (by simp[az])]
  ·rfl
 |store t x y =>
  have H:=M (by simp[I]) (by simp[I]);simp only[I,cl]at H;have J:=nG H (x:=x) (bf (by simp[Op.operands]));have hy:=nG H (x:=y) (bf (by simp[Op.operands]));have e:one st' x=one st x:=dB J.1;have e2:au st' y=au st y:=dS hy.1;have X:∀ q∈az [one st x],st' q=st q:=λq O=>J.2 q (tL O)
  have a9:∀ q∈aw (au st y).2,st' q=st q:=λq O=>hy.2 q (fG O)
  simp only[act,I,e,e2,qN a9,pb a9,tK a9];split
  ·rfl
  ·congr 1;split
   ·rename_i b off Z;rw[Z]at X;have hb:=X b (by simp[az]);simp only[hb,bm hb]
   ·rename_i r j v i sz off Z;rw[Z]at X;have bb:=X r (by simp[az]);rw[ci (l:=.al r j v) (λq O=>X q (by simp[aw]at O;simp[az,O]))];split
    ·rw[wH bb (X EPO (by simp[az])) a9]
    ·rfl
   ·rfl
 |nilCheck x =>
  have H:=M (by simp[I]) (by simp[I]);simp only[I,cl]at H;have J:=dt H (x:=x) (bf (by simp[Op.operands]));have e:one st' x=one st x:=dB J.1;have X:∀ q∈aw [one st x],st' q=st q:=λq O=>J.2 q (jr O)
  simp only[act,I,e,hw];split
  ·rfl
  ·rfl
  ·rename_i r j v i sz off Z;rw[Z]at X;rw[X r (by simp[aw])]
  ·rfl
  ·rename_i p ks ep a y off Z;rw[Z,vn]at X;rw[jN X]
  ·rfl
 |binOp op t x y t' =>
  have H:=M (by simp[I]) (by simp[I]);simp only[I,cl]at H;have J:=dt H (x:=x) (bf (by simp[Op.operands]));have hy:=dt H (x:=y) (bf (by simp[Op.operands]));have e1:one st' x=one st x:=dB J.1;have e2:one st' y=one st y:=dB hy.1;have e3:au st' x=au st x:=dS J.1;have e4:au st' y=au st y:=dS hy.1;simp only[act,I,e1,e2,e3,e4,hw,eK J.2,eK hy.2]
 |unOp op t x =>
  have H:=M (by simp[I]) (by simp[I]);simp only[I,cl]at H;have e1:one st' x=one st x:=dB λt Y=>H t (bf (by simp[Op.operands]) t Y)
  simp only[act,I,e1,hw]
 |convert s t x =>
  have H:=M (by simp[I]) (by simp[I]);simp only[I,cl]at H;have J:=dt H (x:=x) (bf (by simp[Op.operands]));have e1:one st' x=one st x:=dB J.1;have X:∀ q∈aw [one st x],st' q=st q:=λq O=>J.2 q (jr O)
  simp only[act,I,e1,hw];split
  ·rfl
  ·rw[ci X]
  ·rfl
  ·rfl
 |makeSlice t n c =>
  have H:=M (by simp[I]) (by simp[I]);simp only[I,cl]at H;have e1:one st' n=one st n:=dB λt Y=>H t (bf (by simp[Op.operands]) t Y)
  have e2:one st' c=one st c:=dB λt Y=>H t (bf (by simp[Op.operands]) t Y)
  simp only[act,I,e1,e2,hw]
 |slice t x lo hi mx =>
  have H:=M (by simp[I]) (by simp[I]);simp only[I,cl]at H;have hE:=H EPO (BJ ..);have H:=λq O=>H q (BI _ O)
  have J:=dt H (x:=x) (bf (by simp[Op.operands]));have c0:∀ n,di st' lo n=di st lo n:=λn=>nC λy hy t Y=>H t (BG _ (bf (by simp[Op.operands,hy]) t Y))
  have bl:∀ n,di st' hi n=di st hi n:=λn=>nC λy hy t Y=>H t (BG _ (bf (by simp[Op.operands,hy]) t Y))
  have e:one st' x=one st x:=dB J.1;have X:∀ q∈aw [one st x],st' q=st q:=λq O=>J.2 q (jr O)
  have c2:∀ m,mx=some m->di st' (some m) 0=di st (some m) 0:=λm hm=>nC λy hy t Y=>H t (BG _ (bf (by simp[Op.operands,hm,C9 hy]) t Y))
  simp only[act,I,e,c0,bl,ci X,hE];cases hd:o.dst with
  |none=>cases mx <;> rfl
  |some d =>
   cases mx with
   |none=>simp only[a0 _ _ _ _ hd]
   |some m =>
    simp only[c2 m rfl];split
    ·rename_i r j v _ Z _;rw[Z]at X;rw[ci X,it (st:=st) (st':=st') (λz hz=>by simp at hz;subst hz;exact X _ (by simp[aw]))];simp only[a0 _ _ _ _ hd]
    ·rfl
 |fieldAddr t x f =>
  have H:=M (by simp[I]) (by simp[I]);simp only[I,cl]at H;have J:=dt H (x:=x) (bf (by simp[Op.operands]));have e:one st' x=one st x:=dB J.1;have X:∀ q∈aw [one st x],st' q=st q:=λq O=>J.2 q (jr O)
  simp only[act,I,e,hw];split
  ·split
   ·split
    ·rfl
    ·rfl
    ·rename_i r j v i sz off Z;rw[Z]at X;rw[X r (by simp[aw])]
    ·rename_i p ks ep a y o' Z;rw[Z,vn]at X;rw[jN X]
    ·rfl
   ·rfl
  ·rfl
 |field t x f =>
  have H:=M (by simp[I]) (by simp[I]);simp only[I,cl]at H;have e1:au st' x=au st x:=dS λt Y=>H t (bf (by simp[Op.operands]) t Y)
  simp only[act,I,e1,hw]
 |indexAddr t x i =>
  simp only[I,eZ]at hh;have b2:∀ y∈(Op.indexAddr t x i).operands,∀ t,y=.tmp t->bJ (st' t)=bJ (st t):=λy hy t Y=>hh t (BG _ (bf hy t Y))
  have e:one st' x=one st x:=zQ (b2 x (by simp[Op.operands]));have e2:one st' i=one st i:=zQ (b2 i (by simp[Op.operands]));have X:∀ q∈aw [one st x],bJ (st' q)=bJ (st q):=λq O=>by
   obtain⟨t',bn,O⟩:=rF (jr O);have a6:=bf (xs:=(Op.indexAddr t x i).operands) (x:=x) (by simp[Op.operands]) t' bn;rcases O with rfl|O
   ·exact hh q (BG _ a6)
   ·exact hh q (BH _ (BW.2 ⟨t',a6,O⟩))
  simp only[act,I,e,e2,hw];split
  ·split
   ·rfl
   ·split
    ·rename_i r j v Z;rw[Z]at X;have O:=X r (by simp[aw]);have hv:(st' r).ver=(st r).ver:=by simp only[bJ,BV]at O;exact O.1
     simp only[aD,hv];cases BM (st r).ver v with
     |false=>rfl
     |true =>
      simp only[cond_true];rcases tM (ye O j) with e3|⟨p,p',h1,h2,E1,E2,e',cb,xs,cc,e3,e4,e5,e6⟩
      ·rw[e3]
      ·rw[e3,e4];simp only[po,e5,AH,e6]
    ·rfl
    ·rename_i p ks ep c4 E' e' xs Z;rw[Z,is]at X;rw[zu X]
    ·rfl
   ·rfl
  ·rfl
 |index t x i =>
  have H:=M (by simp[I]) (by simp[I]);simp only[I,cl]at H;have J:=dt H (x:=x) (bf (by simp[Op.operands]));have e1:one st' x=one st x:=dB J.1;have e2:one st' i=one st i:=dB (dt H (x:=i) (bf (by simp[Op.operands]))).1;have e3:au st' x=au st x:=dS J.1;simp only[act,I,e1,e2,e3,hw,λe n=>nz (e:=e) n _ J.2]
 |extract x i =>
  have H:=M (by simp[I]) (by simp[I]);simp only[I,cl]at H;have e1:au st' x=au st x:=dS λt Y=>H t (bf (by simp[Op.operands]) t Y)
  simp only[act,I,e1,hw]
 |makeFunc fn first a3 =>
  have H:=M (by simp[I]) (by simp[I]);simp only[I,cl]at H;cases fn with
  |func f =>
   have:sq st' a3.toList=sq st a3.toList:=vp (st:=st) (st':=st') a3.toList (some []) (λx J t Y=>H t (bf (by simp[Op.operands];exact .inr (by simpa using J)) t Y));simp only[act,I,hw,this]
  |_=>simp only[act,I]
 |call c =>
  have H:=M (by simp[I]) (by simp[I]);simp only[I,cl]at H;simp only[act,I];split
  ·rfl
  ·rename_i d hd;obtain⟨b1,b5⟩:=tN hd h;cases hc:c.callee with
   |value f =>
    simp only[hc]at H;have hT:=H TMP (BJ ..);have hE:=H EPO (BI _ (BJ ..));have H:=λq O=>H q (BI _ (BI _ O))
    have b3:f∈(Op.call c).operands:=by simp[Op.operands,Call.operands,hc]
    have ad:∀ x∈c.args.toList,x∈(Op.call c).operands:=λx J=>by
     simp only[Op.operands,Call.operands,hc,C5];exact .inr (by simpa using J)
    have a6:∀ x∈(Op.call c).operands,∀ t,x=.tmp t->st' t=st t:=λx J t Y=>H t (by
     unfold kL;exact BG _ (BG _ (BG _ (bf J t Y))))
    have e1:one st' f=one st f:=dB (a6 f b3);have e2:c.args.toList.map (au st')=c.args.toList.map (au st):=Cq λx J=>dS (a6 x (ad x J))
    have a4:∀ x∈c.args.toList.map (au st),eQ st st' x.2:=by
     intro x J;obtain⟨y,hy,rfl⟩:=BO.1 J;exact qh H (bf (ad y hy))
    simp only[e1,e2];split
    ·rename_i g a3 Z;refine tQ hT hE ?_ b1 b5;intro x J;rcases BE.1 J with J|J
     ·exact a4 x J
     ·obtain⟨b,hb,rfl⟩:=BO.1 J;have hf:=qh H (bf b3);rw[qO Z (by simp)]at hf;exact pe hf _ (BO.2 ⟨b,hb,rfl⟩)
    ·rename_i g a3 Z;refine tQ hT hE ?_ b1 b5;intro x J;rcases BE.1 J with J|J
     ·exact a4 x J
     ·obtain⟨cp,c1,rfl⟩:=BO.1 J;exact nF _ (BO.2 ⟨cp,c1,rfl⟩)
    ·rename_i As B φ Z;rw[rJ As _ (λx J q O=>(a4 x J).d1 q (fG O))];simp only[hw]
    ·rfl
   |builtin b =>
    simp only[hc]at H;have hT:=H TMP (BJ ..);have H:=λq O=>H q (BI _ O)
    have ad:∀ x∈c.args.toList,x∈(Op.call c).operands:=λx J=>by
     simp only[Op.operands,Call.operands,hc,C5];exact .inr (by simpa using J)
    have J:∀ x∈c.args.toList,one st' x=one st x/\∀ q∈aw [one st x],st' q=st q:=λx J=>by
     have:=dt H (bf (ad x J));exact⟨dB this.1,λq O=>this.2 q (jr O)⟩
    cases b with
    |len =>
     dsimp only;split
     ·rename_i x a1;have h1:=J x (by rw[a1];simp);simp only[h1.1,ci h1.2,hw]
     ·rfl
    |append =>
     dsimp only;split
     ·rename_i x y t u a1 _;have h1:=J x (by rw[a1];simp);have h2:=J y (by rw[a1];simp);split
      ·rw[h1.1,h2.1,wF hT h1.2 h2.2 b1]
      ·rfl
     ·rfl
    |min =>
     dsimp only;split
     ·rename_i x y a1;rw[(J x (by rw[a1];simp)).1,(J y (by rw[a1];simp)).1];simp only[hw]
     ·rfl
    |max =>
     dsimp only;split
     ·rename_i x y a1;rw[(J x (by rw[a1];simp)).1,(J y (by rw[a1];simp)).1];simp only[hw]
     ·rfl
    |_=>rfl
   |invoke x n=>rfl
 |_=>simp only[act,I]
end
section
variable {P:Program} {V:Env} {Γ:List Ctr} {T:TypeId->TI} {st st':St} {o:Oper} {R:Type} {all:Array Oper}
def mA (Γ:List Ctr)(T:TypeId->TI)(all:Array Oper)(o:Oper)(st:St)(U:Upd):Prop :=
 match o.guard with
 |none=>act Γ T o st some=some U
 |some (j,r)=>∃ t,(all[j]?).bind (·.dst)=some t /\
  ((∃ b,(st t).sh=.one/\(st t).ls=[.bool b]/\((b=r/\act Γ T o st some=some U)\/(b≠r/\U=eN st o)))\/((st t).sh=.und/\U=eN st o))
def jO (Γ:List Ctr)(T:TypeId->TI)(all:Array Oper)(o:Oper)(st:St)(U:Upd)(t:cK):Prop :=
 ((∀ q∈U.map (·.1),q∈t.wr\/q∈t.cw)/\(∀ q∈t.wr,q∈U.map (·.1))/\∀ q,q∈U.map (·.1)->q∉t.wr->bJ (ac U st q)=bJ (st q))/\match o.guard with
 |none=>act Γ T o st some=some U/\(∀ q∈fu st o,q∈t.rd)/\∀ q∈eZ st o.op,q∈t.hd
 |some (j,r)=>∃ s,(all[j]?).bind (·.dst)=some s/\s∈t.rd /\
  ((∃ b,(st s).sh=.one/\(st s).ls=[.bool b]/\((b=r/\act Γ T o st some=some U/\(∀ q∈fu st o,q∈t.rd)/\∀ q∈eZ st o.op,q∈t.hd)\/(b≠r/\U=eN st o/\∀ d,o.dst=some d->d∈t.wr))) \/
   ((st s).sh=.und/\U=eN st o/\∀ d,o.dst=some d->d∈t.wr))
theorem tR {α:Type}:∀ {l:List α} {j:Nat} {x:α},l[j]?=some x->l.set j x=l
 |[],_,_,h=>by simp at h
 |y::l,0,x,h=>by simp at h;subst h;rfl
 |y::l,j+1,x,h=>by rw[Cw,tR (by simpa using h)]
theorem AI {U:Upd}(h:act Γ T o st some=some U):∀ q∈d4 st o,bJ (ac U st q)=bJ (st q):=by
 intro q u;unfold d4 at u;split at u
 ·rename_i t x y J;split at u
  ·rename_i r j a0 i sz off hx;simp only[CD]at u;subst u;simp only[act,wrU,J]at h;split at h
   ·cases h
   ·cases Z:BM (au st y).2.length (T t).cells&&decide ((au st y).1=bi (T t).agg)&&!decide ((T t).cells=0) with
    |false=>simp[Z]at h
    |true =>
     simp only[Z,cond_true,hx]at h;split at h
     ·rename_i p hh E e xs hd;cases hc:BM sz e.cells&&decide (off+(au st y).2.length<=e.cells)&&r8 q with
      |false=>simp[hc]at h
      |true =>
       simp only[hc,cond_true]at h;obtain⟨_,hl⟩:=fg hd (by simp);have z:∀ (M:Bool) (I:Option (Nat×Nat)) (v:e.den) (X:Upd),bJ (ac ((q,⟨(st q).ver,(st q).sh,aT (st q).ls j (.own M I E e (xs.set i v))⟩)::X) st q)=bJ (st q):=by
        intro M I v X;rw[aP,bk];simp only[bJ,aT];rw[List.map_set,tR];rw[Cz,hl];simp[jB]
       unfold gE at h;obtain⟨a1,_,h⟩:=CB.1 h;split at h
       ·rename_i t _;cases H:t.rest.isEmpty&&aZ t.kill&&dz t.frz t.kill&&!((t.kill++t.frz).any λk=>BM k.1 q) with
        |false=>rw[H]at h;cases h
        |true =>
         simp only[H,cond_true]at h;cases hh with
         |none =>
          simp only[BD]at h;rw[<- h];exact z _ _ _ _
         |some hp =>
          obtain⟨hi,O⟩:=hp;simp only at h;cases Y:Cp off O&&Ci O (off+(au st y).2.length) with
          |false =>
           rw[Y]at h;simp only[cond_false,BD]at h;rw[<- h];exact z _ _ _ _
          |true =>
           rw[Y]at h;simp only[cond_true]at h;cases h2:BM i hi <;> rw[h2]at h <;> simp only[cond_true,cond_false,BD]at h <;> rw[<- h] <;> exact z _ _ _ _
       ·cases h
     ·cases h
  ·simp at u
 ·simp at u
theorem pg {t:Nat}{b:Bool}(u:(st t).sh=.one)(r:(st t).ls=[.bool b]):lit st t b=st:=by
 funext q;unfold lit;rcases aj t q ⟨(st t).ver,.one,[.bool b]⟩ st with ⟨rfl,e⟩|⟨_,e⟩
 ·rw[e,<- u,<- r]
 ·exact e
theorem wI {U:Upd}(h:act Γ T o st some=some U):(∀ q∈U.map (·.1),q∈(U.map (·.1)).filter (λq=>!((d4 st o).any (BM q)))\/q∈d4 st o)/\(∀ q∈(U.map (·.1)).filter (λq=>!((d4 st o).any (BM q))),q∈U.map (·.1)) /\
  ∀ q,q∈U.map (·.1)->q∉(U.map (·.1)).filter (λq=>!((d4 st o).any (BM q)))->bJ (ac U st q)=bJ (st q):=by
 have r:∀ q,(d4 st o).any (BM q)=true->q∈d4 st o:=λq u=>by
  obtain⟨x,z,H⟩:=CS.1 u;rw[BK H];exact z
 refine⟨λq u=>?_,λq u=>(CO.1 u).1,λq u I=>?_⟩
 ·cases y:(d4 st o).any (BM q) with
  |true=>exact .inr (r q y)
  |false=>exact .inl (CO.2 ⟨u,by rw[y];rfl⟩)
 ·refine AI h q (r q ?_);cases y:(d4 st o).any (BM q) with
  |true=>rfl
  |false=>exact absurd (CO.2 ⟨u,by rw[y];rfl⟩) I
theorem AJ {κ:St->cK->Option R}{r:R}(h:opK Γ T all o st κ=some r):∃ U t,jO Γ T all o st U t/\κ (ac U st) t=some r:=by
 have X:∀ (J:List Nat),act Γ T o st (λU=>κ (ac U st) ⟨J++fu st o,eZ st o.op,(U.map (·.1)).filter (λq=>!((d4 st o).any (BM q))),d4 st o⟩)=some r ->
   ∃ U,act Γ T o st some=some U/\κ (ac U st) ⟨J++fu st o,eZ st o.op,(U.map (·.1)).filter (λq=>!((d4 st o).any (BM q))),d4 st o⟩=some r:=by
  intro J h;rw[tJ]at h;obtain⟨U,M,Y⟩:=CB.1 h;exact⟨U,M,Y⟩
 have y:((∀ q∈(eN st o).map (·.1),q∈o.dst.toList\/q∈([]:List Nat))/\(∀ q∈o.dst.toList,q∈(eN st o).map (·.1))/\∀ q,q∈(eN st o).map (·.1)->q∉o.dst.toList->bJ (ac (eN st o) st q)=bJ (st q)):=by
  unfold eN;cases o.dst with
  |none=>simp
  |some d=>simp
 unfold opK at h;unfold jO;cases hg:o.guard with
 |none =>
  simp only[hg]at h;obtain⟨U,M,Y⟩:=X [] h;exact⟨U,_,⟨wI M,M,λq H=>by simpa using H,λq H=>H⟩,Y⟩
 |some jw =>
  obtain⟨j,O⟩:=jw;simp only[hg]at h;split at h
  ·rename_i t Z;have I:∀ d,o.dst=some d->d∈o.dst.toList:=λd hd=>by simp[hd]
   split at h
   ·rename_i b u z;have hl:∀ b',b'=b->lit st t b'=st:=λb' e=>pg u (by rw[z,e])
    cases b with
    |true =>
     simp only[cond_true,hl true rfl]at h;cases O with
     |true =>
      simp only[cond_true]at h;obtain⟨U,M,Y⟩:=X [t] h;exact⟨U,_,⟨wI M,t,Z,by simp,.inl ⟨true,u,z,.inl ⟨rfl,M,λq H=>BH _ H,λq H=>H⟩⟩⟩,Y⟩
     |false =>
      simp only[cond_false]at h;exact⟨eN st o,_,⟨y,t,Z,by simp,.inl ⟨true,u,z,.inr ⟨by simp,rfl,I⟩⟩⟩,h⟩
    |false =>
     simp only[cond_false,hl false rfl]at h;cases O with
     |true =>
      simp only[cond_true]at h;exact⟨eN st o,_,⟨y,t,Z,by simp,.inl ⟨false,u,z,.inr ⟨by simp,rfl,I⟩⟩⟩,h⟩
     |false =>
      simp only[cond_false]at h;obtain⟨U,M,Y⟩:=X [t] h;exact⟨U,_,⟨wI M,t,Z,by simp,.inl ⟨false,u,z,.inl ⟨rfl,M,λq H=>BH _ H,λq H=>H⟩⟩⟩,Y⟩
   ·rename_i u;exact⟨eN st o,_,⟨y,t,Z,by simp,.inr ⟨u,rfl,I⟩⟩,h⟩
   ·cases h
  ·cases h
theorem vq {U:Upd}(e:U=eN st o)(u:∀ d,o.dst=some d->st' d=st d):U=eN st' o:=by
 rw[e];unfold eN;cases r:o.dst with
 |none=>rfl
 |some d=>simp only[u d r]
theorem jO.frame {U:Upd}{t:cK}(h:jO Γ T all o st U t)(u:∀ q,q∈t.rd\/q∈t.wr->st' q=st q)(hh:∀ q∈t.hd,bJ (st' q)=bJ (st q)):mA Γ T all o st' U:=by
 obtain⟨_,h⟩:=h;have r:act Γ T o st some=some U->(∀ q∈fu st o,q∈t.rd)->(∀ q∈eZ st o.op,q∈t.hd)->act Γ T o st' some=some U:=by
  intro Z J M;rw[Bt (λq y=>u q (.inl (J q y))) (λq y=>hh q (M q y))];exact Z
 unfold mA;cases hg:o.guard with
 |none =>
  rw[hg]at h;exact r h.1 h.2.1 h.2.2
 |some jw =>
  obtain⟨j,a0⟩:=jw;rw[hg]at h;obtain⟨s,Z,J,M⟩:=h;have Y:=u s (.inl J);refine⟨s,Z,?_⟩;rw[Y];rcases M with ⟨b,h4,O,I⟩|⟨h4,O,I⟩
  ·refine .inl ⟨b,h4,O,?_⟩;rcases I with ⟨z,h8,h9,X⟩|⟨z,h8,h9⟩
   ·exact .inl ⟨z,r h8 h9 X⟩
   ·exact .inr ⟨z,vq h8 (λd H=>u d (.inr (h9 d H)))⟩
  ·exact .inr ⟨h4,vq O (λd H=>u d (.inr (I d H)))⟩
theorem wJ (hV:ay V)(hT:TOk P T)(hΓ:∀ c∈Γ,bO P c){ops:Array Oper}{i:Nat}(hi:ops[i]?=some o)(O:bM V o)(z:∀ j u,o.guard=some (j,u)->∀ s,(ops[j]?).bind (·.dst)=some s->s<V.nt)
  {U:Upd} (h:mA Γ T ops o st U) {a:Act} {w:World} (H:Rel P V st a w) {K:Act->World->Prop} {Q:Exit->Act->World->Prop} (hK:∀ a' w',Rel P V (ac U st) a' w'->K a' w'):wpOp P ops Q i K a w:=by
 obtain⟨W,H⟩:=H;unfold wpOp;simp only[hi];have Z:act Γ T o st some=some U->o.wp P a w K Q:=by
  intro h1;obtain⟨U',h2,h3⟩:=Bs hV hT hΓ O h1;cases h2;exact h3 W a w H K Q hK
 have y:U=eN st o->K (a.put o.dst undef) w:=by
  intro e;refine hK _ _ ?_;subst e;unfold eN;cases hd:o.dst with
  |none=>exact⟨W,H⟩
  |some d=>exact H.putLs hV d (O d hd).1 (O d hd).2 _ .und [] undef [] (CM _) ⟨rfl,rfl⟩ trivial
 unfold mA at h;cases M:o.guard with
 |none =>
  rw[M]at h;have J:Region.wanted o (yielded ops a.tmps)=true:=by simp[Region.wanted,M]
  rw[if_pos J];exact .inl (Z h)
 |some jw =>
  obtain⟨j,u⟩:=jw;rw[M]at h;obtain⟨s,h1,h2⟩:=h;have a0:=z j u M s h1;have a1:s<GH:=Cx a0 hV.nt;have r:=H.slots s a1;have a2:s<a.tmps.size:=by rw[H.nt];exact a0
  have I:a.tmps[s]?=some (a.tmps.getD s undef):=by
   rw[BQ,BP a2];rfl
  rcases h2 with ⟨b,h3,h4,h5⟩|⟨h3,h5⟩
  ·have X:=H.len s;rw[h4]at X;rw[h3]at r;have r:W.cs s=[a.tmps.getD s undef]:=r;have Y:=H.leaf s 0 (.bool b) (a.tmps.getD s undef) (by rw[h4];rfl) (by rw[r];rfl);have Y:a.tmps.getD s undef=.bool b:=Y;have hy:yielded ops a.tmps j=some b:=by simp[yielded,h1,I,Y]
   rcases h5 with ⟨rfl,h6⟩|⟨h6,h7⟩
   ·have J:Region.wanted o (yielded ops a.tmps)=true:=by simp[Region.wanted,M,hy]
    rw[if_pos J];exact .inl (Z h6)
   ·have J:Region.wanted o (yielded ops a.tmps)=false:=by
     simp only[Region.wanted,M,hy];cases b <;> cases u <;> simp at h6 <;> rfl
    rw[J];exact y h7
  ·rw[h3]at r;obtain⟨Y,_⟩:=r;have hy:yielded ops a.tmps j=none:=by
    unfold yielded;rw[h1,CI,I,Y];rfl
   have J:Region.wanted o (yielded ops a.tmps)=false:=by simp[Region.wanted,M,hy]
   rw[J];exact y h5
def Run (Γ:List Ctr)(T:TypeId->TI)(all:Array Oper):St->List Oper->List Upd->List cK->St->Prop
 |st,[],[],[],st'=>st'=st
 |st,o::u,U::r,t::y,st'=>jO Γ T all o st U t/\Run Γ T all (ac U st) u r y st'
 |_,_,_,_,_=>False
theorem ph:∀ (H:List Oper) (st:St) (z:List cK) (y:St->List cK->Option R) (r:R),qm Γ T all H st z y=some r ->
  ∃ I u st',Run Γ T all st H I u st'/\y st' (z++u)=some r
 |[],st,z,y,r,h=>⟨[],[],st,rfl,by simpa[qm]using h⟩
 |o::H,st,z,y,r,h=>by
  simp only[qm]at h;obtain⟨U,t,O,M⟩:=AJ h;obtain⟨I,u,st',X,J⟩:=ph H (ac U st) (z++[t]) y r M;exact⟨U::I,t::u,st',⟨O,X⟩,by rw[CA]at J;exact J⟩
theorem jO.res {U:Upd}{t:cK}(h:jO Γ T all o st U t):mA Γ T all o st U:=h.frame (λ_ _=>rfl) (λ_ _=>rfl)
theorem vr (Z:ay V)(X:TOk P T)(hΓ:∀ c∈Γ,bO P c){ops:Array Oper}(y:∀ (i:Nat) (o:Oper),ops[i]?=some o->bM V o)
  (r:∀ (i:Nat) (o:Oper),ops[i]?=some o->∀ j z,o.guard=some (j,z)->∀ s,(ops[j]?).bind (·.dst)=some s->s<V.nt) {Q:Exit->Act->World->Prop} :
  ∀ (u:List Oper) (k:Nat) (st:St) (us:List Upd) (O:List cK) (st':St),ops.toList.drop k=u->Run Γ T ops st u us O st'->(∀ a w,Rel P V st' a w->Q .normal a w) ->
   ∀ a w,Rel P V st a w->wpOps P ops Q (List.range' k u.length) a w
 |[],k,st,[],[],st',_,h,H,a,w,M=>by
  have h:st'=st:=h;subst h;exact H a w M
 |o::u,k,st,U::us,t::O,st',Y,h,H,a,w,M=>by
  obtain⟨h1,h2⟩:=h;have J:ops[k]?=some o:=by
   have:(ops.toList.drop k)[0]?=some o:=by rw[Y];rfl
   rw[List.getElem?_drop]at this;simpa using this
  rw[CJ,List.range'_succ,wpOps_cons];refine wJ Z X hΓ J (y k o J) (r k o J) h1.res M (λa' w' I=>?_);exact vr Z X hΓ y r u (k+1) (ac U st) us O st' (by rw[<- Cm,Y];rfl) h2 H a' w' I
end
section
variable {P:Program} {V:Env} {Γ:List Ctr} {T:TypeId->TI} {st st':St} {o:Oper} {R:Type} {all:Array Oper}
def dg (D:Nat->Bool):List Upd->St->St
 |[],st=>st
 |U::r,st=>dg (λj=>D (j+1)) r (bif D 0 then ac U st else st)
theorem js {q:Nat}:∀ {U:Upd} (s u:St),q∈U.map (·.1)->ac U s q=ac U u q
 |[],_,_,h=>by simp at h
 |(r,c)::U,s,u,h=>by
  simp only[ac];cases y:BM q r with
  |true=>rfl
  |false =>
   simp only[cond_false];refine js s u ?_;simp only[B4,BR]at h;rcases h with rfl|h
   ·simp at y
   ·exact h
theorem eL {q:Nat}:∀ {U:Upd} (s:St),q∉U.map (·.1)->ac U s q=s q
 |[],_,_=>rfl
 |(r,c)::U,s,h=>by
  simp only[B4,BR,not_or]at h;have u:BM q r=false:=by
   cases u:BM q r with
   |false=>rfl
   |true=>exact absurd (BK u) h.1
  simp only[ac,u,cond_false];exact eL s h.2
theorem yf {U u:Upd}(h:∀ q,q∈U.map (·.1)->q∉u.map (·.1))(s:St):ac u (ac U s)=ac U (ac u s):=by
 funext q;by_cases r:q∈U.map (·.1)
 ·rw[eL _ (h q r)];exact js _ _ r
 ·rw[eL (U:=U) _ r];by_cases y:q∈u.map (·.1)
  ·exact js _ _ y
  ·rw[eL _ y,eL _ y,eL _ r]
theorem mB:∀ {us:List Upd} {D D':Nat->Bool} {s:St},(∀ j,j<us.length->D j=D' j)->dg D us s=dg D' us s
 |[],_,_,_,_=>rfl
 |U::us,D,D',s,h=>by
  simp only[dg];rw[h 0 (by simp)];exact mB (λj r=>h (j+1) (by simpa using r))
theorem nH:∀ {us:List Upd} {D:Nat->Bool} {s:St},(∀ j,D j=false)->dg D us s=s
 |[],_,_,_=>rfl
 |U::us,D,s,h=>by
  simp only[dg,h 0,cond_false];exact nH (λj=>h (j+1))
theorem mC {q:Nat}:∀ {us:List Upd} {D D':Nat->Bool} {s r:St},s q=r q->(∀ (j:Nat) (U:Upd),us[j]?=some U->q∈U.map (·.1)->D j=D' j)->dg D us s q=dg D' us r q
 |[],_,_,_,_,h,_=>h
 |U::us,D,D',s,r,h,H=>by
  simp only[dg];refine mC ?_ (λj M J I=>H (j+1) M (by simpa using J) I);by_cases u:q∈U.map (·.1)
  ·rw[H 0 U rfl u];cases D' 0 with
   |true=>exact js _ _ u
   |false=>exact h
  ·have z:∀ b:Bool,(bif b then ac U s else s) q=s q:=by intro b;cases b <;> simp[eL _ u]
   have y:∀ b:Bool,(bif b then ac U r else r) q=r q:=by intro b;cases b <;> simp[eL _ u]
   rw[z,y,h]
theorem nI {U:Upd}:∀ {us:List Upd} {D:Nat->Bool} {s:St},(∀ (j:Nat) (u:Upd),us[j]?=some u->D j=true->∀ q,q∈U.map (·.1)->q∉u.map (·.1))->dg D us (ac U s)=ac U (dg D us s)
 |[],_,_,_=>rfl
 |u::us,D,s,h=>by
  simp only[dg];cases H:D 0 with
  |true =>
   simp only[cond_true];rw[yf (h 0 u rfl H)];exact nI (λj r z y=>h (j+1) r (by simpa using z) y)
  |false =>
   simp only[cond_false];exact nI (λj r z y=>h (j+1) r (by simpa using z) y)
theorem oF {U:Upd}:∀ {us:List Upd} {i:Nat} {D D':Nat->Bool} {s:St},us[i]?=some U->D i=false->(∀ j,D' j=(D j||BM j i)) ->
  (∀ (j:Nat) (u:Upd),us[j]?=some u->i<j->D j=true->∀ q,q∈U.map (·.1)->q∉u.map (·.1))->dg D' us s=ac U (dg D us s)
 |[],i,_,_,_,h,_,_,_=>by simp at h
 |V::us,0,D,D',s,h,y,r,H=>by
  simp at h;subst h;simp only[dg];have I:D' 0=true:=by rw[r 0];simp
  rw[I,y];simp only[cond_true,cond_false];have e:dg (λj=>D' (j+1)) us (ac V s)=dg (λj=>D (j+1)) us (ac V s):=mB (λj _=>by rw[r (j+1)];simp[BM]);rw[e];exact nI (λj u z J=>H (j+1) u (by simpa using z) (by omega) J)
 |V::us,i+1,D,D',s,h,y,r,H=>by
  simp only[dg];have I:D' 0=D 0:=by rw[r 0];simp[BM]
  rw[I];exact oF (i:=i) (by simpa using h) y (λj=>by rw[r (j+1)];simp[BM]) (λj u z J M=>H (j+1) u (by simpa using z) (by omega) M)
theorem qP:∀ {r:List Oper} {us:List Upd} {y:List cK} {s z:St},Run Γ T all s r us y z->∀ (i:Nat) (o:Oper),r[i]?=some o ->
  ∃ U t,us[i]?=some U/\y[i]?=some t/\jO Γ T all o (dg (λj=>decide (j<i)) us s) U t
 |[],_,_,_,_,_,i,o,h=>by simp at h
 |H::r,[],_,_,_,h,_,_,_=>h.elim
 |H::r,_::_,[],_,_,h,_,_,_=>h.elim
 |H::r,U::us,t::y,s,z,h,0,o,u=>by
  simp at u;subst u;exact⟨U,t,rfl,rfl,by rw[nH (λj=>by simp)];exact h.1⟩
 |H::r,U::us,t::y,s,z,h,i+1,o,u=>by
  obtain⟨O,X,M,I,J⟩:=qP h.2 i o (by simpa using u);refine⟨O,X,by simpa using M,by simpa using I,?_⟩;simp only[dg];have e:(λj=>decide (j+1<i+1))=λj=>decide (j<i):=by funext j;simp
  rw[e];simpa using J
theorem vt:∀ {r:List Oper} {us:List Upd} {y:List cK} {s u:St},Run Γ T all s r us y u->us.length=r.length/\y.length=r.length/\u=dg (λ_=>true) us s
 |[],[],[],_,_,h=>⟨rfl,rfl,h⟩
 |[],_::_,_,_,_,h=>h.elim
 |[],[],_::_,_,_,h=>h.elim
 |_::_,[],_,_,_,h=>h.elim
 |_::_,_::_,[],_,_,h=>h.elim
 |o::r,U::us,t::y,s,u,h=>by
  obtain⟨H,z,I⟩:=vt h.2;exact⟨by simp[H],by simp[z],by simpa[dg]using I⟩
theorem qQ {q:Nat}:∀ {os:List Oper} {us:List Upd} {O:List cK} {I s':St} {D:Nat->Bool} {F:Nat->Bool} {s sF:St} {B:Prop},Run Γ T all I os us O s'->(∀ (j:Nat) (t:cK),O[j]?=some t->F j=decide (q∈t.wr)) ->
  bJ (s q)=bJ (sF q)->(B->bJ (sF q)=bJ (I q)) ->
  (∀ (j:Nat) (t:cK) (U:Upd),O[j]?=some t->us[j]?=some U->D j=true->q∉t.wr->q∈U.map (·.1)->B/\∀ (k:Nat) (t':cK),k<j->O[k]?=some t'->q∈t'.wr->D k=true) ->
  bJ (dg D us s q)=bJ (dg (λj=>D j&&F j) us sF q)
 |[],[],[],_,_,_,_,_,_,_,_,_,M,_,_=>M
 |[],_::_,_,_,_,_,_,_,_,_,h,_,_,_,_=>h.elim
 |[],[],_::_,_,_,_,_,_,_,_,h,_,_,_,_=>h.elim
 |_::_,[],_,_,_,_,_,_,_,_,h,_,_,_,_=>h.elim
 |_::_,_::_,[],_,_,_,_,_,_,_,h,_,_,_,_=>h.elim
 |o::os,U::us,t::O,I,s',D,F,s,sF,B,h,hF,M,Z,H=>by
  obtain⟨⟨⟨k1,k2,k3⟩,_⟩,z⟩:=h;have y:=hF 0 t rfl;simp only[dg];refine qQ (F:=λj=>F (j+1)) (B:=B/\(q∈t.wr->D 0=true)) z (λj t' Y=>hF (j+1) t' (by simpa using Y)) ?_ ?_ ?_
  ·by_cases r:q∈U.map (·.1)
   ·by_cases u:q∈t.wr
    ·rw[y,decide_eq_true u,Ce];cases D 0 with
     |true=>simp only[cond_true];rw[js s sF r]
     |false=>exact M
    ·rw[y,decide_eq_false u,CX];simp only[cond_false];cases J:D 0 with
     |true =>
      simp only[cond_true];rw[js s I r,k3 q r u];exact (Z (H 0 t U rfl rfl J u r).1).symm
     |false=>exact M
   ·have e:∀ (b:Bool) (x:St),(bif b then ac U x else x) q=x q:=by intro b x;cases b <;> simp[eL _ r]
    rw[e,e];exact M
  ·rintro⟨hB,J⟩;by_cases r:q∈U.map (·.1)
   ·by_cases u:q∈t.wr
    ·rw[y,decide_eq_true u,Ce,J u];simp only[cond_true];rw[js sF I r]
    ·rw[y,decide_eq_false u,CX];simp only[cond_false];rw[k3 q r u];exact Z hB
   ·have e:∀ (b:Bool) (x:St),(bif b then ac U x else x) q=x q:=by intro b x;cases b <;> simp[eL _ r]
    rw[e,eL _ r];exact Z hB
  ·intro j t' U' Y hU J u r;obtain⟨g1,g2⟩:=H (j+1) t' U' (by simpa using Y) (by simpa using hU) J u r;exact⟨⟨g1,λa1=>g2 0 t (by omega) rfl a1⟩,λk t2 hk a0 X=>g2 (k+1) t2 (by omega) (by simpa using a0) X⟩
theorem rK {f:Nat->Nat}{i:Nat}:∀ (l:List Edge) (s:Nat),(l.foldl (λs e=>bif Region.binds .any e then s ||| 2 ^ e.on ||| f e.on else s) s).testBit i=true ->
  s.testBit i=true\/∃ e∈l,Region.binds .any e=true/\(i=e.on\/(f e.on).testBit i=true)
 |[],s,h=>.inl h
 |e::l,s,h=>by
  simp only[DA]at h;rcases rK l _ h with h|⟨u,z,y⟩
  ·cases r:Region.binds .any e with
   |false=>rw[r]at h;exact .inl h
   |true =>
    rw[r]at h;simp only[cond_true,Nat.testBit_or,CT]at h;rcases h with (h|h)|h
    ·exact .inl h
    ·refine .inr ⟨e,BJ ..,r,.inl ?_⟩;rw[Nat.testBit_two_pow]at h;exact (of_decide_eq_true h).symm
    ·exact .inr ⟨e,BJ ..,r,.inr h⟩
  ·exact .inr ⟨u,BI _ z,y⟩
theorem tS:∀ (z:List Oper) (r:List Nat),(∀ j,j<r.length->(jP z r).getD j 0=r.getD j 0) /\
  ∀ (k:Nat) (o:Oper),z[k]?=some o->∃ u:List Nat,u.length=r.length+k/\(∀ j,j<u.length->u.getD j 0=(jP z r).getD j 0) /\
   (jP z r).getD (r.length+k) 0=o.after.toList.foldl (λs e=>bif Region.binds .any e then s ||| 2 ^ e.on ||| u.getD e.on 0 else s) 0
 |[],r=>⟨λ_ _=>rfl,λk o h=>by simp at h⟩
 |o::z,r=>by
  obtain⟨I,M⟩:=tS z (r++[o.after.toList.foldl (λs e=>bif Region.binds .any e then s ||| 2 ^ e.on ||| r.getD e.on 0 else s) 0]);have y:∀ j,j<r.length->(jP (o::z) r).getD j 0=r.getD j 0:=by
   intro j H;simp only[jP];rw[I j (by simp;omega)];simp[BS,B7 H]
  refine⟨y,λk O h=>?_⟩;cases k with
  |zero =>
   simp at h;subst h;refine⟨r,rfl,λj H=>(y j H).symm,?_⟩;simp only[jP];rw[Nat.add_zero,I r.length (by simp)];simp[BS]
  |succ k =>
   obtain⟨u,Y,J,X⟩:=M k O (by simpa using h);refine⟨u,by simp at Y;omega,λj H=>J j H,?_⟩;simp only[jP];have e:r.length+(k+1)=(r++[o.after.toList.foldl (λs e=>bif Region.binds .any e then s ||| 2 ^ e.on ||| r.getD e.on 0 else s) 0]).length+k:=by simp;omega
   rw[e];exact X
theorem jC {ops:Array Oper}{D:Nat->Prop}(z:∀ (j:Nat) (o:Oper),ops[j]?=some o->D j->∀ e∈o.after.toList,Region.binds .any e=true->D e.on) :
  ∀ (n j:Nat),j<n->∀ (o:Oper),ops[j]?=some o->(∀ e∈o.after.toList,Region.binds .any e=true->D e.on)->∀ i,((jP ops.toList []).getD j 0).testBit i=true->D i
 |0,_,h,_,_,_,_,_=>by omega
 |n+1,j,hj,o,X,O,i,I=>by
  obtain⟨r,h1,Z,J⟩:=(tS ops.toList []).2 j o (by simpa using X);simp only[List.length_nil,CN]at h1 J;rw[J]at I;rcases rK (f:=λk=>r.getD k 0) _ _ I with h|⟨e,Y,M,y⟩
  ·simp at h
  ·rcases y with rfl|y
   ·exact O e Y M
   ·have H:e.on<r.length:=by
     apply B8;intro hn;have:r.getD e.on 0=0:=by
      rw[BS,Ck (by omega)];rfl
     rw[this]at y;simp at y
    rw[Z _ H]at y;have hD:=O e Y M;have u:e.on<ops.size:=by
     have:=(CY.1 X).1;omega
    exact jC z n e.on (by omega) ops[e.on] (BP u) (z e.on _ (BP u) hD) i y
theorem fT {a b:List Nat}(h:lY a b=false){q:Nat}(r:q∈a):q∉b:=by
 intro u;unfold lY at h;rw[Cc]at h;have:=h q r;simp only[CS,not_exists,not_and]at this;exact this q u (by simp)
theorem lw {r:List Nat}{z:List cK}(h:pu r z=true){i j:Nat}(u:i<j){x y:cK}(M:z[i]?=some x)(H:z[j]?=some y):(r.getD j 0).testBit i=true\/x.apart y=true:=by
 unfold pu at h;rw[B3]at h;have O:=(BN.1 H).1;have J:=h j (by simpa using O);rw[B3]at J;have I:=J i (by simpa using u);simp only[M,H,CT]at I;exact I
theorem qi {p p':Nat->Bool}{i:Nat}(I:p i=true)(r:p' i=false)(h:∀ j,j≠i->p' j=p j):∀ (l:List Nat),l.Nodup->i∈l->l.countP p'+1=l.countP p
 |[],_,z=>by simp at z
 |x::l,H,z=>by
  rw[CE]at H;by_cases u:x=i
  ·subst u;have e:l.countP p'=l.countP p:=by
    apply List.countP_congr;intro y J;rw[h y (λe=>H.1 (e ▸ J))]
   simp[I,r,e]
  ·have M:=qi I r h l H.2 ((BR.1 z).resolve_left (λe=>u e.symm));simp only[C6,h x u];omega
theorem Bu (hV:ay V)(hT:TOk P T)(hΓ:∀ c∈Γ,bO P c){ops:Array Oper}(e6:∀ (i:Nat) (o:Oper),ops[i]?=some o->bM V o)
  (b9:∀ (i:Nat) (o:Oper),ops[i]?=some o->∀ j d1,o.guard=some (j,d1)->∀ s,(ops[j]?).bind (·.dst)=some s->s<V.nt) {Q:Exit->Act->World->Prop}
  {us:List Upd} {ts:List cK} {s0 s1:St} (a2:Run Γ T ops s0 ops.toList us ts s1) (a4:nN ops=true) (c4:pu (jP ops.toList []) ts=true) (hQ:∀ a w,Rel P V s1 a w->Q .normal a w) :
  ∀ (a0:Nat) (r:Array Bool) (a:Act) (w:World),r.size=ops.size->(DC ops.size).countP (λi=>!r.getD i true)=a0 ->
   (∀ (j:Nat) (o:Oper),ops[j]?=some o->r.getD j false=true->∀ e∈o.after.toList,Region.binds .any e=true->r.getD e.on false=true) ->
   Rel P V (dg (λj=>r.getD j false) us s0) a w->wpAny P .any ops Q a0 r a w:=by
 obtain⟨em,ef,e0⟩:=vt a2;have eg:ops.toList.length=ops.size:=Cr;have ba:∀ (r:Array Bool),r.size=ops.size->Region.ready .any ops r=[]->∀ i,i<ops.size->r.getD i false=true:=by
  intro r a1 hr i;induction i using DB with
  |ind i ih =>
   intro hi;cases hl:r.getD i false with
   |true=>rfl
   |false =>
    exfalso;have e5:r.getD i true=false:=by
     rw[BQ,BP (by omega)]at hl ⊢;exact hl
    have ho:ops[i]?=some ops[i]:=BP hi;have bn:i∈Region.ready .any ops r:=by
     unfold Region.ready;rw[CO];refine⟨by simpa using hi,?_⟩;rw[e5,ho];simp only[DD,Cv,B6,C7];rw[CQ];intro e he;cases e4:Region.binds .any e with
     |false=>rfl
     |true =>
      simp only[Bool.not_true,Bool.false_or];have bl:e.on<i:=by
       unfold nN at a4;rw[B3]at a4;have:=a4 i (by simpa using hi);simp only[ho]at this;rw[B3]at this;have:=this e (by simpa using he);simpa[e4]using this
      exact ih e.on bl (by omega)
    rw[hr]at bn;simp at bn
 have bx:∀ (r:Array Bool) (a:Act) (w:World),r.size=ops.size->Rel P V (dg (λj=>r.getD j false) us s0) a w->Region.ready .any ops r=[]->Q .normal a w:=by
  intro r a w a1 hr bb;refine hQ a w ?_;rw[e0];have:dg (λ_=>true) us s0=dg (λj=>r.getD j false) us s0:=mB (λj J=>(ba r a1 bb j (by omega)).symm);rw[this];exact hr
 intro a0;induction a0 with
 |zero =>
  intro r a w a1 O b1 hr;have bb:Region.ready .any ops r=[]:=by
   unfold Region.ready;rw[List.filter_eq_nil_iff];intro i hi hc;rw[Cs]at O;have:=O i hi;simp only[BF]at hc;exact this hc.1
  exact⟨bb,bx r a w a1 hr bb⟩
 |succ a0 ih =>
  intro r a w a1 O b1 hr;refine⟨bx r a w a1 hr,λi hi=>?_⟩;unfold Region.ready at hi;rw[CO]at hi;obtain⟨b3,c3⟩:=hi;have b3:i<ops.size:=by simpa using b3
  have ho:ops[i]?=some ops[i]:=BP b3;rw[ho]at c3;simp only[BF,CH,B6,C7]at c3;obtain⟨b0,a9⟩:=c3;rw[CQ]at a9;have X:r.getD i false=false:=by
   rw[BQ,BP (by omega)]at b0 ⊢;exact b0
  have d3:∀ e∈(ops[i]).after.toList,Region.binds .any e=true->r.getD e.on false=true:=by
   intro e he hb;have:=a9 e (by simpa using he);simpa[hb]using this
  obtain⟨U,t,hU,ht,b4⟩:=qP a2 i ops[i] (by simp);have ad:∀ (j:Nat) (o:Oper),ops[j]?=some o->(λk=>r.getD k false=true) j->∀ e∈o.after.toList,Region.binds .any e=true->(λk=>r.getD k false=true) e.on:=b1;obtain⟨e3,_,_⟩:=b4.1;have Y:∀ (j:Nat) (M:Upd),us[j]?=some M->∃ H,ts[j]?=some H/\(∀ q∈M.map (·.1),q∈H.wr\/q∈H.cw)/\∀ q∈H.wr,q∈M.map (·.1):=by
   intro j M J;have a5:j<ops.size:=by
    have:=(BN.1 J).1;omega
   obtain⟨U2,t2,h1,Z,h3⟩:=qP a2 j ops[j] (by simp[a5]);rw[J]at h1;cases h1;exact⟨t2,Z,h3.1.1,h3.1.2.1⟩
  have cb:∀ (j:Nat) (M:Upd),us[j]?=some M->j≠i->r.getD j false≠decide (j<i)->∃ H,ts[j]?=some H/\(∀ q∈M.map (·.1),q∈H.wr\/q∈H.cw)/\(H.apart t=true\/t.apart H=true):=by
   intro j M J b5 u;obtain⟨H,h1,Z,_⟩:=Y j M J;refine⟨H,h1,Z,?_⟩;rcases Nat.lt_or_gt_of_ne b5 with bl|eb
   ·have hl:r.getD j false=false:=by
     cases hl:r.getD j false with
     |false=>rfl
     |true=>rw[hl]at u;simp[bl]at u
    rcases lw c4 bl h1 ht with h3|h3
    ·have:=jC ad (i+1) i (CM _) ops[i] ho d3 j h3;rw[hl]at this;cases this
    ·exact .inl h3
   ·have hl:r.getD j false=true:=by
     cases hl:r.getD j false with
     |true=>rfl
     |false=>rw[hl]at u;simp at u;omega
    have a5:j<ops.size:=by
     have:=(BN.1 J).1;omega
    have b2:ops[j]?=some ops[j]:=BP a5;rcases lw c4 eb ht h1 with h3|h3
    ·have:=jC ad (j+1) j (CM _) ops[j] b2 (b1 j _ b2 hl) i h3;rw[X]at this;cases this
    ·exact .inr h3
  have a3:∀ (x y:cK),x.apart y=true->(∀ q,q∈x.wr\/q∈x.cw->(q∉y.wr/\q∉y.cw)/\q∉y.rd)/\(∀ q,q∈y.wr\/q∈y.cw->(q∉x.wr/\q∉x.cw)/\q∉x.rd)/\(∀ q∈x.wr,q∉y.hd)/\∀ q∈y.wr,q∉x.hd:=by
   intro x y h;unfold cK.apart at h;simp only[BF,CH]at h;obtain⟨⟨⟨⟨h1,Z⟩,h3⟩,h4⟩,h5⟩:=h;refine⟨λq I=>?_,λq I=>?_,λq I=>fT h4 I,λq I hx=>fT h5 hx I⟩
   ·have I:=BE.2 I;have:=fT h1 I;simp only[BE,not_or]at this;exact⟨this,fT Z I⟩
   ·have I:=BE.2 I;have:q∉x.wr++x.cw:=λhx=>fT h1 hx I
    simp only[BE,not_or]at this;exact⟨this,λhx=>fT h3 hx I⟩
  have c0:∀ (j:Nat) (M:Upd),us[j]?=some M->j≠i->r.getD j false≠decide (j<i)->∀ q∈M.map (·.1),(q∉t.wr/\q∉t.cw)/\q∉t.rd:=by
   intro j M J b5 u q I;obtain⟨H,_,h1,Z⟩:=cb j M J b5 u;rcases Z with Z|Z
   ·exact (a3 _ _ Z).1 q (h1 q I)
   ·exact (a3 _ _ Z).2.1 q (h1 q I)
  have c2:∀ (j:Nat) (H:cK),ts[j]?=some H->j≠i->r.getD j false≠decide (j<i)->∀ q∈H.wr,q∉t.hd:=by
   intro j H J b5 u q I;have a5:j<us.length:=by
    have:=(BN.1 J).1;omega
   obtain⟨t2,h0,_,Z⟩:=cb j us[j] (BU a5) b5 u;rw[J]at h0;cases h0;rcases Z with Z|Z
   ·exact (a3 _ _ Z).2.2.1 q I
   ·exact (a3 _ _ Z).2.2.2 q I
  have dc:mA Γ T ops ops[i] (dg (λj=>r.getD j false) us s0) U:=by
   refine b4.frame (λq I=>?_) (λq I=>?_)
   ·refine mC rfl λj M J cp=>?_
    by_cases z:j=i
    ·subst z;rw[X];simp
    ·apply B8;intro u;have:=c0 j M J z u q cp;rcases I with I|I
     ·exact this.2 I
     ·exact this.1.1 I
   ·have dd:∀ (j:Nat) (H:cK),ts[j]?=some H->(λj=>match ts[j]? with|some H=>decide (q∈H.wr)|none=>false) j=decide (q∈H.wr):=λj H h=>by simp only[h]
    have e1:=qQ (q:=q) (D:=λj=>r.getD j false) (F:=λj=>match ts[j]? with|some H=>decide (q∈H.wr)|none=>false) (s:=s0) (sF:=s0) (B:=True) a2 dd rfl (λ_=>rfl) (λj H M J hU hD hw cx=>by
     refine⟨trivial,λk t2 hk cc d2=>?_⟩;obtain⟨t3,h3,h4,_⟩:=Y j M hU;rw[J]at h3;cases h3;have e7:=(h4 q cx).resolve_left hw;have a5:j<ops.size:=by
      have:=(BN.1 hU).1;omega
     have b2:ops[j]?=some ops[j]:=BP a5;rcases lw c4 hk cc J with h5|h5
     ·exact jC ad (j+1) j (CM _) ops[j] b2 (b1 j _ b2 hD) k h5
     ·exact absurd e7 ((a3 _ _ h5).1 q (.inl d2)).1.2)
    have e2:=qQ (q:=q) (D:=λj=>decide (j<i)) (F:=λj=>match ts[j]? with|some H=>decide (q∈H.wr)|none=>false) (s:=s0) (sF:=s0) (B:=True) a2 dd rfl (λ_=>rfl) (λj H M J hU hD hw cx=>by
     refine⟨trivial,λk t2 hk cc d2=>?_⟩;have:=of_decide_eq_true hD;exact decide_eq_true (by omega))
    rw[e1,e2];congr 1;refine mC rfl λj M J cp=>?_
    obtain⟨H,h1,Z,_⟩:=Y j M J;simp only[h1];by_cases hw:q∈H.wr
    ·rw[decide_eq_true hw,Ce,Ce];by_cases z:j=i
     ·subst z;rw[X];simp
     ·apply B8;intro u;exact c2 j H h1 z u q hw I
    ·rw[decide_eq_false hw,CX,CX]
  refine wJ hV hT hΓ ho (e6 i _ ho) (b9 i _ ho) dc hr λa' w' ed=>?_
  have a6:∀ (b:Bool) (j:Nat),(r.setIfInBounds i true).getD j b=if j=i then true else r.getD j b:=by
   intro b j;simp only[BQ,Array.getElem?_setIfInBounds];by_cases z:j=i
   ·subst z;simp[a1,b3]
   ·rw[if_neg (λe=>z e.symm),if_neg z]
  refine ih _ a' w' (by simpa using a1) ?_ ?_ ?_
  ·have:=qi (p:=λj=>!r.getD j true) (p':=λj=>!(r.setIfInBounds i true).getD j true) (i:=i) (by simp[b0]) (by simp[a6]) (λj J=>by simp[a6,J]) (DC ops.size) List.nodup_range (by simpa using b3);omega
  ·intro j o' J c1 e he hb;rw[a6]at c1 ⊢;by_cases cu:e.on=i
   ·rw[if_pos cu]
   ·rw[if_neg cu];by_cases z:j=i
    ·subst z;rw[ho]at J;cases J;exact d3 e he hb
    ·rw[if_neg z]at c1;exact b1 j o' J c1 e he hb
  ·have cy:=oF (U:=U) (us:=us) (i:=i) (D:=λj=>r.getD j false) (D':=λj=>(r.setIfInBounds i true).getD j false) (s:=s0) hU X (λj=>by
     simp only[a6];by_cases z:j=i
     ·subst z;simp
     ·have:BM j i=false:=by
       cases hb:BM j i with
       |false=>rfl
       |true=>exact absurd (BK hb) z
      simp[z,this])
    (λj M J ej hD q I ec=>by
     have:=c0 j M J (by omega) (by rw[hD];simp;omega) q ec;exact (e3 q I).elim this.1.1 this.1.2)
   rw[cy];exact ed
theorem Bv (hV:ay V)(hT:TOk P T)(hΓ:∀ c∈Γ,bO P c)(M:P.follows .mixedOrders=true){id:Nat}{ops:Array Oper}{z:Bool}(O:∀ (i:Nat) (o:Oper),ops[i]?=some o->bM V o)
  (u:∀ (i:Nat) (o:Oper),ops[i]?=some o->∀ j X,o.guard=some (j,X)->∀ s,(ops[j]?).bind (·.dst)=some s->s<V.nt) {Q:Exit->Act->World->Prop} {κ:St->Option R} {r:R}
  (h:regK Γ T ops z st κ=some r) (hκ:∀ H,κ H=some r->∀ a w,Rel P V H a w->Q .normal a w) {a:Act} {w:World} (Y:Rel P V st a w):(Code.region id ops z).wp P Q a w:=by
 unfold regK at h;cases z with
 |true =>
  simp only[cond_true]at h;obtain⟨us,ts,H,y,I⟩:=ph _ _ _ _ _ h;simp only[CC]at I;cases J:nN ops&&pu (jP ops.toList []) ts with
  |false=>simp[J]at I
  |true =>
   simp only[J,cond_true]at I;simp only[BF]at J;refine wp_region_any M ?_;have hD:∀ j,(CF ops.size false).getD j false=false:=by
    intro j;simp only[BQ,Cf];split <;> rfl
   refine Bu hV hT hΓ O u y J.1 J.2 (hκ H I) ops.size (CF ops.size false) a _ (by simp) ?_ ?_ ?_
   ·rw[List.countP_eq_length.2]
    ·simp
    ·intro i Z;have Z:i<ops.size:=by simpa using Z
     simp[BQ,Cf,Z]
   ·intro j o' _ hl;rw[hD]at hl;cases hl
   ·rw[nH (λj=>hD j)];obtain⟨W,Y⟩:=Y;exact⟨W,Y.world hV (w':={ w with drawn:=w.drawn+1 }) (Cn _) rfl rfl rfl (λ_ _=>rfl)⟩
 |false =>
  simp only[cond_false]at h;obtain⟨us,ts,H,y,I⟩:=ph _ _ _ _ _ h;refine wp_region ?_;have:=vr hV hT hΓ O u ops.toList 0 st us ts H (by simp) y (hκ H I) a w Y;rw[Cr,<- List.range_eq_range']at this;exact this
end
section
variable {P:Program} {V:Env} {Γ:List Ctr} {T:TypeId->TI} {st st':St} {o:Oper} {R:Type} {all:Array Oper}
theorem kX (live:List Nat):∀ (cs:List Coe) (ls:List Leaf),(c6 st live cs ls).length=ls.length
 |[],[]=>rfl
 |_::_,[]=>rfl
 |[],_::ls=>by simp[c6,kX live [] ls]
 |_::cs,_::ls=>by simp[c6,kX live cs ls]
theorem pi (live:List Nat):∀ (cs:List Coe) (ls:List Leaf) (j:Nat) (l:Leaf),(c6 st live cs ls)[j]?=some l->∃ r,ls[j]?=some r/\(l=.dead\/∃ c,l=bw st live c r)
 |[],[],j,l,h=>by simp[c6]at h
 |_::_,[],j,l,h=>by simp[c6]at h
 |[],r::ls,0,l,h=>by simp[c6]at h;exact⟨r,rfl,.inl h.symm⟩
 |c::cs,r::ls,0,l,h=>by simp[c6]at h;exact⟨r,rfl,.inr ⟨c,h.symm⟩⟩
 |[],r::ls,j+1,l,h=>by
  simp only[c6,Ch]at h;obtain⟨y,z,u⟩:=pi live [] ls j l h;exact⟨y,by simpa using z,u⟩
 |c::cs,r::ls,j+1,l,h=>by
  simp only[c6,Ch]at h;obtain⟨y,z,u⟩:=pi live cs ls j l h;exact⟨y,by simpa using z,u⟩
theorem AK (live:List (Nat×List Coe))(q:Nat):lZ live st q=bQ.none/\q∉live.map (·.1)\/∃ y,lZ live st q=⟨0,(st q).sh,c6 st (live.map (·.1)) y (st q).ls⟩/\q∈live.map (·.1):=by
 have M:∀ (u:List Nat) (l:List (Nat×List Coe)),(av (l.map λr=>(r.1,⟨0,(st r.1).sh,c6 st u r.2 (st r.1).ls⟩)) q=bQ.none/\q∉l.map (·.1)) \/
   ∃ y,av (l.map λr=>(r.1,⟨0,(st r.1).sh,c6 st u r.2 (st r.1).ls⟩)) q=⟨0,(st q).sh,c6 st u y (st q).ls⟩/\q∈l.map (·.1):=by
  intro u l;induction l with
  |nil=>exact .inl ⟨rfl,by simp⟩
  |cons x l O =>
   obtain⟨r,y⟩:=x;by_cases h:q=r
   ·subst h;exact .inr ⟨y,by simp[av,ac],by simp⟩
   ·have z:BM q r=false:=by
     cases z:BM q r with
     |false=>rfl
     |true=>exact absurd (BK z) h
    rcases O with ⟨J,I⟩|⟨H,J,I⟩
    ·refine .inl ⟨?_,by simpa[h]using I⟩;rw[<- J];simp[av,ac,z]
    ·refine .inr ⟨H,?_,by simp only[B4,BR];exact .inr I⟩;rw[<- J];simp[av,ac,z]
 exact M (live.map (·.1)) live
theorem yg {keys:List Nat}{c:Coe}{r:Leaf}(h:am (bw st keys c r)):am r\/r=.nil:=by
 cases r with
 |own p u E e y=>exact .inl trivial
 |nil=>exact .inr rfl
 |_ =>
  exfalso;revert h;cases c <;> simp only[bw] <;> first
   |exact id
   |(cases (!_||_:Bool) <;> first | exact id | (split <;> exact id))
   |(cases (_&&_:Bool) <;> exact id)
   |(cases (List.any _ _:Bool) <;> exact id)
   |(cases (List.all _ _:Bool) <;> exact id)
theorem iP.nw {W W':Wit}{w:World}{c:Bool×Bool×(a:Ty)×a.den}{u:Value}(r:∀ k,W.nw k->W'.nw k)(h:iP V W w c u):iP V W' w c u:=by
 have z:∀ (p:Bool) k,gd V W p k->gd V W' p k:=λp k hk=>hk.imp (r k) id
 unfold iP at h ⊢;split at h
 ·rename_i X;rw[if_pos X];obtain⟨b,ob,g,O,M,I,H,y,Y,J,Z⟩:=h;exact⟨b,ob,g,O,M,I,H.imp (r b) id,y,Y.imp (r g) id,Rd.mono (z _) J,Z⟩
 ·rename_i X;rw[if_neg X];obtain⟨g,O,M,I,Y,J,Z⟩:=h;exact⟨g,O,M,I,Y.imp (r g) id,Rd.mono (z _) J,Z⟩
theorem wK {W W':Wit}{w:World}{keys:List Nat}{bs bs':List Nat}{c:Coe}{M:Leaf}{v:Value}(h:aK P V W st w bs M v)
  (H:∀ k,W.nw k->W'.nw k) (hβ:W'.β=W.β) (a6:∀ q,keys.any (BM q)=true->W'.cs q=W.cs q) (z:∀ b,keys.any (BM b)=true->(st b).sh=.agg->(st' b).sh=.agg)
  (a0:am M->bs'=bs) (a2:M=.nil->bs'=[]) (a1:am M->¬ am (bw st keys c M)->(∃ p E e,c=.ro p E e)->∀ k∈bs,W'.nw k) :
  aK P V W' st' w bs' (bw st keys c M) v:=by
 have J:∀ (p q:Bool),(!q||p)=true->∀ k,gd V W q k->gd V W' p k:=by
  intro p q a5 k I;rcases I with I|⟨h1,I⟩
  ·exact .inl (H k I)
  ·refine .inr ⟨?_,I⟩;subst h1;simpa using a5
 cases c with
 |kill=>simp only[bw];trivial
 |keep =>
  cases M with
  |int k n=>exact h
  |bool b=>exact h
  |str s=>exact h
  |nil=>exact h
  |hdr n=>exact h
  |fn As B φ=>exact h
  |clr f O =>
   obtain⟨us,h1,h2,h3⟩:=h;exact⟨us,h1,h2,λi c u g1 g2=>(h3 i c u g1 g2).nw H⟩
  |al r j n =>
   simp only[bw];cases y:keys.any (BM r)&&BM (st r).ver n with
   |false=>trivial
   |true =>
    simp only[BF]at y;exact⟨C8 _,λ_=>by rw[a6 r y.1];exact h.2 (BK y.2)⟩
  |bp b off =>
   simp only[bw];cases y:keys.any (BM b) with
   |false=>trivial
   |true =>
    obtain⟨h1,h2,h3⟩:=h;exact⟨h1,z b y h2,by rw[hβ];exact h3⟩
  |clo f O =>
   simp only[bw];cases y:O.all (λb=>keys.any (BM b)) with
   |false=>trivial
   |true =>
    obtain⟨h1,h2⟩:=h;rw[B3]at y;exact⟨by rw[hβ];exact h1,λb Z=>⟨(h2 b Z).1,z b (y b Z) (h2 b Z).2⟩⟩
  |_=>simp only[bw];trivial
 |own p E e =>
  cases M with
  |nil =>
   have X:v=.slice none 0 0:=h;subst X;rw[a2 rfl];exact OwH.nil w _ E e
  |own q hh E' e' xs =>
   cases hh with
   |some x=>simp only[bw];trivial
   |none =>
    simp only[bw];cases y:(!q||p) with
    |false=>trivial
    |true =>
     rw[a0 trivial];exact OwH.carry h (J p q y) (λ_ _=>rfl) (λ_ _=>rfl)
  |_=>simp only[bw];trivial
 |ro p E e =>
  cases M with
  |nil =>
   have X:v=.slice none 0 0:=h;subst X;exact Rd.nil w _ false E e
  |ro q E' e' xs =>
   simp only[bw];cases y:(!q||p) with
   |false=>trivial
   |true =>
    simp only[cond_true];split
    ·rename_i ys hc;exact Rd.castSh (m:=false) (m':=false) (E:=E) hc (Rd.mono (J p q y) h)
    ·trivial
  |own q hh E' e' xs =>
   cases hh with
   |some x=>simp only[bw];trivial
   |none =>
    have a4:=a1 trivial (by
     simp only[bw];cases (!q||p) with
     |false=>exact id
     |true=>simp only[cond_true];split <;> exact id) ⟨p,E,e,rfl⟩
    simp only[bw];cases y:(!q||p) with
    |false=>trivial
    |true =>
     simp only[cond_true];split
     ·rename_i ys hc;refine Rd.castSh (m:=false) (m':=false) (E:=E) (E':=E') hc (Rd.mono (λk I=>?_) (OwH.rd (m:=false) (E':=E') h));rcases I with I|I
      ·exact J p q y k I
      ·exact .inl (a4 k I)
     ·trivial
  |_=>simp only[bw];trivial
 |rp p =>
  cases M with
  |rpp q a x =>
   simp only[bw];cases y:(!q||p) with
   |false=>trivial
   |true =>
    obtain⟨b,ob,g,o',c,X,a3,Y,hg,hr,hc⟩:=h;exact⟨b,ob,g,o',c,X,a3.imp (H b) id,Y,hg.imp (H g) id,Rd.mono (J p q y) hr,hc⟩
  |rp q a x off =>
   simp only[bw];cases y:(!q||p) with
   |false=>trivial
   |true =>
    obtain⟨g,o',c,X,hg,hr,hc⟩:=h;exact⟨g,o',c,X,hg.imp (H g) id,Rd.mono (J p q y) hr,hc⟩
  |_=>simp only[bw];trivial
open Classical in
theorem vu (_hV:ay V){a:Act}{w:World}(h:Rel P V st a w)(live:List (Nat×List Coe))(a5:∀ x∈V.fixb,x.1∈live.map (·.1)):Rel P V (lZ live st) a w:=by
 obtain⟨W,h⟩:=h;have J:=AK (st:=st) live;have Y:∀ b,Go.Proofs.YtaegajachoklkaaGreatEv.live (lZ live st) b->Go.Proofs.YtaegajachoklkaaGreatEv.live st b:=by
  rintro b ⟨H,z⟩;rcases J b with ⟨e,_⟩|⟨cs,e,_⟩
  ·rw[e]at z;cases z
  ·rw[e]at z;exact⟨H,z⟩
 have a2:∀ (q j:Nat) (l:Leaf),(lZ live st q).ls[j]?=some l->q∈live.map (·.1)/\∃ r,(st q).ls[j]?=some r/\(l=.dead\/∃ c,l=bw st (live.map (·.1)) c r):=by
  intro q j l X;rcases J q with ⟨e,_⟩|⟨cs,e,I⟩
  ·rw[e]at X;simp[bQ.none]at X
  ·rw[e]at X;exact⟨I,pi _ _ _ _ _ X⟩
 have b5:∀ (q j:Nat) (l:Leaf),(lZ live st q).ls[j]?=some l->am l->∃ r,(st q).ls[j]?=some r/\(am r\/r=.nil):=by
  intro q j l X ho;obtain⟨_,r,H,z⟩:=a2 q j l X;rcases z with rfl|⟨c,rfl⟩
  ·exact ho.elim
  ·exact⟨r,H,yg ho⟩
 have a0:∀ b,(live.map (·.1)).any (BM b)=true->b∈live.map (·.1):=λb O=>by
  rw[CS]at O;obtain⟨x,hx,he⟩:=O;rw[BK he];exact hx
 let y:Nat->Nat->List Nat:=λq j=>if (∃ r,(st q).ls[j]?=some r/\am r) then W.bs q j else []
 let a1:Nat->Prop:=λk=>W.nw k\/∃ q j r l,(st q).ls[j]?=some r/\am r/\(lZ live st q).ls[j]?=some l/\¬ am l/\k∈W.bs q j
 have Z:∀ (q j k:Nat),k∈y q j->(∃ r,(st q).ls[j]?=some r/\am r)/\k∈W.bs q j:=by
  intro q j k M;by_cases hc:∃ r,(st q).ls[j]?=some r/\am r
  ·simp only[y,if_pos hc]at M;exact⟨hc,M⟩
  ·simp only[y,if_neg hc]at M;simp at M
 refine⟨{ β:=W.β,cs:=λq=>if q∈live.map (·.1) then W.cs q else [],bs:=y,nw:=a1 },?_⟩
 exact {
  nt:=h.nt,df:=h.df
  slots:=λt ht=>by
   rcases J t with ⟨e,I⟩|⟨cs,e,I⟩
   ·rw[e];simp[I,bQ.none,ee]
   ·rw[e];simp only[I,if_true];exact h.slots t ht
  boxes:=λb O=>by
   rcases J b with ⟨e,I⟩|⟨cs,e,I⟩
   ·rw[e];exact .inl ⟨rfl,rfl⟩
   ·rw[e];rcases h.boxes b O with ⟨H,z⟩|⟨H,E,z⟩
    ·exact .inl ⟨H,by rw[z];exact List.eq_nil_of_length_eq_zero (by rw[kX];rfl)⟩
    ·exact .inr ⟨H,E,by simp only[I,if_true];exact z⟩
  len:=λq=>by
   rcases J q with ⟨e,I⟩|⟨cs,e,I⟩
   ·rw[e];simp[I,bQ.none]
   ·rw[e];simp only[I,if_true,kX];exact h.len q
  one:=λq u hu=>by
   by_cases I:q∈live.map (·.1)
   ·simp only[I,if_true]at hu;exact h.one q u hu
   ·simp only[I,if_false]at hu;simp at hu
  leaf:=λq j l v X hv=>by
   obtain⟨I,r,H,z⟩:=a2 q j l X;simp only[I,if_true]at hv;have b4:=h.leaf q j r v H hv;rcases z with rfl|⟨c,rfl⟩
   ·trivial
   ·refine wK (st:=st) (W:=W) (W':={ β:=W.β,cs:=λq=>if q∈live.map (·.1) then W.cs q else [],bs:=y,nw:=a1 }) (keys:=live.map (·.1)) b4 (λk M=>Or.inl M) rfl (λq hq=>if_pos (a0 q hq)) ?_ ?_ ?_ ?_
    ·intro b O b2;have b3:=a0 b O;rcases J b with ⟨_,b0⟩|⟨cs,e,_⟩
     ·exact absurd b3 b0
     ·rw[e];exact b2
    ·intro ho;show y q j=_;simp only[y,if_pos (⟨r,H,ho⟩:∃ r,(st q).ls[j]?=some r/\am r)]
    ·intro e;show y q j=_;have hc:¬ ∃ r,(st q).ls[j]?=some r/\am r:=by
      rintro⟨l1,h3,h4⟩;rw[H,e]at h3;cases h3;exact h4.elim
     simp only[y,if_neg hc]
    ·intro ho hn _ k M;exact .inr ⟨q,j,r,_,H,ho,X,hn,M⟩
  ownb:=λq j l X ho k M=>by
   obtain⟨⟨r,H,z⟩,h3⟩:=Z q j k M;obtain⟨q1,q2,q3⟩:=h.ownb q j r H z k h3;refine⟨?_,q2,λb O=>q3 b (Y b O)⟩;rintro (hn|⟨q',j',l1,l2,h4,h5,h6,h7,h8⟩)
   ·exact q1 hn
   ·obtain⟨rfl,rfl⟩:=h.sep q j r q' j' l1 H z h4 h5 k h3 h8;rw[X]at h6;cases h6;exact h7 ho
  sep:=λq j l q' j' l' _ _ _ _ k M a3=>by
   obtain⟨⟨r,H,z⟩,h3⟩:=Z q j k M;obtain⟨⟨a4,a6,a9⟩,ad⟩:=Z q' j' k a3;exact h.sep q j r q' j' a4 H z a6 a9 k h3 ad
  box:=λb O=>by
   obtain⟨q1,q2⟩:=h.box b (Y b O);refine⟨?_,q2⟩;rintro (hn|⟨q',j',l1,l2,h4,h5,h6,h7,h8⟩)
   ·exact q1 hn
   ·exact (h.ownb q' j' l1 h4 h5 _ h8).2.2 b (Y b O) rfl
  inj:=λb b' O b1=>h.inj b b' (Y b O) (Y b' b1)
  nwlt:=λk M=>by
   rcases M with hn|⟨q',j',l1,l2,h4,h5,h6,h7,h8⟩
   ·exact h.nwlt k hn
   ·exact⟨h.own_lt h4 h5 k h8,(h.ownb q' j' l1 h4 h5 k h8).2.1⟩
  os:=h.os,tape:=h.tape,output:=h.output,size:=h.size,keep:=h.keep
  fixb:=λx hx=>by
   obtain⟨⟨H,z⟩,h3⟩:=h.fixb x hx;refine⟨⟨H,?_⟩,h3⟩;rcases J x.1 with ⟨_,I⟩|⟨cs,e,_⟩
   ·exact absurd (a5 x hx) I
   ·rw[e];exact z
  fixt:=h.fixt }
def exOf:Ex->Exit
 |.normal=>.normal
 |.exit id=>.exit id
 |.ret=>.ret
theorem mD {nt:Nat}{fix:List Nat}(u:V.nt=nt)(r:∀ x∈V.fixt,x.1∈fix)(h:lC nt fix all o=true):bM V o:=by
 intro d z;simp only[lC,z,BF,CH,Cc]at h;obtain⟨⟨I,H⟩,_⟩:=h;refine⟨by rw[u];simpa[CP]using I,λx y e=>?_⟩;exact H _ (r x y) (by simp[e])
end
section
variable {P:Program} {V:Env} {Γ:List Ctr} {T:TypeId->TI} {R:Type}
open Classical in
theorem tT {Q:Exit->Act->World->Prop}{a:Act}{w:World}{c:Code}(J:Nat->Act->World->Prop)(h0:∃ n,J n a w)(hz:∀ a w,¬ J 0 a w)
  (u:∀ n a w,J (n+1) a w->c.wp P (Exit.then (J n) Q) a w):(Code.loop c).wp P Q a w:=by
 have y:∀ (a:Act) (w:World) (n:Nat),J n a w->∃ m,J m a w/\m<=n/\∀ k,J k a w->m<=k:=by
  intro a w n;induction n using DB with
  |ind n ih =>
   intro H;by_cases h:∃ k,k<n/\J k a w
   ·obtain⟨k,O,hJ⟩:=h;obtain⟨m,r,I,M⟩:=ih k O hJ;exact⟨m,r,by omega,M⟩
   ·refine⟨n,H,Cn _,λk O=>?_⟩;apply B8;intro a0;exact h ⟨k,by omega,O⟩
 let z:Act->World->Nat:=λa w=>if h:∃ m,J m a w/\∀ k,J k a w->m<=k then h.choose else 0
 have hμ:∀ a w n,J n a w->J (z a w) a w/\z a w<=n:=by
  intro a w n H;obtain⟨m,r,_,M⟩:=y a w n H;have h:∃ m,J m a w/\∀ k,J k a w->m<=k:=⟨m,r,M⟩;have e:z a w=h.choose:=by simp only[z];rw[dif_pos h]
  rw[e];exact⟨h.choose_spec.1,h.choose_spec.2 n H⟩
 refine wp_loop (λa w=>∃ n,J n a w) z h0 λa w ⟨n,H⟩=>?_
 obtain⟨r,_⟩:=hμ a w n H;cases hm:z a w with
 |zero=>rw[hm]at r;exact absurd r (hz a w)
 |succ m =>
  rw[hm]at r;refine wp_mono (u m a w r) λe X Y Z=>?_
  cases e with
  |normal =>
   have I:J m X Y:=Z;exact⟨⟨m,I⟩,Nat.lt_succ_of_le (hμ X Y m I).2⟩
  |_=>exact Z
theorem zw {st:St}{a:Act}{w:World}(u:Rel P V st a w){t:Nat}(y:t<GH){b:Bool}(I:(st t).sh=.one)(H:(st t).ls=[.bool b]):a.eval (.tmp t)=.bool b:=by
 obtain⟨W,u⟩:=u;have r:=u.slots t y;rw[I]at r;have r:W.cs t=[a.tmps.getD t undef]:=r;have z:=u.leaf t 0 (.bool b) (a.tmps.getD t undef) (by rw[H];rfl) (by rw[r];rfl);exact z
theorem sm (hV:ay V)(hT:TOk P T)(hΓ:∀ c∈Γ,bO P c)(a3:P.follows .mixedOrders=true){fx:List Nat}(a5:∀ x∈V.fixb,x.1∈fx){nt:Nat}{fix:List Nat}(a1:V.nt=nt)(a4:∀ x∈V.fixt,x.1∈fix)
  {L:List (Nat×List (Nat×List Coe))} {X:Nat}:∀ (c:Code),dN nt fix c=true->dl L fx c=true->∀ (st:St) (I:Ex->St->Option R) (r:R) (Q:Exit->Act->World->Prop),evK Γ T L X c st I=some r ->
   (∀ ex J,I ex J=some r->∀ a w,Rel P V J a w->Q (exOf ex) a w)->∀ a w,Rel P V st a w->c.wp P Q a w:=by
 intro c;induction c with
 |skip=>exact λ_ _ st I r Q h z a w u=>wp_skip (z .normal st h a w u)
 |region id a2 a9 =>
  intro hc hlp st I r Q h z a w u;simp only[dN,B3]at hc;have a0:∀ (i:Nat) (o:Oper),a2[i]?=some o->lC nt fix a2 o=true:=λi o hi=>hc o (by simpa using Cl hi)
  refine Bv hV hT hΓ a3 (λi o hi=>mD a1 a4 (a0 i o hi)) (λi o hi j a6 hg s hs=>?_) h (λJ H a w u=>z .normal J H a w u) u;have:=a0 i o hi;simp only[lC,hg,hs,BF]at this;rw[a1];simpa[CP]using this.2
 |seq x y Y Z =>
  intro hc hlp st I r Q h z a w u;simp only[dN,BF]at hc;simp only[dl,BF]at hlp;simp only[evK]at h;refine wp_seq (Y hc.1 hlp.1 st _ r _ h (λex J H a w u=>?_) a w u);cases ex with
  |normal=>exact Z hc.2 hlp.2 J I r Q H z a w u
  |exit id=>exact z (.exit id) J H a w u
  |ret=>exact z .ret J H a w u
 |cond t x y Y Z =>
  intro hc hlp st I r Q h z a w u;simp only[dN,BF]at hc;simp only[dl,BF]at hlp;simp only[evK]at h;unfold zE at h;split at h
  ·rename_i t;split at h
   ·rename_i b H h2;have hv:=zw u (Cx (by have:=hc.1.1;simp only[wP,CP]at this;rw[a1];exact this) hV.nt) H h2;cases b with
    |true =>
     simp only[cond_true]at h;rw[pg H h2]at h;exact wp_cond_true hv (Y hc.1.2 hlp.1 st I r Q h z a w u)
    |false =>
     simp only[cond_false]at h;rw[pg H h2]at h;exact wp_cond_false hv (Z hc.2 hlp.2 st I r Q h z a w u)
   ·cases h
  ·rename_i b;cases b with
   |true=>exact wp_cond_true rfl (Y hc.1.2 hlp.1 st I r Q h z a w u)
   |false=>exact wp_cond_false rfl (Z hc.2 hlp.2 st I r Q h z a w u)
  ·cases h
 |block id c ih =>
  intro hc hlp st I r Q h z a w u;simp only[dN]at hc;simp only[dl]at hlp;simp only[evK]at h;refine wp_block (ih hc hlp st _ r _ h (λex J H a w u=>?_) a w u);cases ex with
  |normal=>exact z .normal J H a w u
  |exit M =>
   simp only[sr]at H;show if M=id then Q .normal a w else Q (.exit M) a w
   by_cases e:M=id
   ·rw[if_pos e];subst e;simp only[Nat.beq_refl,cond_true]at H;exact z .normal J H a w u
   ·rw[if_neg e];have hb:BM M id=false:=by
     cases hb:BM M id with
     |false=>rfl
     |true=>exact absurd (BK hb) e
    rw[hb]at H;exact z (.exit M) J H a w u
  |ret=>exact z .ret J H a w u
 |loop c ih =>
  intro hc hlp st I r Q h z a w u;simp only[dN]at hc;simp only[dl,BF,B3]at hlp;simp only[evK]at h;have O:∀ x∈V.fixb,x.1∈(lB L (eT c)).map (·.1):=λx hx=>by
   obtain⟨r,u,he⟩:=CS.1 (hlp.1 x.1 (a5 x hx));exact BO.2 ⟨r,u,BK he⟩
  refine tT (λn a w=>∃ st,aY (lB L (eT c)) (evK Γ T L X c) n st I=some r/\Rel P V st a w) ⟨X,_,h,vu hV u _ O⟩ ?_ ?_
  ·rintro a w ⟨st,H,_⟩;cases H
  ·rintro n a w ⟨st,H,u⟩;simp only[aY]at H;refine ih hc hlp.2 st _ r _ H (λex J h2 a w u=>?_) a w u;cases ex with
   |normal=>exact⟨_,h2,vu hV u _ O⟩
   |exit id=>exact z (.exit id) J h2 a w u
   |ret=>exact z .ret J h2 a w u
 |exit id=>exact λ_ _ st I r Q h z a w u=>wp_exit (z (.exit id) st h a w u)
 |ret=>exact λ_ _ st I r Q h z a w u=>wp_ret (z .ret st h a w u)
 |_=>intro _ _ st I r Q h;simp[evK]at h
end
section
variable {P:Program} {Γ:List Ctr} {T:TypeId->TI} {R:Type} {w:World} {ro pr:Nat->Prop}
theorem jc {G:Nat->Prop}{p:Bool}:∀ {b:Ty} {h:Option Nat} {pos:Nat} {x:b.den} {cs:List Value} {bs:List Nat},Mx w G b h pos x cs bs->bs.Nodup ->
  ∃ a2:Nat->List Nat,
   (∀ (V:Env) (W:Wit) (st:St),(∀ k,G k->gd V W p k)->∀ (j:Nat) (l:Leaf) (u:Value),h≠some (pos+j)->(ap p b x)[j]?=some l->cs[j]?=some u->aK P V W st w (a2 j) l u) /\
   (∀ (j:Nat) (l:Leaf),h≠some (pos+j)->(ap p b x)[j]?=some l->am l->∀ k∈a2 j,k∈bs) /\
   (∀ (j J:Nat) (l l':Leaf),h≠some (pos+j)->h≠some (pos+J)->(ap p b x)[j]?=some l->am l->(ap p b x)[J]?=some l'->am l'->∀ k,k∈a2 j->k∈a2 J->j=J)
 |.int k,_,_,x,cs,bs,H,_=>by
  obtain⟨rfl,rfl⟩:=H;exact⟨λ_=>[],λV W st _ j l u _ y X=>by cases j with|zero=>simp[ap]at y X;subst y;subst X;rfl|succ j=>simp[ap]at y,λj l _ y _ k r=>by simp at r,λj J l l' _ _ _ _ _ _ k r=>by simp at r⟩
 |.bool,_,_,x,cs,bs,H,_=>by
  obtain⟨rfl,rfl⟩:=H;exact⟨λ_=>[],λV W st _ j l u _ y X=>by cases j with|zero=>simp[ap]at y X;subst y;subst X;rfl|succ j=>simp[ap]at y,λj l _ y _ k r=>by simp at r,λj J l l' _ _ _ _ _ _ k r=>by simp at r⟩
 |.str,_,_,x,cs,bs,H,_=>by
  obtain⟨rfl,rfl⟩:=H;exact⟨λ_=>[],λV W st _ j l u _ y X=>by cases j with|zero=>simp[ap]at y X;subst y;subst X;rfl|succ j=>simp[ap]at y,λj l _ y _ k r=>by simp at r,λj J l l' _ _ _ _ _ _ k r=>by simp at r⟩
 |.unit,_,_,x,cs,bs,H,_=>by
  obtain⟨rfl,rfl⟩:=H;exact⟨λ_=>[],λV W st _ j l u _ y X=>by simp[ap]at y,λj l _ y _ k r=>by simp at r,λj J l l' _ _ _ _ _ _ k r=>by simp at r⟩
 |.hdr,_,_,x,cs,bs,H,_=>by
  obtain⟨⟨A,a9,rfl⟩,rfl⟩:=H;exact⟨λ_=>[],λV W st _ j l u _ y X=>by cases j with|zero=>simp[ap]at y X;subst y;subst X;exact⟨A,a9,rfl⟩|succ j=>simp[ap]at y,λj l _ y _ k r=>by simp at r,λj J l l' _ _ _ _ _ _ k r=>by simp at r⟩
 |.pair b c,h,pos,x,cs,bs,⟨c1,c2,b1,b2,e1,e2,y,X⟩,Y=>by
  subst e1;subst e2;rw[CK]at Y;obtain⟨d1,f2,f3,f4⟩:=jc y Y.1;obtain⟨d2,g2,g3,g4⟩:=jc X Y.2.1;have b0:=cG p b x.1;have ad:=y.len;have I:∀ (j:Nat) (l:Leaf),(ap p b x.1++ap p c x.2)[j]?=some l->(j<b.cells/\(ap p b x.1)[j]?=some l)\/(b.cells<=j/\(ap p c x.2)[j-b.cells]?=some l):=by
   intro j l z;by_cases O:j<b.cells
   ·rw[B7 (by omega)]at z;exact .inl ⟨O,z⟩
   ·rw[B5 (by omega),b0]at z;exact .inr ⟨by omega,z⟩
  have a0:∀ j,b.cells<=j->h≠some (pos+j)->h≠some (pos+b.cells+(j-b.cells)):=λj z hh=>by rwa [show pos+b.cells+(j-b.cells)=pos+j by omega]
  refine⟨λj=>if j<b.cells then d1 j else d2 (j-b.cells),λV W st hG j l u hh z hu=>?_,λj l hh z ho k r=>?_,λj J l l' hh a3 z ho Z a4 k r M=>?_⟩
  ·rcases I j l z with ⟨O,z⟩|⟨a1,z⟩
   ·rw[B7 (by omega)]at hu;simp only[if_pos O];exact f2 V W st hG j l u hh z hu
   ·rw[B5 (by omega),ad]at hu;simp only[if_neg (show ¬ j<b.cells by omega)];exact g2 V W st hG _ l u (a0 j a1 hh) z hu
  ·rcases I j l z with ⟨O,z⟩|⟨a1,z⟩
   ·simp only[if_pos O]at r;exact BG _ (f3 j l hh z ho k r)
   ·simp only[if_neg (show ¬ j<b.cells by omega)]at r;exact BH _ (g3 _ l (a0 j a1 hh) z ho k r)
  ·rcases I j l z with ⟨O,z⟩|⟨a1,z⟩ <;> rcases I J l' Z with ⟨a6,Z⟩|⟨a5,Z⟩
   ·simp only[if_pos O]at r;simp only[if_pos a6]at M;exact f4 j J l l' hh a3 z ho Z a4 k r M
   ·simp only[if_pos O]at r;simp only[if_neg (show ¬ J<b.cells by omega)]at M;exact absurd rfl (Y.2.2 k (f3 j l hh z ho k r) k (g3 _ l' (a0 J a5 a3) Z a4 k M))
   ·simp only[if_neg (show ¬ j<b.cells by omega)]at r;simp only[if_pos a6]at M;exact absurd rfl (Y.2.2 k (f3 J l' a3 Z a4 k M) k (g3 _ l (a0 j a1 hh) z ho k r))
   ·simp only[if_neg (show ¬ j<b.cells by omega)]at r;simp only[if_neg (show ¬ J<b.cells by omega)]at M;have:=g4 _ _ l l' (a0 j a1 hh) (a0 J a5 a3) z ho Z a4 k r M;omega
 |.list m E e,h,pos,xs,cs,bs,H,Y=>by
  cases m with
  |false =>
   rw[cm]at H;obtain⟨rfl,A,a9,rfl,X,h3⟩:=H;refine⟨λ_=>[],λV W st hG j l u _ y h4=>?_,λj l _ y _ k r=>by simp at r,λj J l l' _ _ _ _ _ _ k r=>by simp at r⟩;cases j with
   |zero =>
    simp[ap]at y h4;subst y;subst h4;exact Rd.mono hG (⟨A,a9,rfl,X,h3⟩:Rd w G (.list false E e) xs _)
   |succ j=>simp[ap]at y
  |true =>
   refine⟨λ_=>bs,λV W st hG j l u hh y h4=>?_,λj l _ y _ k r=>r,λj J l l' _ _ y _ h3 _ k _ _=>?_⟩
   ·cases j with
    |zero =>
     rw[Nat.add_zero]at hh;rw[bI hh]at H;obtain⟨v,rfl,hO⟩:=H;simp[ap]at y h4;subst y;subst h4;exact⟨Y,OwB.shy (hO.carry hG (λ_ _=>rfl) (λ_ _=>rfl))⟩
    |succ j=>simp[ap]at y
   ·have h7:j<1:=by simpa[ap]using (BN.1 y).1
    have h8:J<1:=by simpa[ap]using (BN.1 h3).1
    omega
theorem mE {p:Bool}{off:Nat}:∀ {a:Ty} {pos:Nat} {x:a.den} {E:TypeId} {e:Ty} {xs:List e.den},be off a pos x=some ⟨E,e,xs⟩->(ap p a x)[off-pos]?=some (.own (p&&e.shy) none E e xs)
 |.pair a b,pos,x,E,e,xs,h=>by
  have H:=cG p a x.1;simp only[be]at h;simp only[ap];split at h
  ·rename_i u z;simp only[BD]at h;subst h;have y:=gv z;rw[B7 (by omega)];exact mE z
  ·have y:=gv h;rw[B5 (by omega),H,show off-pos-a.cells=off-(pos+a.cells) by omega];exact mE h
 |.list m I J,pos,M,E,e,xs,h=>by
  simp only[be]at h;cases r:m&&BM pos off with
  |false=>simp[r]at h
  |true =>
   rw[r]at h;simp only[cond_true,BD,Sigma.mk.injEq]at h;obtain⟨rfl,h⟩:=h;simp only[BF]at r;obtain⟨rfl,r⟩:=r;have r:=BK r;subst r;rw[heq_eq_eq,Sigma.mk.injEq]at h;obtain⟨rfl,h⟩:=h;rw[heq_eq_eq]at h;subst h;simp[ap]
 |.int _,_,_,_,_,_,h=>by simp[be]at h
 |.bool,_,_,_,_,_,h=>by simp[be]at h
 |.str,_,_,_,_,_,h=>by simp[be]at h
 |.unit,_,_,_,_,_,h=>by simp[be]at h
 |.hdr,_,_,_,_,_,h=>by simp[be]at h
theorem tU (V:Env)(W:Wit)(I:V.ro0=ro)(r:V.prot=pr):∀ {cs:List (Bool×Ty)} {x:lU cs} {us:List Value},jM w ro pr cs x us->us.length=(j8 true cs x).length /\
  ∀ (i:Nat) (c:Bool×Bool×(a:Ty)×a.den) (u:Value),(j8 true cs x)[i]?=some c->us[i]?=some u->iP V W w c u
 |[],_,us,h=>by
  have h:us=[]:=h;subst h;exact⟨rfl,λi c u z _=>by simp[j8]at z⟩
 |c::cs,x,us,⟨u,a0,e,z,h2⟩=>by
  subst e;obtain⟨i1,i2⟩:=tU V W I r h2;refine⟨by simp[j8,i1],λi c' u' X Z=>?_⟩;cases i with
  |succ i=>exact i2 i c' u' (by simpa[j8]using X) (by simpa using Z)
  |zero =>
   simp[j8]at X Z;subst X;subst Z;have hG:∀ k,ro k->gd V W true k:=λk hk=>.inr ⟨rfl,by rw[I];exact hk⟩
   unfold iP;unfold gO at z;split at z
   ·rename_i H;simp only[H,if_true];obtain⟨b,ob,g,o,Y,M,J,y,hg,O,hc⟩:=z;exact⟨b,ob,g,o,Y,M,.inr (by rw[r];exact J),y,.inr (by rw[r];exact hg),O.mono hG,hc⟩
   ·rename_i H;have H:c.1=false:=by simpa using H
    simp only[H,CW,if_false];obtain⟨g,o,Y,M,hg,O,hc⟩:=z;exact⟨g,o,Y,by rw[M];rfl,.inr (by rw[r];exact hg),O.mono hG,hc⟩
structure Ent where
 r:Nat
 c:bQ
 cs:List Value
 bs:Nat->List Nat
 bl:List Nat
 g:Nat
structure qj (P:Program) (w:World) (ro pr:Nat->Prop) (bx:List (Nat×Nat)) (e:Ent):Prop where
 len:e.c.ls.length=e.cs.length
 one:∀ u∈e.cs,u.oneCell'=true
 leaf:∀ (V:Env) (W:Wit) (st:St),V.w0=w->V.ro0=ro->V.prot=pr->(∀ z∈bx,B0<=z.1/\(st z.1).sh=.agg/\W.β z.1=z.2)->∀ (j:Nat) (l:Leaf) (u:Value),e.c.ls[j]?=some l->e.cs[j]?=some u->aK P V W st w (e.bs j) l u
 own:∀ (j:Nat) (l:Leaf),e.c.ls[j]?=some l->am l->∀ k∈e.bs j,k∈e.bl
 sep:∀ (j j':Nat) (l l':Leaf),e.c.ls[j]?=some l->am l->e.c.ls[j']?=some l'->am l'->∀ k,k∈e.bs j->k∈e.bs j'->j=j'
 box:B0<=e.r->e.c.sh=.agg/\e.g∈e.bl/\(∀ (j:Nat) (l:Leaf),e.c.ls[j]?=some l->am l->e.g∉e.bs j)/\(∃ E,w.heap[e.g]?=some (.cells e.cs.toArray E (0,0)))/\(e.r,e.g)∈bx
theorem qj.mono {u r:List (Nat×Nat)}{e:Ent}(h:qj P w ro pr u e)(y:∀ z∈u,z∈r):qj P w ro pr r e :=
  { len:=h.len,one:=h.one,own:=h.own,sep:=h.sep
    leaf:=λV W J h1 O Y h4=>h.leaf V W J h1 O Y (λz hz=>h4 z (y z hz))
    box:=λI=>by obtain⟨X,q2,M,Z,H⟩:=h.box I;exact⟨X,q2,M,Z,y _ H⟩ }
structure wL (P:Program) (w:World) (ro pr:Nat->Prop) (t:Nat) (pk:PK) (v:Value) (b:List Nat) (bx:List (Nat×Nat)) (es:List Ent):Prop where
 bl:es.flatMap (·.bl)=b
 ok:∀ e∈es,qj P w ro pr bx e
 at_:∀ e∈es,e.r=t\/e.r=B0+t
 nod:(es.map (·.r)).Nodup
 slot:∃ e∈es,e.r=t/\ee e.c.sh v e.cs
 bxs:∀ z∈bx,z.1=B0+t/\(∃ e∈es,e.r=B0+t/\e.g=z.2)
theorem tV (t n:Nat){a:Ty}{x:a.den}{v:Value}{cs:List Value}{b:List Nat}(M:b.Nodup)(h1:de a.isAgg v cs)(J:Mx w ro a none 0 x cs b)(a0:t<B0) :
    ∃ Z,wL P w ro pr t (.own a) v b [] Z/\[((t,⟨n,bi a.isAgg,ap true a x⟩):Nat×bQ)]=Z.map (λe=>(e.r,e.c)):=by
  obtain⟨I,m1,m2,m3⟩:=jc (P:=P) (p:=true) J M;have H:∀ j,(none:Option Nat)≠some (0+j):=λj=>by simp
  refine⟨[⟨t,⟨n,bi a.isAgg,ap true a x⟩,cs,I,b,0⟩],⟨by simp,?_,by simp,by simp,⟨_,BY _,rfl,kk h1⟩,by simp⟩,rfl⟩;intro e Y;simp only[CD]at Y;subst Y
  exact { len := by show (ap true a x).length = _; rw [cG, J.len]
          one:=J.one
          leaf:=λV W st _ O _ _ j l u y z=>m1 V W st (λk hk=>.inr ⟨rfl,by rw[O];exact hk⟩) j l u (H j) y z
          own:=λj l y z=>m2 j l (H j) y z
          sep:=λj X l l' y z h5 h6=>m3 j X l l' (H j) (H X) y z h5 h6
          box:=λhr=>absurd hr (by show ¬ B0<=t;omega) }
theorem nX (t:Nat){l:Leaf}{v:Value}{pk:PK}(a0:t<B0)(J:¬ am l)(h1:v.oneCell'=true)(y:∀ (V:Env) (W:Wit) (st:St),V.w0=w->V.ro0=ro->V.prot=pr->aK P V W st w [] l v) :
    ∃ es,wL P w ro pr t pk v [] [] es/\[((t,⟨0,.one,[l]⟩):Nat×bQ)]=es.map (λe=>(e.r,e.c)):=by
  refine⟨[⟨t,⟨0,.one,[l]⟩,[v],λ_=>[],[],0⟩],⟨by simp,?_,by simp,by simp,⟨_,BY _,rfl,rfl⟩,by simp⟩,rfl⟩;intro e he;simp only[CD]at he;subst he;have Y:∀ (j:Nat) (z:Leaf),[l][j]?=some z->j=0/\z=l:=λj z O=>by
    cases j with
    |zero=>simp at O;exact⟨rfl,O.symm⟩
    |succ j=>simp at O
  exact { len := rfl
          one:=λu Z=>by simp at Z;subst Z;exact h1
          leaf:=λV W st hw X M _ j z u I H=>by
            obtain⟨rfl,rfl⟩:=Y j z I;simp at H;subst H;exact y V W st hw X M
          own:=λj z I H=>by obtain⟨_,rfl⟩:=Y j z I;exact absurd H J
          sep:=λj j' l1 l2 I H=>by obtain⟨_,rfl⟩:=Y j l1 I;exact absurd H J
          box:=λhr=>absurd hr (by show ¬ B0<=t;omega) }
def tW:Value->Nat
 |.pointer (some a)=>a.block
 |_=>0
def d8 (t:Nat):List PK->List Value->List (Nat×Nat)
 |.iop _::r,v::u=>(B0+t,tW v)::d8 (t+1) r u
 |_::r,_::u=>d8 (t+1) r u
 |_,_=>[]
def d9 (t:Nat):List PK->List Value->List (Nat×Value)
 |.io _::r,v::u=>(t,v)::d9 (t+1) r u
 |.iop _::r,v::u=>(t,v)::d9 (t+1) r u
 |_::r,_::u=>d9 (t+1) r u
 |_,_=>[]
def PK.bx (t:Nat)(v:Value):PK->List (Nat×Nat)
 |.iop _=>[(B0+t,tW v)]
 |_=>[]
theorem Bw (t:Nat)(a0:t<B0){pk:PK}{ps:List PK}{x:ab (pk::ps)}{v:Value}{b:List Nat}(a1:b.Nodup)(h:nU P w ro pr pk x.1 v b) :
    ∃ es,wL P w ro pr t pk v b (pk.bx t v) es/\c7 t (pk::ps) x=es.map (λe=>(e.r,e.c))++c7 (t+1) ps x.2:=by
  cases pk with
  |rd a =>
    obtain⟨rfl,cs,h1,h2⟩:=h;refine⟨[⟨t,⟨0,bi a.isAgg,cH true a x.1⟩,cs,λ_=>[],[],0⟩],⟨by simp,?_,by simp,by simp,⟨_,BY _,rfl,kk h1⟩,by simp[PK.bx]⟩,rfl⟩;intro e he;simp only[CD]at he;subst he;have b5:∀ (V:Env) (W:Wit) (st:St),V.ro0=ro->aC P V W st w (cH true a x.1) cs:=λV W st J=>e9 (G:=ro) (λk I=>.inr ⟨rfl,by rw[J];exact I⟩) h2
    have b2:∀ (j:Nat) (l:Leaf),(cH true a x.1)[j]?=some l->¬ am l:=λj l M=>by
      have hl:=gH true a x.1;have hc:=h2.len;have c1:=(BN.1 M).1;exact ((b5 ⟨w,ro,[],0,[],[]⟩ ⟨λ_=>0,λ_=>[],λ_ _=>[],λ_=>False⟩ (λ_=>bQ.none) rfl).at_ j l _ M (BU (by omega))).2.1
    exact { len := by show (cH true a x.1).length = _; rw [gH, h2.len]
            one:=h2.one
            leaf:=λV W st _ J _ _ j l u y H=>((b5 V W st J).at_ j l u y H).1
            own:=λj l y H=>absurd H (b2 j l y)
            sep:=λj j' l l' y H=>absurd H (b2 j l y)
            box:=λhr=>absurd hr (by show ¬ B0<=t;omega) }
  |own a =>
    obtain⟨cs,h1,h2⟩:=h;obtain⟨es,y,H⟩:=tV (P:=P) (pr:=pr) t 0 a1 h1 h2 a0;exact⟨es,⟨y.bl,y.ok,y.at_,y.nod,y.slot,y.bxs⟩,by rw[<- H];rfl⟩
  |io a =>
    obtain⟨cs,h1,h2⟩:=h;obtain⟨es,y,H⟩:=tV (P:=P) (pr:=pr) t 7 a1 h1 h2 a0;exact⟨es,⟨y.bl,y.ok,y.at_,y.nod,y.slot,y.bxs⟩,by rw[<- H];rfl⟩
  |rref a =>
    obtain⟨rfl,h⟩:=h;unfold gO at h;rw[if_neg (by simp)]at h;obtain⟨g,o,c,hv,hg,hr,hc⟩:=h;subst hv;obtain⟨es,y,H⟩:=nX (P:=P) (w:=w) (ro:=ro) (pr:=pr) t (pk:=.rref a) (l:=.rp true a x.1 0) (v:=.pointer (some ⟨g,o,none⟩)) a0 id rfl (λV W st hw J X=>⟨g,o,c,rfl,.inr (by rw[X];exact hg),hr.mono (λk I=>.inr ⟨rfl,by rw[J];exact I⟩),hc⟩);exact⟨es,y,by rw[<- H];rfl⟩
  |rref2 a =>
    obtain⟨rfl,h⟩:=h;unfold gO at h;rw[if_pos rfl]at h;obtain⟨b,ob,g,o,c,hv,hb,a6,hg,hr,hc⟩:=h;subst hv;obtain⟨es,y,H⟩:=nX (P:=P) (w:=w) (ro:=ro) (pr:=pr) t (pk:=.rref2 a) (l:=.rpp true a x.1) (v:=.pointer (some ⟨b,ob,none⟩)) a0 id rfl (λV W st hw J X=>⟨b,ob,g,o,c,rfl,.inr (by rw[X];exact hb),a6,.inr (by rw[X];exact hg),hr.mono (λk I=>.inr ⟨rfl,by rw[J];exact I⟩),hc⟩);exact⟨es,y,by rw[<- H];rfl⟩
  |fn As B =>
    obtain⟨rfl,h⟩:=h;have bn:v.oneCell'=true:=by
      obtain⟨f,c0,e,_⟩:=h;rw[e];rfl
    obtain⟨es,y,H⟩:=nX (P:=P) (w:=w) (ro:=ro) (pr:=pr) t (pk:=.fn As B) (l:=.fn As B x.1) (v:=v) a0 id bn (λV W st hw J X=>by
      show ii P V.w0 V.prot As B x.1 v;rw[hw,X];exact h)
    exact⟨es,y,by rw[<- H];rfl⟩
  |clo f cs =>
    obtain⟨rfl,us,e,h⟩:=h;subst e;obtain⟨es,y,H⟩:=nX (P:=P) (w:=w) (ro:=ro) (pr:=pr) t (pk:=.clo f cs) (l:=.clr f (j8 true cs x.1)) (v:=.func (.func f) #[] us.toArray) a0 id rfl (λV W st hw J X=>by
      obtain⟨i1,i2⟩:=tU V W J X h;exact⟨us,rfl,i1,i2⟩)
    exact⟨es,y,by rw[<- H];rfl⟩
  |iop a =>
    obtain⟨g,c,E,b0,hv,hg,hm,rfl⟩:=h;subst hv;rw[CE]at a1;obtain⟨a5,m1,m2,m3⟩:=jc (P:=P) (p:=true) hm a1.2;have hn:∀ j,(none:Option Nat)≠some (0+j):=λj=>by simp
    have Z:t≠B0+t:=by simp[B0]
    refine⟨[⟨t,⟨0,.one,[.bp (B0+t) 0]⟩,[.pointer (some ⟨g,0,none⟩)],λ_=>[],[],0⟩,⟨B0+t,⟨0,.agg,ap true a x.1⟩,c,a5,g::b0,g⟩],
      ⟨by simp,?_,λe he=>by simp at he;rcases he with rfl|rfl <;> simp,by rw[B4,B4,DE,CE];exact⟨by simpa using Z,by simp⟩,⟨_,BJ ..,rfl,rfl⟩,λz hz=>?_⟩,rfl⟩
    · intro e he
      simp only[BR,List.not_mem_nil,or_false]at he;rcases he with rfl|rfl
      · have h0:∀ (j:Nat) (l':Leaf),[Leaf.bp (B0+t) 0][j]?=some l'->j=0/\l'=.bp (B0+t) 0:=λj l' M=>by
          cases j with
          |zero=>simp at M;exact⟨rfl,M.symm⟩
          |succ j=>simp at M
        exact { len := rfl
                one:=λu hu=>by simp at hu;subst hu;rfl
                leaf:=λV W st hw J X hb j l' u y H=>by
                  obtain⟨rfl,rfl⟩:=h0 j l' y;simp at H;subst H;obtain⟨q1,q2,q3⟩:=hb (B0+t,g) (BY _);exact⟨q1,q2,by rw[q3]⟩
                own:=λj l' y H=>by obtain⟨_,rfl⟩:=h0 j l' y;exact H.elim
                sep:=λj j' l1 l2 y H=>by obtain⟨_,rfl⟩:=h0 j l1 y;exact H.elim
                box:=λhr=>absurd hr (by show ¬ B0<=t;omega) }
      · exact { len := by show (ap true a x.1).length = _; rw [cG, hm.len]
                one:=hm.one
                leaf:=λV W st _ J _ _ j l u y H=>m1 V W st (λk I=>.inr ⟨rfl,by rw[J];exact I⟩) j l u (hn j) y H
                own:=λj l y H k I=>BI _ (m2 j l (hn j) y H k I)
                sep:=λj j' l l' y H h5 h6=>m3 j j' l l' (hn j) (hn j') y H h5 h6
                box:=λ_=>⟨rfl,BJ ..,λj l y H I=>a1.1 (m2 j l (hn j) y H g I),⟨E,hg⟩,BY _⟩ }
    · simp only[PK.bx,CD]at hz
      subst hz;exact⟨rfl,_,BI _ (BY _),rfl,rfl⟩
  |hol a c off =>
    obtain⟨cs,u,b0,b1,E,e,xs,h1,h2,y,H,h5,h6⟩:=h;have a2:=bu.1 a1;have b4:b0.Nodup:=bu.2 λk=>by have:=a2 k;have:=h6 k;omega
    have a9:b1.Nodup:=bu.2 λk=>by have:=a2 k;have:=h6 k;omega
    have a4:∀ k,k∈b0->k∉b1:=λk I Y=>by
      have:=a2 k;have:=h6 k;have:=BZ.2 I;have:=BZ.2 Y;omega
    have b9:∀ k∈b0,k∈b:=λk I=>BZ.1 (by have:=h6 k;have:=BZ.2 I;omega)
    have b3:∀ k∈b1,k∈b:=λk I=>BZ.1 (by have:=h6 k;have:=BZ.2 I;omega)
    obtain⟨a5,m1,m2,m3⟩:=jc (P:=P) (p:=true) h2 b4;have Z:∀ j,j≠c->(some c:Option Nat)≠some (0+j):=λj M=>by simp;omega
    have ba:=mE (p:=true) H;rw[Nat.sub_zero]at ba;have bb:(ap true a x.1.1).getD c .dead=.own (true&&e.shy) none E e xs:=by rw[BS,ba];rfl
    refine⟨[⟨t,⟨0,bi a.isAgg,aT (ap true a x.1.1) c (.own (true&&e.shy) (some (x.1.2,off)) E e xs)⟩,cs,λj=>if j=c then b1 else a5 j,b,0⟩],
      ⟨by simp,?_,by simp,by simp,⟨_,BY _,rfl,kk h1⟩,by simp[PK.bx]⟩,?_⟩
    · intro en he
      simp only[CD]at he;subst he;have O:∀ (j:Nat) (l:Leaf),(aT (ap true a x.1.1) c (.own (true&&e.shy) (some (x.1.2,off)) E e xs))[j]?=some l->(j=c/\l=.own (true&&e.shy) (some (x.1.2,off)) E e xs)\/(j≠c/\(ap true a x.1.1)[j]?=some l):=by
        intro j l M;rcases aS _ _ _ _ _ M with ⟨q1,q2,_⟩|⟨q1,q2⟩
        · exact .inl ⟨q1,q2⟩
        · exact .inr ⟨q1,q2⟩
      exact { len := by show (aT (ap true a x.1.1) c _).length = _; simp only [aT, List.length_set]; rw [cG, h2.len]
              one:=h2.one
              leaf:=λV W st _ J _ _ j l u' h7 h8=>by
                have h8:cs[j]?=some u':=h8;rcases O j l h7 with ⟨rfl,rfl⟩|⟨M,h7⟩
                · rw[y]at h8
                  simp only[BD]at h8;subst h8;simp only[if_true];exact⟨a9,OwB.shy (p:=true) (h5.carry (λk I=>.inr ⟨rfl,by rw[J];exact I⟩) (λ_ _=>rfl) (λ_ _=>rfl))⟩
                · simp only[if_neg M]
                  exact m1 V W st (λk I=>.inr ⟨rfl,by rw[J];exact I⟩) j l u' (Z j M) h7 h8
              own:=λj l h7 h8 k I=>by
                rcases O j l h7 with ⟨rfl,rfl⟩|⟨M,h7⟩
                · simp only[if_true]at I;exact b3 k I
                · simp only[if_neg M]at I;exact b9 k (m2 j l (Z j M) h7 h8 k I)
              sep:=λj j' l l' h7 h8 h9 ad k I Y=>by
                rcases O j l h7 with ⟨rfl,rfl⟩|⟨M,h7⟩ <;> rcases O j' l' h9 with ⟨rfl,rfl⟩|⟨a3,h9⟩
                · rfl
                · simp only[if_true]at I;simp only[if_neg a3]at Y
                  exact absurd I (a4 k (m2 j' l' (Z j' a3) h9 ad k Y))
                · simp only[if_neg M]at I;simp only[if_true]at Y
                  exact absurd Y (a4 k (m2 j l (Z j M) h7 h8 k I))
                · simp only[if_neg M]at I;simp only[if_neg a3]at Y
                  exact m3 j j' l l' (Z j M) (Z j' a3) h7 h8 h9 ad k I Y
              box:=λhr=>absurd hr (by show ¬ B0<=t;omega) }
    · show (t,(⟨0,bi a.isAgg,aT (ap true a x.1.1) c (uM x.1.2 off ((ap true a x.1.1).getD c .dead))⟩:bQ))::c7 (t+1) ps x.2=_
      rw[bb];rfl
theorem tX:∀ {ps:List PK} {x:ab ps} {u:List Value} {r:List (List Nat)},da P w ro pr ps x u r->u.length=ps.length
 |[],_,_,_,h=>by rw[h.1];rfl
 |_::_,_,_,_,⟨_,_,_,_,e,_,_,h⟩=>by rw[e,CJ,CJ,tX h]
theorem vv:∀ (ps:List PK) (x:ab ps) (Z:List Value) (H:List (List Nat)) (t:Nat),da P w ro pr ps x Z H->H.flatten.Nodup->t+ps.length<=B0 ->
  ∃ Y:List Ent,c7 t ps x=Y.map (λe=>(e.r,e.c))/\Y.flatMap (·.bl)=H.flatten/\(∀ e∈Y,qj P w ro pr (d8 t ps Z) e) /\
   (∀ e∈Y,(t<=e.r/\e.r<t+ps.length)\/(B0+t<=e.r/\e.r<B0+t+ps.length))/\(Y.map (·.r)).Nodup /\
   (∀ (i:Nat) (v:Value),Z[i]?=some v->∃ e∈Y,e.r=t+i/\ee e.c.sh v e.cs)/\(∀ z∈d8 t ps Z,∃ e∈Y,e.r=z.1/\e.g=z.2/\B0<=z.1)
 |[],x,Z,H,t,⟨e1,e2⟩,_,_=>by
  subst e1;subst e2;exact⟨[],rfl,rfl,by simp,by simp,by simp,λi v h=>by simp at h,by simp[d8]⟩
 |pk::ps,x,Z,H,t,⟨v,X,b,a1,e1,e2,h1,h2⟩,M,hB=>by
  subst e1;subst e2;rw[BT,CK]at M;simp only[CJ]at hB;obtain⟨a3,J,p2⟩:=Bw t (by omega) (ps:=ps) (x:=x) M.1 h1;obtain⟨a4,q1,q2,q3,q4,q5,q6,q7⟩:=vv ps x.2 X a1 (t+1) h2 M.2.1 (by omega);have a0:d8 t (pk::ps) (v::X)=pk.bx t v++d8 (t+1) ps X:=by cases pk <;> rfl
  refine⟨a3++a4,by rw[p2,q1,CU],by rw[List.flatMap_append,J.bl,q2,BT],λe y=>?_,λe y=>?_,?_,λi u hi=>?_,λz I=>?_⟩
  ·rw[a0];rcases BE.1 y with y|y
   ·exact (J.ok e y).mono (λz I=>BG _ I)
   ·exact (q3 e y).mono (λz I=>BH _ I)
  ·simp only[CJ];rcases BE.1 y with y|y
   ·rcases J.at_ e y with h|h <;> omega
   ·rcases q4 e y with h|h <;> omega
  ·rw[CU,CK];refine⟨J.nod,q5,λa ha b' a5 e0=>?_⟩;subst e0;obtain⟨e,y,rfl⟩:=BO.1 ha;obtain⟨e',a2,e1⟩:=BO.1 a5;rcases J.at_ e y with h|h <;> rcases q4 e' a2 with h'|h' <;> omega
  ·cases i with
   |zero =>
    simp at hi;subst hi;obtain⟨e,y,h3,O⟩:=J.slot;exact⟨e,BG _ y,by omega,O⟩
   |succ i =>
    obtain⟨e,y,h3,O⟩:=q6 i u (by simpa using hi);exact⟨e,BH _ y,by omega,O⟩
  ·rw[a0]at I;rcases BE.1 I with I|I
   ·obtain⟨h3,e,y,O,h5⟩:=J.bxs z I;exact⟨e,BG _ y,by rw[O,h3],h5,by rw[h3];exact Nat.le_add_right _ _⟩
   ·obtain⟨e,y,O,h5,h6⟩:=q7 z I;exact⟨e,BH _ y,O,h5,h6⟩
def gb (w:World)(ro:Nat->Prop)(ps:List PK)(u:List Value)(r:List (List Nat))(nt:Nat):Env:=⟨w,ro,r.flatten,nt,d8 0 ps u,d9 0 ps u⟩
theorem nY:∀ {J:List Ent},(J.flatMap (·.bl)).Nodup->∀ e∈J,∀ y∈J,∀ k,k∈e.bl->k∈y.bl->e=y
 |[],_,e,O,_,_,_,_,_=>by simp at O
 |x::J,u,e,O,y,M,k,I,r=>by
  rw[List.flatMap_cons,CK]at u;rcases BR.1 O with H|H <;> rcases BR.1 M with z|z
  ·rw[H,z]
  ·rw[H]at I;exact absurd rfl (u.2.2 k I k (BW.2 ⟨y,z,r⟩))
  ·rw[z]at r;exact absurd rfl (u.2.2 k r k (BW.2 ⟨e,H,I⟩))
  ·exact nY u.2.1 e H y z k I r
theorem yh:∀ {I:List Ent},(I.map (·.r)).Nodup->∀ e∈I,∀ y∈I,e.r=y.r->e=y
 |[],_,e,M,_,_,_=>by simp at M
 |x::I,u,e,M,y,J,O=>by
  rw[B4,CE]at u;rcases BR.1 M with H|H <;> rcases BR.1 J with z|z
  ·rw[H,z]
  ·exact absurd (BO.2 ⟨y,z,by rw[<- O,H]⟩) u.1
  ·exact absurd (BO.2 ⟨e,H,by rw[O,z]⟩) u.1
  ·exact yh u.2 e H y z O
theorem rL:∀ (u:List Ent) (q:Nat),(av (u.map λe=>(e.r,e.c)) q=bQ.none/\u.find? (λe=>e.r==q)=none)\/∃ e∈u,e.r=q/\u.find? (λe=>e.r==q)=some e/\av (u.map λe=>(e.r,e.c)) q=e.c
 |[],q=>.inl ⟨rfl,rfl⟩
 |e::u,q=>by
  by_cases h:e.r=q
  ·refine .inr ⟨e,BJ ..,h,by simp[h],?_⟩;simp[av,ac,h]
  ·have z:BM q e.r=false:=by
    cases z:BM q e.r with
    |false=>rfl
    |true=>exact absurd (BK z).symm h
   have J:av ((e::u).map λe=>(e.r,e.c)) q=av (u.map λe=>(e.r,e.c)) q:=by simp[av,ac,z]
   have H:(e::u).find? (λe=>e.r==q)=u.find? (λe=>e.r==q):=by simp[h]
   rw[J,H];rcases rL u q with y|⟨M,y,O,X,I⟩
   ·exact .inl y
   ·exact .inr ⟨M,BI _ y,O,X,I⟩
theorem vw:∀ {ps:List PK} {r:List Value} {t:Nat} {z:Nat×Value},z∈d9 t ps r->∃ i,z.1=t+i/\r[i]?=some z.2
 |[],_,_,_,h=>by simp[d9]at h
 |u::ps,[],_,_,h=>by cases u <;> simp[d9]at h
 |u::ps,v::r,t,z,h=>by
  have:z=(t,v)\/z∈d9 (t+1) ps r:=by cases u <;> simp[d9]at h <;> first|exact h|exact .inr h
  rcases this with rfl|h
  ·exact⟨0,rfl,rfl⟩
  ·obtain⟨i,H,y⟩:=vw h;exact⟨i+1,by omega,by simpa using y⟩
theorem vz {ps:List PK}{x:ab ps}{M:List Value}{J:List (List Nat)}{nt:Nat}(h:da P w ro (λk=>k<w.heap.size/\k∉J.flatten) ps x M J)(a5:J.flatten.Nodup)
  (c4:ps.length<=nt) (hB:nt<=GH):Rel P (gb w ro ps M J nt) (av (c7 0 ps x)) { tmps:=M.toArray++CF (nt-M.length) undef,defers:=[] } w:=by
 have c3:=tX h;have cb:GH<=B0:=by decide
 obtain⟨Y,q1,q2,q3,q4,q5,q6,q7⟩:=vv ps x M J 0 h a5 (by omega);rw[q1];have b9:=rL Y;have a2:∀ e∈Y,∀ H∈Y,e.r=H.r->e=H:=by
  intro e he H c2 hr;exact yh q5 e he H c2 hr
 rw[<- q2]at a5;have a1:∀ e∈Y,∀ k∈e.bl,k∈J.flatten:=λe he k Z=>by rw[<- q2];exact BW.2 ⟨e,he,Z⟩
 have hE:∀ q,(av (Y.map λe=>(e.r,e.c)) q=bQ.none/\Y.find? (λe=>e.r==q)=none)\/∃ e∈Y,e.r=q/\Y.find? (λe=>e.r==q)=some e/\av (Y.map λe=>(e.r,e.c)) q=e.c:=b9;have a0:∀ q,live (av (Y.map λe=>(e.r,e.c))) q->∃ e∈Y,e.r=q/\B0<=e.r/\Y.find? (λe=>e.r==q)=some e:=by
  rintro q ⟨h1,h2⟩;rcases hE q with ⟨I,_⟩|⟨e,I,y,h5,O⟩
  ·rw[I]at h2;cases h2
  ·exact⟨e,I,y,by rw[y];exact h1,h5⟩
 let β:Nat->Nat:=λq=>match Y.find? (λe=>e.r==q) with|some e=>e.g|none=>0
 let cs:Nat->List Value:=λq=>match Y.find? (λe=>e.r==q) with|some e=>e.cs|none=>[]
 let bs:Nat->Nat->List Nat:=λq j=>match Y.find? (λe=>e.r==q) with|some e=>e.bs j|none=>[]
 have a9:∀ z∈d8 0 ps M,B0<=z.1/\(av (Y.map λe=>(e.r,e.c)) z.1).sh=.agg/\β z.1=z.2:=by
  intro z hz;obtain⟨e,he,h1,h2,I⟩:=q7 z hz;refine⟨I,?_⟩;rcases hE z.1 with ⟨_,y⟩|⟨H,y,h5,O,h7⟩
  ·exfalso;rw[Cy]at y;exact y e he (by simp[h1])
  ·have:H=e:=a2 H y e he (by rw[h5,h1]);subst this;rw[h7];exact⟨((q3 H he).box (by rw[h1];exact I)).1,by simp only[β,O];exact h2⟩
 refine⟨{ β:=β,cs:=cs,bs:=bs,nw:=λ_=>False },?_⟩;have c1:(gb w ro ps M J nt).prot=λk=>k<w.heap.size/\k∉J.flatten:=rfl
 exact {
  nt:=by show (M.toArray++CF (nt-M.length) undef).size=nt;simp;omega
  df:=rfl
  slots:=λt ht=>by
   show ee _ ((M.toArray++CF (nt-M.length) undef).getD t undef) (cs t);by_cases hq:t<ps.length
   ·have hv:=BU (show t<M.length by omega);have:(M.toArray++CF (nt-M.length) undef).getD t undef=M[t]:=by
     rw[BQ,CZ (by simp;omega)];simp[hv]
    rw[this];obtain⟨e,he,h1,h2⟩:=q6 t _ hv;rw[CN]at h1;rcases hE t with ⟨_,y⟩|⟨H,y,h5,O,h7⟩
    ·exfalso;rw[Cy]at y;exact y e he (by simp[h1])
    ·have:H=e:=a2 H y e he (by rw[h5,h1]);subst this;rw[h7];simp only[cs,O];exact h2
   ·rcases hE t with ⟨I,y⟩|⟨H,y,h5,O,h7⟩
    ·rw[I];simp only[cs,y];rfl
    ·rcases q4 H y with h8|h8 <;> omega
  boxes:=λb hb=>by
   rcases hE b with ⟨I,y⟩|⟨H,y,h5,O,h7⟩
   ·rw[I];exact .inl ⟨rfl,rfl⟩
   ·obtain⟨g1,g2,g3,⟨E,g4⟩,g5⟩:=(q3 H y).box (by rw[h5];exact hb);rw[h7];exact .inr ⟨g1,E,by simp only[β,cs,O];exact g4⟩
  len:=λq=>by
   rcases hE q with ⟨I,y⟩|⟨H,y,h5,O,h7⟩
   ·rw[I];simp only[cs,y];rfl
   ·rw[h7];simp only[cs,O];exact (q3 H y).len
  one:=λq u hu=>by
   have hu:u∈cs q:=hu;rcases hE q with ⟨I,y⟩|⟨H,y,h5,O,h7⟩
   ·simp only[cs,y]at hu;simp at hu
   ·simp only[cs,O]at hu;exact (q3 H y).one u hu
  leaf:=λq j l v X hv=>by
   have hv:(cs q)[j]?=some v:=hv;rcases hE q with ⟨I,y⟩|⟨H,y,h5,O,h7⟩
   ·rw[I]at X;simp[bQ.none]at X
   ·rw[h7]at X;simp only[cs,O]at hv;show aK P _ _ _ w (bs q j) l v;simp only[bs,O];exact (q3 H y).leaf (gb w ro ps M J nt) _ _ rfl rfl rfl a9 j l v X hv
  ownb:=λq j l X ho k Z=>by
   have Z:k∈bs q j:=Z;rcases hE q with ⟨I,y⟩|⟨H,y,h5,O,h7⟩
   ·rw[I]at X;simp[bQ.none]at X
   ·rw[h7]at X;simp only[bs,O]at Z;have b0:=(q3 H y).own j l X ho k Z;refine⟨id,λhp=>hp.2 (a1 H y k b0),λb hb e0=>?_⟩;obtain⟨e2,g1,g2,g3,g4⟩:=a0 b hb;have a6:=(q3 e2 g1).box g3;have e0:β b=k:=e0;simp only[β,g4]at e0;have:=nY a5 H y e2 g1 k b0 (by rw[<- e0];exact a6.2.1);subst this;exact a6.2.2.1 j l X ho (by rw[e0];exact Z)
  sep:=λq j l q' j' l' X ho a3 b2 k Z a4=>by
   have Z:k∈bs q j:=Z;have a4:k∈bs q' j':=a4;rcases hE q with ⟨I,y⟩|⟨e1,y,h5,O,h7⟩
   ·rw[I]at X;simp[bQ.none]at X
   ·rcases hE q' with ⟨b3,ad⟩|⟨e2,ad,ba,bx,bn⟩
    ·rw[b3]at a3;simp[bQ.none]at a3
    ·rw[h7]at X;rw[bn]at a3;simp only[bs,O]at Z;simp only[bs,bx]at a4;have:=nY a5 e1 y e2 ad k ((q3 e1 y).own j l X ho k Z) ((q3 e2 ad).own j' l' a3 b2 k a4);subst this;exact⟨by rw[<- h5,<- ba],(q3 e1 y).sep j j' l l' X ho a3 b2 k Z a4⟩
  box:=λb hb=>by
   obtain⟨e2,g1,g2,g3,g4⟩:=a0 b hb;have a6:=(q3 e2 g1).box g3;refine⟨id,λhp=>hp.2 ?_⟩;show β b∈_;simp only[β,g4];exact a1 e2 g1 _ a6.2.1
  inj:=λb b' hb b5 e0=>by
   obtain⟨e1,g1,g2,g3,g4⟩:=a0 b hb;obtain⟨e2,b1,c0,bb,b4⟩:=a0 b' b5;have e0:β b=β b':=e0;simp only[β,g4,b4]at e0;have:=nY a5 e1 g1 e2 b1 e1.g ((q3 e1 g1).box g3).2.1 (by rw[e0];exact ((q3 e2 b1).box bb).2.1);subst this;rw[<- g2,<- c0]
  nwlt:=λk Z=>Z.elim
  os:=rfl,tape:=rfl,output:=rfl,size:=Cn _,keep:=λ_ _=>rfl
  fixb:=λz hz=>by
   obtain⟨h1,h2,I⟩:=a9 z hz;exact⟨⟨h1,h2⟩,I⟩
  fixt:=λz hz=>by
   obtain⟨i,h1,h2⟩:=vw hz;rw[CN]at h1;show (M.toArray++CF (nt-M.length) undef).getD z.1 undef=z.2;rw[h1,BQ,CZ (by simpa using (BN.1 h2).1)];simp[h2] }
end
section
variable {P:Program} {V:Env} {W:Wit} {Γ:List Ctr} {T:TypeId->TI} {R:Type} {st:St} {a:Act} {w:World} {ro:Nat->Prop}
theorem Bx (hT:TOk P T)(h:an P V W st a w)(x:ResultVar)(I:pv st T x≠.off) :
  ∃ v O,(match x with|.tmp t=>(pure (a.tmps.getD t undef):Sem Value)|.cell b t=>(do loadVar t (<- asAddr (a.tmps.getD b undef)):Sem Value)).run P w=.ok v w /\
   ee (pv st T x) v O/\aC P V W st w (vC st T x) O:=by
 cases x with
 |tmp t =>
  obtain⟨O,h1,J⟩:=cU h (.tmp t);exact⟨_,O,rfl,h1,J⟩
 |cell t u =>
  simp only[pv]at I ⊢;split at I
  ·rename_i b off Z;cases M:decide ((st b).sh=.agg)&&Cp (off+(T u).cells) (st b).ls.length&&!BM (T u).cells 0 with
   |false=>rw[M]at I;exact absurd rfl I
   |true =>
    simp only[Z,M,cond_true,vC];simp only[BF,decide_eq_true_eq,CH]at M;obtain⟨⟨h1,J⟩,h3⟩:=M;have J:off+(T u).cells<=(st b).ls.length:=B9 J;have a1:T u≠.none:=by
     intro e;rw[e]at h3;simp[TI.cells]at h3
    obtain⟨hp,_,_,_,_⟩:=bt h (.tmp t) (by rw[Z];simp);rw[Z]at hp;obtain⟨hB,a0,z⟩:=hp;have z:a.tmps.getD t undef=.pointer (some ⟨W.β b,off,none⟩):=z;rcases h.boxes b hB with ⟨X,_⟩|⟨_,E,X⟩
    ·rw[a0]at X;cases X
    ·have r:cX w (W.β b) 0 (W.cs b):=λi v z=>by
      rw[CN,cell_of_row w (W.β b) i _ E (0,0) X];simpa using z
     have a2:=h.len b;have y:=r.sub off (T u).cells;rw[CN]at y;obtain⟨v,H,Y⟩:=oe (hT u) a1 y (by simp;omega);refine⟨v,_,?_,Y,((iA h b).drop off).take _⟩;simp only[z];simpa[asAddr]using H
  ·exact absurd rfl I
def nJ (a:Act):ResultVar->Sem Value
 |.tmp t=>pure (a.tmps.getD t undef)
 |.cell b t=>do loadVar t (<- asAddr (a.tmps.getD b undef))
def nK (P:Program)(a:Act)(w:World):List ResultVar->List Value->Prop
 |[],u=>u=[]
 |x::y,u=>∃ v r,u=v::r/\(nJ a x).run P w=.ok v w/\nK P a w y r
theorem rM:∀ (l:List ResultVar) (u:List Value),nK P a w l u->(l.mapM (nJ a)).run P w=.ok u w
 |[],_,h=>by rw[show _=_ from h];rfl
 |x::l,_,⟨v,r,e,z,y⟩=>by subst e;simp[Co,z,rM l r y]
theorem AL (b:Bool):bi b≠.off:=by cases b <;> simp[bi]
def RK.isBox:RK->Bool
 |.box _=>true
 |_=>false
theorem tY (hV:ay V)(hT:TOk P T)(h:an P V W st a w)(b1:V.ro0=ro){fx:List Nat}:∀ (rs:List RK) (H:List ResultVar) (y:cI (ai rs)),kp st T fx rs H=some y ->
  ∀ {G:Nat->Prop},(∀ k,bo V W y.p y.frz k->G k) ->
  ∃ (us:List Value) (I:List (List Nat)) (bx:List Nat),nK P a w H us/\gw w G ro rs y.val us I/\(∀ k,I.flatten.count k=(aW W y.kill).count k+(bx.map W.β).count k) /\
   (∀ b∈bx,live st b/\fx.any (BM b)=false)/\bx.length=rs.countP RK.isBox/\(∀ z∈y.frz,aA st z)/\∀ z∈y.kill,aA st z
 |[],[],y,J,G,hG=>by
  simp only[kp,BD]at J;subst J;exact⟨[],[],[],rfl,⟨rfl,rfl⟩,λk=>by simp[aW],by simp,rfl,by simp,by simp⟩
 |[],_::_,_,J,_,_=>by simp[kp]at J
 |_::_,[],_,J,_,_=>by simp[kp]at J
 |r::rs,x::H,y,J,G,hG=>by
  simp only[kp]at J;cases M:decide (pv st T x=r.sh) with
  |false=>simp[M]at J
  |true =>
   simp only[M,cond_true]at J;have M:=of_decide_eq_true M;split at J
   ·rename_i X y2 u b4;simp only[BD]at J;subst J;obtain⟨v,a2,a6,O,a0⟩:=Bx hT h x (by rw[M];cases r <;> simp only[RK.sh] <;> first|exact AL _|simp);rw[M]at O;have a1:∀ k,bo V W X.p X.frz k->G k:=λk Z=>hG k (dP.1 k Z)
    have b5:∀ k,bo V W y2.p y2.frz k->G k:=λk Z=>hG k (dP.2 k Z)
    obtain⟨us,I,bx,i1,i2,i3,i4,i5,i6,i7⟩:=tY hV hT h b1 rs H y2 b4 b5;have a3:(nJ a x).run P w=.ok v w:=by cases x <;> exact a6
    have a5:∀ (b:List Nat) (Y:List Nat),p7 w G ro r X.val v b->(∀ k,b.count k=(aW W X.kill).count k+(Y.map W.β).count k)->(∀ b∈Y,live st b/\fx.any (BM b)=false)->Y.length=(if r.isBox then 1 else 0)->(∀ z∈X.frz,aA st z)->(∀ z∈X.kill,aA st z) ->
      ∃ (us:List Value) (I:List (List Nat)) (bx:List Nat),nK P a w (x::H) us/\gw w G ro (r::rs) (X.val,y2.val) us I/\(∀ k,I.flatten.count k=(aW W (X.kill++y2.kill)).count k+(bx.map W.β).count k) /\
       (∀ b∈bx,live st b/\fx.any (BM b)=false)/\bx.length=(r::rs).countP RK.isBox/\(∀ z∈X.frz++y2.frz,aA st z)/\∀ z∈X.kill++y2.kill,aA st z:=by
     intro b Y f1 f2 f3 f4 f5 f6;refine⟨v::us,b::I,Y++bx,⟨v,us,rfl,a3,i1⟩,⟨v,us,b,I,rfl,rfl,f1,i2⟩,λk=>?_,λz hz=>(BE.1 hz).elim (f3 z) (i4 z),?_,λz hz=>(BE.1 hz).elim (f5 z) (i6 z),λz hz=>(BE.1 hz).elim (f6 z) (i7 z)⟩
     ·rw[BT,BX,f2 k,i3 k,dG,BX,CU,BX];omega
     ·rw[List.length_append,f4,i5,C6];cases r.isBox <;> simp <;> omega
    cases r with
    |v b =>
     simp only[r9]at u;obtain⟨g1,g2,g3⟩:=dM (pos:=0) h a0 u;exact a5 (aW W X.kill) [] ⟨a2,gx O,g1.mono a1⟩ (λk=>by simp) (by simp) rfl g2 g3
    |bv b =>
     simp only[r9,BL]at u;obtain⟨⟨p,z⟩,hz,rfl⟩:=u;have g1:=eE h a0 hz;refine a5 [] [] ⟨rfl,a2,gx O,g1.mono λk Z=>?_⟩ (λk=>by simp[aW]) (by simp) rfl (λz hz=>ek a0 hz) (by simp);rcases Z with (Z|⟨_,Z⟩)|Z
     ·exact .inl (a1 k (.inl (.inl Z)))
     ·exact .inr (by rw[<- b1];exact Z)
     ·exact .inl (a1 k (.inr Z))
    |box b =>
     simp only[r9]at u;split at u
     ·rename_i b0 b3;cases a4:!(fx.any (BM b0)) with
      |false=>rw[a4]at u;cases u
      |true =>
       rw[a4]at u;simp only[cond_true]at u;have O:a2=[v]:=O;subst O;rw[b3]at a0;obtain⟨hB,ad,b2⟩:=a0.1.1;obtain⟨g1,g2,g3⟩:=dM (pos:=0) h (iA h b0) u;rcases h.boxes b0 hB with ⟨h8,_⟩|⟨_,E,h8⟩
       ·rw[ad]at h8;cases h8
       ·exact a5 (W.β b0::aW W X.kill) [b0] ⟨W.β b0,W.cs b0,E,_,b2,h8,g1.mono a1,rfl⟩ (λk=>by
         rw[CV,B4,DE,CV,List.count_nil];omega) (λb' a9=>by
         simp at a9;subst a9;exact⟨⟨hB,ad⟩,by simpa using a4⟩) rfl g2 g3
     ·cases u
   ·cases J
theorem mF (hV:ay V)(h:an P V W st a w){w0:World}{pr:Nat->Prop}(a3:V.nt<=GH):∀ (ps:List PK) (x:ab ps) (vs:List Value) (a9:List (List Nat)) (t:Nat) (o:cI (ah ps)),da P w0 ro pr ps x vs a9->ic st t ps=some o->t+ps.length<=V.nt ->
  (∀ z∈d9 t ps vs,a.tmps.getD z.1 undef=z.2)->(∀ z∈d8 t ps vs,live st z.1/\W.β z.1=z.2)->∀ {G:Nat->Prop},(∀ k,bo V W o.p o.frz k->G k) ->
  ∃ r,bK w G ps o.val vs r/\(∀ k,r.flatten.count k=(aW W o.kill).count k+((bH t ps).map W.β).count k)/\(∀ z∈o.frz,aA st z)/\(∀ z∈o.kill,aA st z)/\∀ b∈bH t ps,live st b
 |[],x,vs,a9,t,o,⟨e1,e2⟩,y,_,_,_,G,hG=>by
  simp only[ic,BD]at y;subst y;subst e1;exact⟨[],trivial,λk=>by simp[aW,bH],by simp,by simp,by simp[bH]⟩
 |pk::ps,x,vs,a9,t,o,⟨v,Y,b,a0,e1,e2,h1,h2⟩,y,ht,a1,a2,G,hG=>by
  subst e1;subst e2;simp only[CJ]at ht;have u:∀ (o':cI (ah ps)),ic st (t+1) ps=some o'->d9 t (pk::ps) (v::Y)=d9 (t+1) ps Y->d8 t (pk::ps) (v::Y)=d8 (t+1) ps Y->(∀ k,bo V W o'.p o'.frz k->G k) ->
    ∃ r,bK w G ps o'.val Y r/\(∀ k,r.flatten.count k=(aW W o'.kill).count k+((bH (t+1) ps).map W.β).count k)/\(∀ z∈o'.frz,aA st z)/\(∀ z∈o'.kill,aA st z)/\∀ b∈bH (t+1) ps,live st b:=by
   intro o' ad e1 e2 b1;exact mF hV h a3 ps x.2 Y a0 (t+1) o' h2 ad (by omega) (λz H=>a1 z (by rw[e1];exact H)) (λz H=>a2 z (by rw[e2];exact H)) b1
  cases pk with
  |io b =>
   simp only[ic]at y;split at y
   ·rename_i y1 y2 Z a6;simp only[BD]at y;subst y;obtain⟨r,X,M,J,I,O⟩:=mF hV h a3 ps x.2 Y a0 (t+1) y2 h2 a6 (by omega) (λz H=>a1 z (BI _ H)) (λz H=>a2 z H) (λk hk=>hG k (dP.2 k hk));cases hb:decide ((au st (.tmp t)).1=bi b.isAgg) with
    |false=>rw[hb]at Z;cases Z
    |true =>
     rw[hb]at Z;simp only[cond_true]at Z;obtain⟨cs,h3,h4⟩:=cU h (.tmp t);rw[of_decide_eq_true hb]at h3;have hv:a.eval (.tmp t)=v:=a1 (t,v) (BJ ..);rw[hv]at h3;obtain⟨g1,g2,g3⟩:=dM (pos:=0) h h4 Z;refine⟨aW W y1.kill::r,⟨?_,X⟩,λk=>?_,λz H=>(BE.1 H).elim (g2 z) (J z),λz H=>(BE.1 H).elim (g3 z) (I z),O⟩
     ·unfold jA;rw[if_neg (by simp)];exact⟨cs,gx h3,g1.mono (λk hk=>hG k (dP.1 k hk))⟩
     ·rw[BT,BX,M k,dG,BX];show _=_+((bH (t+1) ps).map W.β).count k;omega
   ·cases y
  |iop b =>
   simp only[ic]at y;split at y
   ·rename_i y1 y2 Z a6;simp only[BD]at y;subst y;obtain⟨r,X,M,J,I,O⟩:=mF hV h a3 ps x.2 Y a0 (t+1) y2 h2 a6 (by omega) (λz H=>a1 z (BI _ H)) (λz H=>a2 z (BI _ H)) (λk hk=>hG k (dP.2 k hk));obtain⟨g,c,E,b0,hv,_,_,_⟩:=h1;subst hv;obtain⟨a4,hβ⟩:=a2 (B0+t,tW (.pointer (some ⟨g,0,none⟩))) (BJ ..);have hβ:W.β (B0+t)=g:=hβ;obtain⟨g1,g2,g3⟩:=dM (pos:=0) h (iA h (B0+t)) Z;rcases h.boxes (B0+t) a4.1 with ⟨h8,_⟩|⟨_,E',h8⟩
    ·have:=a4.2;rw[h8]at this;cases this
    ·refine⟨(g::aW W y1.kill)::r,⟨?_,X⟩,λk=>?_,λz H=>(BE.1 H).elim (g2 z) (J z),λz H=>(BE.1 H).elim (g3 z) (I z),λb' a5=>?_⟩
     ·unfold jA;rw[if_pos rfl];exact⟨g,W.cs (B0+t),E',_,rfl,by rw[<- hβ];exact h8,g1.mono (λk hk=>hG k (dP.1 k hk)),rfl⟩
     ·rw[BT,BX,M k,dG,BX,CV];show _=_+(W.β (B0+t)::(bH (t+1) ps).map W.β).count k;rw[CV,hβ];omega
     ·rcases BR.1 a5 with rfl|a5
      ·exact a4
      ·exact O b' a5
   ·cases y
  |rd b =>
   obtain⟨r,X,M,J,I,O⟩:=u o y rfl rfl hG;exact⟨[]::r,⟨rfl,X⟩,λk=>by rw[BT,CC];exact M k,J,I,O⟩
  |own b =>
   obtain⟨r,X,M,J,I,O⟩:=u o y rfl rfl hG;exact⟨[]::r,⟨rfl,X⟩,λk=>by rw[BT,CC];exact M k,J,I,O⟩
  |rref b =>
   obtain⟨r,X,M,J,I,O⟩:=u o y rfl rfl hG;exact⟨[]::r,⟨rfl,X⟩,λk=>by rw[BT,CC];exact M k,J,I,O⟩
  |rref2 b =>
   obtain⟨r,X,M,J,I,O⟩:=u o y rfl rfl hG;exact⟨[]::r,⟨rfl,X⟩,λk=>by rw[BT,CC];exact M k,J,I,O⟩
  |fn As B =>
   obtain⟨r,X,M,J,I,O⟩:=u o y rfl rfl hG;exact⟨[]::r,⟨rfl,X⟩,λk=>by rw[BT,CC];exact M k,J,I,O⟩
  |clo f cs =>
   obtain⟨r,X,M,J,I,O⟩:=u o y rfl rfl hG;exact⟨[]::r,⟨rfl,X⟩,λk=>by rw[BT,CC];exact M k,J,I,O⟩
  |hol b c off =>
   obtain⟨r,X,M,J,I,O⟩:=u o y rfl rfl hG;exact⟨[]::r,⟨rfl,X⟩,λk=>by rw[BT,CC];exact M k,J,I,O⟩
end
section
variable {P:Program} {Γ:List Ctr} {T:TypeId->TI} {w:World} {ro:Nat->Prop}
theorem uJ {fn:Func}{a:Act}{w:World}{r:List Value}(h:nK P a w fn.results.toList r):(results fn a.tmps).run P w=.ok (if h:r.toArray.size=1 then r.toArray[0] else .tuple r.toArray) w:=by
 have z:=rM _ _ h;have e:results fn a.tmps=(fn.results.mapM (nJ a) >>= λu=>pure (if h:u.size=1 then u[0] else .tuple u)):=by
  unfold results;congr 1
 have y:(fn.results.mapM (nJ a)).run P w=.ok r.toArray w:=by
  rw[Array.mapM_eq_mapM_toList];simp[z]
 rw[e];simp only[CR,y,CL,C0]
theorem By (us:List Value):sk us (if h:us.toArray.size=1 then us.toArray[0] else .tuple us.toArray):=by
 match us with
 |[]=>rfl
 |[u]=>rfl
 |u::r::us =>
  rw[dif_neg (by simp)];rfl
theorem rN:∀ (ps:List PK) (t:Nat),(bH t ps).Nodup/\∀ b∈bH t ps,B0+t<=b
 |[],t=>⟨Ca,by simp[bH]⟩
 |I::ps,t=>by
  obtain⟨y,u⟩:=rN ps (t+1);have z:∀ b∈bH (t+1) ps,B0+t<=b:=λb r=>by have:=u b r;omega
  cases I with
  |iop a =>
   refine⟨CE.2 ⟨λH=>?_,y⟩,λb r=>?_⟩
   ·have:=u _ H;omega
   ·rcases BR.1 r with rfl|r
    ·exact Cn _
    ·exact z b r
  |_=>exact⟨y,z⟩
theorem Bz {u:List RK}(h:qo u=true):u.countP RK.isBox<=1:=by
 unfold qo at h;split at h
 ·simp[RK.isBox]
 ·rw[Cs.2]
  ·exact C8 _
  ·intro r y;rw[B3]at h;have:=h r y;cases r <;> simp[RK.isV,RK.isBox]at this ⊢
theorem rO {β:Nat->Nat}:∀ {bs:List Nat},bs.Nodup->(∀ b∈bs,∀ u∈bs,β b=β u->b=u)->(bs.map β).Nodup
 |[],_,_=>Ca
 |b::bs,z,H=>by
  rw[CE]at z;rw[B4,CE];refine⟨λM=>?_,rO z.2 (λx I y J=>H x (BI _ I) y (BI _ J))⟩;obtain⟨u,r,e⟩:=BO.1 M;have:=H u (BI _ r) b (BJ ..) e;exact z.1 (by rw[<- this];exact r)
theorem yi (hT:TOk P T){c:Ctr}(c4:qo c.rs=true){vs:List Value}{J:List (List Nat)}{fn:Func}{nt:Nat}(hV:ay (gb w ro c.ps vs J nt)){x:ab c.ps}{pr:Nat->Prop}(b4:da P w ro pr c.ps x vs J)(bn:c.ps.length<=nt){ex:Ex}{s1:St}{y:ai c.rs×ah c.ps}
  (r:c5 T c.ps c.rs c.fresh fn.results.toList ex s1=some y) {a:Act} {w':World} (u:Rel P (gb w ro c.ps vs J nt) s1 a w') :
  (ex=.normal\/ex=.ret)/\∃ v,(results fn a.tmps).run P w'=.ok v w'/\tC c w ro vs J y (.returned v) w':=by
 obtain⟨W,u⟩:=u;have b9:ex=.normal\/ex=.ret:=by
  cases ex with
  |normal=>exact .inl rfl
  |ret=>exact .inr rfl
  |exit id=>cases r
 refine⟨b9,?_⟩;have r:finR T c.ps c.rs c.fresh fn.results.toList s1=some y:=by
  rcases b9 with rfl|rfl <;> exact r
 unfold finR at r;split at r
 ·rename_i O M cc c2;cases Y:aZ (O.kill++M.kill)&&dz (O.frz++M.frz) (O.kill++M.kill)&&(!c.fresh||!(O.p||M.p)) with
  |false=>rw[Y]at r;cases r
  |true =>
   rw[Y]at r;simp only[cond_true,BD]at r;subst r;simp only[BF]at Y;obtain⟨⟨bl,c0⟩,bb⟩:=Y;let N:Nat->Prop:=λk=>W.nw k\/∃ z∈O.frz++M.frz,k∈W.bs z.1 z.2
   have hG:∀ (p:Bool) (b5:List (Nat×Nat)),(p=true->(O.p||M.p)=true)->(∀ z∈b5,z∈O.frz++M.frz)->∀ k,bo (gb w ro c.ps vs J nt) W p b5 k->N k\/(c.fresh=false/\ro k):=by
    intro p b5 hp H k I;rcases I with (I|⟨hq,I⟩)|⟨z,Z,I⟩
    ·exact .inl (.inl I)
    ·refine .inr ⟨?_,I⟩;rw[hp hq]at bb;simpa using bb
    ·exact .inl (.inr ⟨z,H z Z,I⟩)
   obtain⟨us,b0,bx,r1,r2,r3,r4,r5,r6,r7⟩:=tY hV hT u rfl c.rs fn.results.toList O cc (G:=λk=>N k\/(c.fresh=false/\ro k)) (hG O.p O.frz (by intro h;simp[h]) (λz H=>BG _ H));obtain⟨b1,o1,o2,o3,o4,o5⟩:=mF hV u hV.nt c.ps x vs J 0 M b4 c2 (by rw[CN];exact bn) (λz H=>u.fixt z H) (λz H=>u.fixb z H) (G:=λk=>N k\/(c.fresh=false/\ro k)) (hG M.p M.frz (by intro h;simp[h]) (λz H=>BH _ H));have a2:∀ z∈O.kill++M.kill,aA s1 z:=λz H=>(BE.1 H).elim (r7 z) (o4 z)
   have a1:∀ z∈O.frz++M.frz,aA s1 z:=λz H=>(BE.1 H).elim (r6 z) (o3 z)
   have a4:∀ k,k<w'.heap.size->¬ (gb w ro c.ps vs J nt).prot k->p8 w w' J.flatten k:=by
    intro k I hp;refine⟨I,?_⟩;by_cases cb:k<w.heap.size
    ·right;apply B8;intro hn;exact hp ⟨cb,hn⟩
    ·exact .inl (by omega)
   have c3:∀ k,N k->p8 w w' J.flatten k:=by
    rintro k (I|⟨z,H,I⟩)
    ·exact a4 k (u.nwlt k I).1 (u.nwlt k I).2
    ·obtain⟨l,h7,h8⟩:=a1 z H;exact a4 k (u.own_lt h7 h8 k I) (u.ownb z.1 z.2 l h7 h8 k I).2.1
   have X:∀ b∈bx++bH 0 c.ps,live s1 b:=λb R=>(BE.1 R).elim (λR=>(r4 b R).1) (o5 b)
   have ba:(bx++bH 0 c.ps).Nodup:=by
    rw[CK];refine⟨?_,(rN c.ps 0).1,λb R b' a9 e=>?_⟩
    ·have:=Bz c4;rw[<- r5]at this
     match bx,this with
     |[],_=>exact Ca
     |[b],_=>simp
    ·subst e;have:=Cc.1 (r4 b R).2 b a9;simp at this
   have ad:=rO (β:=W.β) ba (λb R b' a9 e=>u.inj b b' (X b R) (X b' a9) e);have a5:∀ k,(b1.flatten++b0.flatten).count k=(aW W (O.kill++M.kill)).count k+((bx++bH 0 c.ps).map W.β).count k:=λk=>by
    rw[BX,o2 k,r3 k,dG,BX,CU,BX];omega
   have c1:=bu.1 (gN u bl a2);have a6:∀ k∈b1.flatten++b0.flatten,(∃ z∈O.kill++M.kill,k∈W.bs z.1 z.2)\/∃ b,live s1 b/\W.β b=k:=λk I=>by
    have h5:=BZ.2 I;rw[a5 k]at h5;by_cases h6:k∈aW W (O.kill++M.kill)
    ·exact .inl (gj.1 h6)
    ·have:=Cb.2 h6;obtain⟨b,R,e⟩:=BO.1 (BZ.1 (show 0<((bx++bH 0 c.ps).map W.β).count k by omega));exact .inr ⟨b,X b R,e⟩
   refine⟨_,uJ r1,_,us,N,b1,b0,rfl,By us,u.size,u.os,u.tape,u.output,λk h1 h2=>u.keep k ⟨h1,h2⟩,c3,o1,r2,bu.2 λk=>?_,λk I=>?_⟩
   ·rw[a5 k];have h5:=c1 k;have h6:=bu.1 ad k;by_cases h7:k∈(bx++bH 0 c.ps).map W.β
    ·have:(aW W (O.kill++M.kill)).count k=0:=Cb.2 λhm=>by
      obtain⟨b,R,e⟩:=BO.1 h7;obtain⟨z,H,a0⟩:=gj.1 hm;obtain⟨l,hl,ho⟩:=a2 z H;exact (u.ownb z.1 z.2 l hl ho k a0).2.2 b (X b R) e
     omega
    ·have:=Cb.2 h7;omega
   ·rcases a6 k I with ⟨z,H,a0⟩|⟨b,R,e⟩
    ·obtain⟨l,hl,ho⟩:=a2 z H;have h9:=u.ownb z.1 z.2 l hl ho k a0;refine⟨a4 k (u.own_lt hl ho k a0) h9.2.1,?_⟩;rintro (hn|⟨z',Z,a3⟩)
     ·exact h9.1 hn
     ·obtain⟨l',b2,b3⟩:=a1 z' Z;obtain⟨e1,e2⟩:=u.sep z.1 z.2 l z'.1 z'.2 l' hl ho b2 b3 k a0 a3;exact nO c0 z' Z (by rw[show z'=z from Prod.ext e1.symm e2.symm];exact H)
    ·subst e;have h9:=u.box b R;refine⟨a4 _ (u.box_lt R) h9.2,?_⟩;rintro (hn|⟨z',Z,a3⟩)
     ·exact h9.1 hn
     ·obtain⟨l',b2,b3⟩:=a1 z' Z;exact (u.ownb z'.1 z'.2 l' b2 b3 _ a3).2.2 b R rfl
 ·cases r
theorem kh:∀ {ps:List PK} {u:List Value} {t:Nat} {z:Nat×Value},z∈d9 t ps u->z.1∈gi t ps
 |[],_,_,_,h=>by simp[d9]at h
 |r::ps,[],_,_,h=>by cases r <;> simp[d9]at h
 |r::ps,v::u,t,z,h=>by
  cases r <;> simp only[d9,gi,BR]at h ⊢ <;> first
   |exact kh h
   |exact h.imp (λe=>by rw[e]) kh
theorem ki:∀ {ps:List PK} {u:List Value} {t:Nat} {z:Nat×Nat},z∈d8 t ps u->z.1∈bH t ps
 |[],_,_,_,h=>by simp[d8]at h
 |r::ps,[],_,_,h=>by cases r <;> simp[d8]at h
 |r::ps,v::u,t,z,h=>by
  cases r <;> simp only[d8,bH,BR]at h ⊢ <;> first
   |exact ki h
   |exact h.imp (λe=>by rw[e]) ki
theorem dZ {f:FuncId}{fn:Func}{c:Code}(y:P.funcs[f]?=some fn)(z:(fn.name== "runtime.NumGoroutine")=false) (H:fn.body=some c):fQ P f:=by
 intro u w;have r:fn.name≠ "runtime.NumGoroutine" := by simpa using z
 simp[callFunc,y,r,H]
theorem pj (hT:TOk P T)(hΓ:∀ c∈Γ,bO P c)(Z:P.follows .mixedOrders=true){c:Ctr}{fn:Func}(hf:P.funcs[c.f]?=some fn)(hn:(fn.name== "runtime.NumGoroutine")=false)
  {L:List (Nat×List (Nat×List Coe))} {X:Nat} (Y:fn.body.isSome=true) (a0:∀ x,evF Γ T L X fn c.ps c.rs c.fresh x=c.den x):bO P c:=by
 obtain⟨u,Y⟩:=Option.isSome_iff_exists.1 Y;refine⟨dZ hf hn Y,λw ro x vs a3 y H a5 a4 J=>?_⟩;rw[<- a0]at J;unfold evF at J;simp only[Y]at J;cases r:dN fn.ntmps (gi 0 c.ps) u&&Cp c.ps.length fn.ntmps&&Cp fn.ntmps GH&&qo c.rs&&dl L (bH 0 c.ps) u with
 |false=>simp[r]at J
 |true =>
  simp only[r,cond_true]at J;simp only[BF]at r;obtain⟨⟨⟨⟨h1,h2⟩,h3⟩,h4⟩,h5⟩:=r;have h2:=B9 h2;have h3:=B9 h3;have hV:ay (gb w ro c.ps vs a3 fn.ntmps):=⟨λk hk=>a5 k hk,h3⟩;have R:=vz (P:=P) (ro:=ro) H a4 h2 h3;refine calls_of_wp hf Y ?_;rw[C3];refine sm hV hT hΓ Z (λz hz=>ki hz) (nt:=fn.ntmps) (fix:=gi 0 c.ps) rfl (λz hz=>kh hz) u h1 h5 _ _ y _ J (λex s1 M a' w' hr=>?_) _ _ R;obtain⟨a2,v,O,I⟩:=yi hT h4 hV H h2 M hr;have a1:a'.defers=[]:=by obtain⟨W,hr⟩:=hr;exact hr.df
  rcases a2 with rfl|rfl <;> exact⟨a1,v,O,I⟩
end
section
variable {P:Program}
def szB (P:Program)(t:TypeId)(n:Nat):Bool :=
 match P.info? t with
 |some i=>BM i.size n
 |none=>false
theorem fO {t:TypeId}{n:Nat}(h:szB P t n=true):bP P t n:=by
 unfold szB at h;unfold bP;split at h
 ·rename_i i r;rw[r];simp only[B6];rw[BK h]
 ·cases h
def tZ (P:Program)(t:TypeId)(agg:Bool):Bool :=
 match P.underlying t with
 |some (.struct _)|some (.array _ _)=>agg
 |some _=>!agg
 |none=>false
theorem qR {t:TypeId}{agg:Bool}(h:tZ P t agg=true):(P.underlying t).map (λd=>match d with|.struct _|.array _ _=>true|_=>false)=some agg:=by
 unfold tZ at h;split at h
 ·rename_i r;rw[r];simp[h]
 ·rename_i r;rw[r];simp[h]
 ·rename_i d y u r;rw[r];simp only[B6,BD];cases agg with
  |true=>cases h
  |false =>
   cases d <;> first|rfl|(exact absurd r (y _))|(exact absurd r (u _ _))
 ·cases h
theorem AM {t:TypeId}{agg:Bool}(h:(P.underlying t).map (λd=>match d with|.struct _|.array _ _=>true|_=>false)=some agg)(w:World):(isAgg t).run P w=.ok agg w:=by
 unfold isAgg;cases r:P.underlying t with
 |none=>simp[r]at h
 |some u =>
  rw[r]at h;simp only[B6,BD]at h;subst h;rw[CR,run_underlying r w];cases u <;> rfl
def lP (P:Program)(f:Field)(off:Nat)(b:Ty):Bool:=(f.name != "_")&&BM f.offset off&&szB P f.type b.cells&&tZ P f.type b.isAgg
def eqF (P:Program)(g:Ty->TypeId->Bool):List Field->Nat->Ty->Bool
 |[],_,_=>false
 |[f],off,b=>lP P f off b&&g b f.type
 |f::r,off,.pair b c=>lP P f off b&&g b f.type&&eqF P g r (off+b.cells) c
 |_,_,_=>false
def eqT (P:Program):Nat->Ty->TypeId->Bool
 |0,_,_=>false
 |n+1,a,t=>match a with
  |.int k=>(match P.underlying t with|some (.int k')=>decide (k'=k)|_=>false)
  |.bool=>(match P.underlying t with|some .bool=>true|_=>false)
  |.str=>(match P.underlying t with|some .string=>true|_=>false)
  |.pair b c=>(match P.underlying t with|some (.struct fs)=>!P.stoodInHeld t&&eqF P (eqT P n) fs.toList 0 (.pair b c)|_=>false)
  |_=>false
theorem zx:∀ (b:Ty),b.isAgg=false->b.cells=1
 |.int _,_=>rfl
 |.bool,_=>rfl
 |.str,_=>rfl
 |.list _ _ _,_=>rfl
 |.hdr,_=>rfl
 |.unit,h=>by cases h
 |.pair _ _,h=>by cases h
theorem mG {f:Field}{off:Nat}{b:Ty}(h:lP P f off b=true){xs p c s:List Value}(J:xs=p++c++s)(M:p.length=off)(I:c.length=b.cells)(w:World) :
  ∃ v,(part f.type xs.toArray f.offset).run P w=.ok v w/\de b.isAgg v c:=by
 unfold lP at h;simp only[BF]at h;obtain⟨⟨⟨_,y⟩,O⟩,X⟩:=h;have y:=BK y;have r:=AM (qR X) w;have z:=dq (fO O) w;have u:(xs.drop off).take b.cells=c:=by
  rw[J,CA,<- M,List.drop_left,<- I,List.take_left]
 cases H:b.isAgg with
 |true =>
  rw[H]at r;refine⟨.agg c.toArray,?_,rfl⟩;have e:xs.toArray.extract off (off+b.cells)=c.toArray:=by
   rw[List.extract_toArray,List.extract_eq_take_drop,Nat.add_sub_cancel_left,u]
  simp only[part,CR,r,CL,if_true,z,C0,y,e]
 |false =>
  rw[H]at r;have R:=zx b H;rw[R]at I
  match c,I with
  |[v],_ =>
   refine⟨v,?_,rfl⟩;have e:xs.toArray[off]?=some v:=by
    simp only[List.getElem?_toArray];rw[J,CA,B5 (by omega)];simp[M]
   simp only[part,CR,r,CL,CW,if_false,y,e,C0]
def zR (P:Program)(d:Nat)(b:Ty)(t:TypeId):Prop:=∀ (w:World) (G:Nat->Prop) (x y:b.den) (u z:Value) (H r:List Value),de b.isAgg u H->Rd w G b x H->de b.isAgg z r->Rd w G b y r ->
 (Op.equalIn d t u z).run P w=.ok (b.eqv x y) w
theorem yj {d:Nat}{g:Ty->TypeId->Bool}(hg:∀ b t,g b t=true->zR P d b t):∀ (fs:List Field) (off:Nat) (b:Ty),eqF P g fs off b=true->∀ (w:World) (G:Nat->Prop) (x y:b.den) (r J u R:List Value),
  r.length=off->u.length=off->Rd w G b x J->Rd w G b y R->(Op.eqFields d (r++J).toArray (u++R).toArray fs).run P w=.ok (b.eqv x y) w
 |[],_,_,h=>by simp[eqF]at h
 |[f],off,b,h=>by
  intro w G x y r J u R H z hx hy;simp only[eqF,BF]at h;obtain⟨v1,h1,h2⟩:=mG h.1 (xs:=r++J) (p:=r) (c:=J) (s:=[]) (by simp) H hx.len w;obtain⟨v2,h3,h4⟩:=mG h.1 (xs:=u++R) (p:=u) (c:=R) (s:=[]) (by simp) z hy.len w;have h5:=hg b f.type h.2 w G x y v1 v2 J R h2 hx h4 hy;have hn:f.name≠ "_" := by
   have:=h.1;unfold lP at this;simp only[BF]at this;simpa using this.1.1.1
  simp only[Op.eqFields,if_pos hn,CR,h1,h3,h5,CL];cases b.eqv x y <;> simp
 |f::X::fs,off,.pair b c,h=>by
  intro w G x y r J u R H z hx hy;simp only[eqF,BF]at h;obtain⟨⟨Y,a0⟩,I⟩:=h;obtain⟨c1,c2,rfl,M,a2⟩:=hx;obtain⟨Z,d2,rfl,O,a1⟩:=hy;obtain⟨v1,h1,h2⟩:=mG Y (xs:=r++(c1++c2)) (p:=r) (c:=c1) (s:=c2) (by simp) H M.len w;obtain⟨v2,h3,h4⟩:=mG Y (xs:=u++(Z++d2)) (p:=u) (c:=Z) (s:=d2) (by simp) z O.len w;have h5:=hg b f.type a0 w G x.1 y.1 v1 v2 c1 Z h2 M h4 O;have h6:=yj hg (X::fs) (off+b.cells) c I w G x.2 y.2 (r++c1) c2 (u++Z) d2 (by simp[H,M.len]) (by simp[z,O.len]) a2 a1;rw[CA,CA]at h6;have hn:f.name≠ "_" := by
   unfold lP at Y;simp only[BF]at Y;simpa using Y.1.1.1
  rw[Op.eqFields];simp only[if_pos hn,CR,h1,h3,h5,CL];show _=Result.ok (b.eqv x.1 y.1&&c.eqv x.2 y.2) w;cases b.eqv x.1 y.1 with
  |false=>simp
  |true=>simpa using h6
 |f::X::fs,off,.int _,h=>by simp[eqF]at h
 |f::X::fs,off,.bool,h=>by simp[eqF]at h
 |f::X::fs,off,.str,h=>by simp[eqF]at h
 |f::X::fs,off,.unit,h=>by simp[eqF]at h
 |f::X::fs,off,.list _ _ _,h=>by simp[eqF]at h
 |f::X::fs,off,.hdr,h=>by simp[eqF]at h
theorem rP (x y:ByteArray):(x==y)=decide (x=y):=by
 rw[beq_toListBytes];by_cases h:x=y
 ·subst h;simp
 ·rw[decide_eq_false h];cases r:(x.toList==y.toList) with
  |false=>rfl
  |true =>
   exfalso;apply h;have:=eq_of_beq r;rw[Ct,Ct]at this;apply ByteArray.ext;exact Array.ext' this
theorem yk:∀ (n:Nat) (a:Ty) (t:TypeId),eqT P n a t=true->∀ d,n<=d->zR P d a t
 |0,_,_,h=>by simp[eqT]at h
 |n+1,a,t,h=>by
  intro d hd;obtain⟨d,rfl⟩:∃ d',d=d'+1:=⟨d-1,by omega⟩;intro w G x y O R J M u H r z;cases a with
  |int k =>
   simp only[eqT]at h;split at h
   ·rename_i Z I;have hk:=of_decide_eq_true h;subst hk;have H:J=[.int Z x]:=H;have z:M=[.int Z y]:=z;have u:J=[O]:=u;have r:M=[R]:=r;rw[H]at u;rw[z]at r;simp at u r;subst u;subst r;simp[Op.equalIn,run_underlying I,Ty.eqv];rfl
   ·cases h
  |bool =>
   simp only[eqT]at h;split at h
   ·rename_i I;have H:J=[.bool x]:=H;have z:M=[.bool y]:=z;have u:J=[O]:=u;have r:M=[R]:=r;rw[H]at u;rw[z]at r;simp at u r;subst u;subst r;simp[Op.equalIn,run_underlying I,Ty.eqv]
   ·cases h
  |str =>
   simp only[eqT]at h;split at h
   ·rename_i I;have H:J=[.string x]:=H;have z:M=[.string y]:=z;have u:J=[O]:=u;have r:M=[R]:=r;rw[H]at u;rw[z]at r;simp at u r;subst u;subst r;have:=rP x y;simp[Op.equalIn,run_underlying I,Ty.eqv,this]
   ·cases h
  |pair b c =>
   simp only[eqT]at h;split at h
   ·rename_i X I;simp only[BF,CH]at h;have Y:P.fieldsOf t=X:=by simp[Program.fieldsOf,I]
    have u:O=.agg J.toArray:=u;have r:R=.agg M.toArray:=r;subst u;subst r;rw[run_equalIn_struct (P:=P) w d t _ _ (by rw[Y];exact I) h.1,Y];have:=yj (P:=P) (λb t hb=>yk n b t hb d (by omega)) X.toList 0 (.pair b c) h.2 w G x y [] J [] M rfl rfl H z;simpa using this
   ·cases h
  |unit=>simp[eqT]at h
  |hdr=>simp[eqT]at h
  |list m E e=>simp[eqT]at h
theorem AN {t:TypeId}{a:Ty}(h:eqT P 64 a t=true)(u:a.isAgg=true):EqAt P t a:=by
 intro _ w G x y z r H I;have:=yk 64 a t h Op.maxDepth (by decide) w G x y (.agg z.toArray) (.agg r.toArray) z r (by rw[u];rfl) H (by rw[u];rfl) I;exact this
def wM:Value->Value->Bool
 |.int k n,.int z u=>decide (k=z)&&decide (n=u)
 |.bool b,.bool y=>b==y
 |.string s,.string r=>decide (s.toList=r.toList)
 |.slice none 0 0,.slice none 0 0=>true
 |.pointer none,.pointer none=>true
 |.nilFunc,.nilFunc=>true
 |_,_=>false
def kY:List Value->List Value->Bool
 |[],[]=>true
 |v::y,u::r=>wM v u&&kY y r
 |_,_=>false
theorem zy {v u:Value}(h:wM v u=true):v=u:=by
 unfold wM at h;split at h
 ·simp only[BF,decide_eq_true_eq]at h;rw[h.1,h.2]
 ·rw[eq_of_beq h]
 ·rename_i s r;have:s=r:=by
   have y:=rP s r;rw[beq_toListBytes,of_decide_eq_true h]at y;simpa using y.symm
  rw[this]
 ·rfl
 ·rfl
 ·rfl
 ·cases h
theorem mH:∀ {r us:List Value},kY r us=true->r=us
 |[],[],_=>rfl
 |v::r,u::us,h=>by
  simp only[kY,BF]at h;rw[zy h.1,mH h.2]
 |[],_::_,h=>by simp[kY]at h
 |_::_,[],h=>by simp[kY]at h
def zB (P:Program)(t:TypeId)(agg:Bool)(cs:List Value):Bool :=
 match P.info? t with
 |some i=>match i.zero with
  |some (.agg r)=>agg&&kY r.toList cs
  |some v=>!agg&&kY [v] cs
  |none=>false
 |none=>false
theorem yl {t:TypeId}{cs:List Value}(h:zB P t true cs=true):d5 P t (.agg cs.toArray):=by
 unfold zB at h;unfold d5;split at h
 ·rename_i i r;rw[r];split at h
  ·rename_i y u;simp only[Cv]at h;rw[B6,u,<- mH h,Array.toArray_toList]
  ·cases h
  ·cases h
 ·cases h
theorem lQ {t:TypeId}{v:Value}(h:zB P t false [v]=true):d5 P t v:=by
 unfold zB at h;unfold d5;split at h
 ·rename_i i r;rw[r];split at h
  ·cases h
  ·rename_i u _ y;simp only[DD,Cv]at h;have:=mH h;simp only[Cj,and_true]at this;rw[B6,y,this]
  ·cases h
 ·cases h
def ko (P:Program)(n:Nat):List Field->List (Nat×Nat×Bool)->Bool
 |[],[]=>true
 |f::r,(off,k,agg)::u=>BM f.offset off&&szB P f.type k&&tZ P f.type agg&&Ci 0 k&&Cp (off+k) n&&(agg||BM k 1)&&ko P n r u
 |_,_=>false
def isU8:Ty->Bool
 |.int .u8=>true
 |_=>false
def u8B (P:Program)(E:TypeId):Bool :=
 match P.underlying E with
 |some (.int .u8)=>true
 |_=>false
def tiB (P:Program)(t:TypeId):TI->Bool
 |.int k=>(match P.underlying t with|some (.int k')=>decide (k'=k)|_=>false)&&szB P t 1&&zB P t false [.int k 0]
 |.bool=>(match P.underlying t with|some .bool=>true|_=>false)&&szB P t 1&&zB P t false [.bool false]
 |.str=>(match P.underlying t with|some .string=>true|_=>false)&&szB P t 1&&zB P t false [.string ByteArray.empty]
 |.slice E e r=>(match P.underlying t with|some (.slice E')=>BM E' E|_=>false)&&szB P t 1&&zB P t false [.slice none 0 0]&&Ci 0 e.cells&&Ci 0 r &&
  szB P E e.cells&&(match P.info? E with | some i=>BM i.bytes r&&(match i.zero with | some z=>kY z.cells.toList (zeroCells e) | none=>false) | none=>false)&&(!isU8 e||u8B P E)
 |.arr e n=>(match P.underlying t with|some (.array m E)=>BM m n&&szB P E e.cells&&tZ P E e.isAgg|_=>false)&&Ci 0 e.cells&&szB P t (n*e.cells)&&zB P t true (List.replicate n (zeroCells e)).flatten
 |.struct a u=>(match P.underlying t with | some (.struct y)=>ko P a.cells y.toList u | _=>false)&&szB P t a.cells&&zB P t true (zeroCells a)&&a.isAgg&&(!a.flat||eqT P 64 a t)&&!P.eqGuardType P.depth t
 |.ptr=>(match P.underlying t with|some (.pointer _)=>true|_=>false)&&szB P t 1&&zB P t false [.pointer none]
 |.fn=>(match P.underlying t with|some (.func _ _ _)=>true|_=>false)&&szB P t 1&&zB P t false [.nilFunc]
 |.none=>true
theorem qk {n:Nat}:∀ {fs:List Field} {xs:List (Nat×Nat×Bool)},ko P n fs xs=true ->
  fs.mapM (λf=>(P.info? f.type).map λi=>(f.offset,i.size))=some (xs.map λx=>(x.1,x.2.1)) /\
  ∀ (i off k:Nat) (agg:Bool),xs[i]?=some (off,k,agg)->(agg=false->k=1)/\∃ f:Field,fs[i]?=some f/\f.offset=off/\0<k/\off+k<=n/\bP P f.type k /\
   (P.underlying f.type).map (λd=>match d with|.struct _|.array _ _=>true|_=>false)=some agg
 |[],[],_=>⟨rfl,λi off k agg h=>by simp at h⟩
 |[],_::_,h=>by simp[ko]at h
 |_::_,[],h=>by simp[ko]at h
 |f::fs,(off,k,agg)::xs,h=>by
  simp only[ko,BF,CT]at h;obtain⟨⟨⟨⟨⟨⟨H,X⟩,Z⟩,h4⟩,h5⟩,u⟩,O⟩:=h;have H:=BK H;have r:=fO X;obtain⟨h8,h9⟩:=qk O;constructor
  ·unfold bP at r;cases I:P.info? f.type with
   |none=>rw[I]at r;cases r
   |some i =>
    rw[I]at r;simp only[B6,BD]at r;simp[Co,I,h8,r,H]
  ·intro i y k' z J;cases i with
   |zero =>
    simp at J;obtain⟨rfl,rfl,rfl⟩:=J;refine⟨λM=>?_,f,rfl,H,by simpa[CP]using h4,B9 h5,r,qR Z⟩;rcases u with u|u
    ·rw[M]at u;cases u
    ·exact BK u
   |succ i =>
    obtain⟨Y,f',q2,R⟩:=h9 i y k' z (by simpa using J);exact⟨Y,f',by simpa using q2,R⟩
theorem BA {t:TypeId}{i:TI}(h:tiB P t i=true):oM P t i:=by
 cases i with
 |none=>trivial
 |int k =>
  simp only[tiB,BF]at h;obtain⟨⟨r,H⟩,I⟩:=h;split at r
  ·rename_i k' u;rw[of_decide_eq_true r]at u;exact⟨u,fO H,lQ I⟩
  ·cases r
 |bool =>
  simp only[tiB,BF]at h;obtain⟨⟨r,H⟩,I⟩:=h;split at r
  ·rename_i u;exact⟨u,fO H,lQ I⟩
  ·cases r
 |str =>
  simp only[tiB,BF]at h;obtain⟨⟨r,H⟩,I⟩:=h;split at r
  ·rename_i u;exact⟨u,fO H,lQ I⟩
  ·cases r
 |ptr =>
  simp only[tiB,BF]at h;obtain⟨⟨r,H⟩,I⟩:=h;split at r
  ·rename_i e u;exact⟨⟨e,u⟩,fO H,lQ I⟩
  ·cases r
 |fn =>
  simp only[tiB,BF]at h;obtain⟨⟨r,H⟩,I⟩:=h;split at r
  ·rename_i x y z u;exact⟨⟨x,y,z,u⟩,fO H,lQ I⟩
  ·cases r
 |slice E e a0 =>
  simp only[tiB,BF]at h;obtain⟨⟨⟨⟨⟨⟨⟨r,H⟩,I⟩,Z⟩,M⟩,Y⟩,R⟩,J⟩:=h;have a1:e=.int .u8->P.underlying E=some (.int .u8):=by
   intro he;subst he;have J:u8B P E=true:=by simpa[isU8]using J
   unfold u8B at J;split at J
   ·rename_i hq;exact hq
   ·cases J
  split at r
  ·rename_i E' u;rw[BK r]at u;split at R
   ·rename_i ti X;simp only[BF]at R;obtain⟨h8,h9⟩:=R;split at h9
    ·rename_i z hz;have O:=fO Y;unfold bP at O;rw[X]at O;simp only[B6,BD]at O;exact⟨u,fO H,lQ I,by simpa[CP]using Z,⟨by simpa[CP]using M,a1⟩,ti,z,X,O,BK h8,hz,mH h9⟩
    ·cases h9
   ·cases R
  ·cases r
 |arr e n =>
  simp only[tiB,BF]at h;obtain⟨⟨⟨r,H⟩,I⟩,Z⟩:=h;split at r
  ·rename_i m E u;simp only[BF]at r;obtain⟨⟨M,Y⟩,R⟩:=r;rw[BK M]at u;exact⟨⟨E,u,fO Y,qR R⟩,by simpa[CP]using H,fO I,yl Z⟩
  ·cases r
 |struct a a2 =>
  simp only[tiB,BF,CT,CH]at h;obtain⟨⟨⟨⟨⟨r,H⟩,I⟩,Z⟩,M⟩,Y⟩:=h;split at r
  ·rename_i fs u;obtain⟨R,h8⟩:=qk r;refine⟨⟨fs,u,R,λi off n agg hx=>?_⟩,fO H,yl I,?_,Y⟩
   ·obtain⟨q1,f,q2,q3⟩:=h8 i off n agg hx;exact⟨q1,f,by simpa using q2,q3⟩
   ·intro hf;rcases M with M|M
    ·rw[hf]at M;cases M
    ·exact AN M Z hf
  ·cases r
def tlB (P:Program):List (TypeId×TI)->Bool
 |[]=>true
 |x::l=>tiB P x.1 x.2&&tlB P l
theorem jd:∀ {l:List (TypeId×TI)},tlB P l=true->TOk P (gB l):=by
 intro l h;refine sA ?_;induction l with
 |nil=>simp
 |cons x l u =>
  simp only[tlB,BF]at h;intro y r;rcases BR.1 r with rfl|r
  ·exact BA h.1
  ·exact u h.2 y r
end
section
variable {P:Program} {T:TypeId->TI}
theorem kZ (hT:TOk P T)(O:P.follows .mixedOrders=true){f:FuncId}{fn:Func}(hf:P.funcs[f]?=some fn)(hn:(fn.name== "runtime.NumGoroutine")=false) {E:TypeId} {e:Ty} {rs:List RK} {r:Bool}
  {M:ab [PK.rd (.list false E e)]->Option (ai rs×ah [PK.rd (.list false E e)])} {R0 A B C:Code} {rid:Nat} {o0 o1:Oper} {d0 q t t':Nat} {x0:Operand} {L:List (Nat×List (Nat×List Coe))} {K:Nat}
  (hb:fn.body=some (.seq R0 (.seq (.seq (.region rid #[o0,o1] false) (.cond (.tmp q) A B)) C))) (bl:o0.guard=none) (dc:o0.op=.move x0) (bb:o1.op=.binOp .eql t (.tmp d0) (.const (.slice none 0 0)) t') (d2:o1.guard=none) (a6:o1.dst=some q)
  {E':TypeId} (ht:P.underlying t=some (.slice E'))
  (a4:(dN fn.ntmps [] (.seq R0 (.seq (.seq (.region rid #[o0,o1] false) (.cond (.tmp q) A B)) C))&&Cp 1 fn.ntmps&&Cp fn.ntmps GH&&qo rs&&dl L [] (.seq R0 (.seq (.seq (.region rid #[o0,o1] false) (.cond (.tmp q) A B)) C)))=true)
  {S1:ab [PK.rd (.list false E e)]->St}
  (bx:∀ x,evK [] T L K R0 (av (c7 0 [PK.rd (.list false E e)] x)) (oL (λs _=>act [] T o0 s (λU=>some (ac U s))) (λ_ _=>none))=some (S1 x))
  (R:∀ x,one (S1 x) (.tmp d0)=.ro true E e x.1)
  (hF:∀ x,evK [] T L K (.seq (.cond (.tmp q) A B) C) (ac (cf (S1 x) [] q .one [.bool false]) (S1 x)) (c5 T [PK.rd (.list false E e)] rs r fn.results.toList)=M x)
  (c4:∀ x y,x.1=[]->M x=some y->evK [] T L K (.seq (.cond (.tmp q) A B) C) (ac (cf (S1 x) [] q .one [.bool true]) (S1 x)) (c5 T [PK.rd (.list false E e)] rs r fn.results.toList)=some y) :
  bO P ⟨f,[PK.rd (.list false E e)],rs,r,M⟩:=by
 refine⟨dZ hf hn hb,λw ro x vs u y Y cc d3 hy=>?_⟩;simp only[BF]at a4;obtain⟨⟨⟨⟨h1,h2⟩,h3⟩,h4⟩,h5⟩:=a4;have h2:=B9 h2;have h3:=B9 h3;have hV:ay (gb w ro [PK.rd (.list false E e)] vs u fn.ntmps):=⟨λk hk=>cc k hk,h3⟩;have b5:=vz (P:=P) (ro:=ro) Y d3 h2 h3;have hnoΓ:∀ c∈([]:List Ctr),bO P c:=by simp
 have b0:∀ z∈(gb w ro [PK.rd (.list false E e)] vs u fn.ntmps).fixb,z.1∈([]:List Nat):=λz hz=>ki (ps:=[PK.rd (.list false E e)]) hz
 have Z:∀ z∈(gb w ro [PK.rd (.list false E e)] vs u fn.ntmps).fixt,z.1∈([]:List Nat):=λz hz=>kh (ps:=[PK.rd (.list false E e)]) hz
 simp only[dN,BF]at h1;simp only[dl,BF]at h5;obtain⟨d1,⟨b4,cx⟩,cu⟩:=h1;obtain⟨cp,⟨_,c2⟩,cy⟩:=h5;refine calls_of_wp hf hb ?_;rw[C3];generalize cb:bodyPost P fn (tC ⟨f,[PK.rd (.list false E e)],rs,r,M⟩ w ro vs u y)=Q;have hQ:∀ ex s1,c5 T [PK.rd (.list false E e)] rs r fn.results.toList ex s1=some y->∀ a I,Rel P (gb w ro [PK.rd (.list false E e)] vs u fn.ntmps) s1 a I->Q (exOf ex) a I:=by
  intro ex s1 b9 a' I J;obtain⟨c1,v,a0,b1⟩:=yi (c:=⟨f,[PK.rd (.list false E e)],rs,r,M⟩) hT h4 hV Y h2 b9 J;have cw:a'.defers=[]:=by obtain⟨W,J⟩:=J;exact J.df
  subst cb;rcases c1 with rfl|rfl <;> exact⟨cw,v,a0,b1⟩
 have a9:∀ (b:Bool),evK [] T L K (.seq (.cond (.tmp q) A B) C) (ac (cf (S1 x) [] q .one [.bool b]) (S1 x)) (c5 T [PK.rd (.list false E e)] rs r fn.results.toList)=some y ->
   ∀ a I,Rel P (gb w ro [PK.rd (.list false E e)] vs u fn.ntmps) (ac (cf (S1 x) [] q .one [.bool b]) (S1 x)) a I->(Code.cond (.tmp q) A B).wp P (Exit.then (C.wp P Q) Q) a I:=by
  intro b b2 a I J;refine sm hV hT hnoΓ O b0 (nt:=fn.ntmps) (fix:=[]) rfl Z (.cond (.tmp q) A B) (by simp only[dN,BF];exact cx) (by simp only[dl,BF];exact c2) _ _ y _ b2 (λex s1 H a I J=>?_) a I J;cases ex with
  |normal=>exact sm hV hT hnoΓ O b0 (nt:=fn.ntmps) (fix:=[]) rfl Z C cu cy s1 _ y Q H hQ a I J
  |exit b3=>exact hQ (.exit b3) s1 H a I J
  |ret=>exact hQ .ret s1 H a I J
 have a5:∀ (i:Nat) (o:Oper),(#[o0,o1]:Array Oper)[i]?=some o->lC fn.ntmps [] #[o0,o1] o=true:=λi o hi=>by
  simp only[B3]at b4;exact b4 o (by simpa using Cl hi)
 refine wp_seq (sm hV hT hnoΓ O b0 (nt:=fn.ntmps) (fix:=[]) rfl Z R0 d1 cp _ _ (S1 x) _ (bx x) (λex s0 H a I J=>?_) _ _ b5);cases ex with
 |exit b3=>cases H
 |ret=>cases H
 |normal =>
  have H:act [] T o0 s0 (λU=>some (ac U s0))=some (S1 x):=H;rw[tJ]at H;obtain⟨U,hU,H⟩:=CB.1 H;simp only[BD]at H;refine wp_seq (wp_seq (wp_region ?_));have a2:DC (#[o0,o1]:Array Oper).size=[0,1]:=rfl;rw[a2,wpOps_cons];refine wJ hV hT hnoΓ (ops:=#[o0,o1]) (i:=0) (o:=o0) rfl (mD rfl Z (a5 0 o0 rfl)) (λj dd hg=>by rw[bl]at hg;cases hg) (U:=U) (by unfold mA;rw[bl];exact hU) J (λa1 w1 X=>?_);rw[H]at X;rw[wpOps_cons];obtain⟨W1,X⟩:=X;have a3:bM (gb w ro [PK.rd (.list false E e)] vs u fn.ntmps) o1:=mD rfl Z (a5 1 o1 rfl);obtain⟨h7,_,_,_,_⟩:=bt X (.tmp d0) (by rw[R x];simp);rw[R x]at h7;obtain⟨A',bn,hv,_,c3⟩:=h7;have hv:a1.eval (.tmp d0)=.slice A' x.1.length bn:=by simpa using hv
  have ba:A'=none->x.1=[]:=λhA=>by
   cases hx:x.1 with
   |nil=>rfl
   |cons y ys =>
    obtain⟨g,o,c0,_⟩:=c3 (by rw[hx];simp);rw[hA]at c0;cases c0
  have b2:evK [] T L K (.seq (.cond (.tmp q) A B) C) (ac (cf (S1 x) [] q .one [.bool A'.isNone]) (S1 x)) (c5 T [PK.rd (.list false E e)] rs r fn.results.toList)=some y:=by
   cases hA:A' with
   |none=>exact c4 x y (ba hA) hy
   |some ad=>exact (hF x).trans hy
  have a0:(execOp a1.eval o1).run P w1=.ok (.value (.bool A'.isNone)) w1:=by
   have:=Lib.run_eql_slice_nil (P:=P) w1 t E' A' x.1.length bn 0 0 ht;have hc:a1.eval (.const (.slice none 0 0))=.slice none 0 0:=rfl;simp[execOp,bb,hv,hc,eqGuard,this]
  unfold wpOp;have hi:(#[o0,o1]:Array Oper)[1]?=some o1:=rfl;simp only[hi];have hw:Region.wanted o1 (yielded #[o0,o1] a1.tmps)=true:=by simp[Region.wanted,d2]
  rw[if_pos hw];refine .inl (dW a0 ?_);rw[a6];show Exit.then _ _ _ _ _;exact a9 _ b2 _ _ (X.putLs hV q (a3 q a6).1 (a3 q a6).2 _ .one [.bool A'.isNone] (.bool A'.isNone) [.bool A'.isNone] (CM _) rfl ⟨⟨rfl,id,rfl⟩,trivial⟩)
end
open Go.ChangeShapes Go.WideShapes
section
variable {H:Type} {enc:TypeId×Value->H} {P:Program}
theorem mK (J:laidOutB P=true){W W':World}{M:Nat->Bool}:∀ {y:List TypeId} {z:List Value} {ds:List (DataW H)} {ps:List MemPlace},(∀ t∈y,P.readableRec t=true/\t<P.types.size) ->
  DataW.TrodAll enc P W 0 (λ_=>true) true y z ds ps->(∀ x∈ps,W.sameAt W' x)->(∀ x∈ps,M x.block=true)->DataW.TrodAll enc P W' 0 M true y z ds ps
 |[],[],[],_,_,h,_,_=>h
 |[],[],_::_,_,_,h,_,_=>h.elim
 |[],_::_,_,_,_,h,_,_=>h.elim
 |_::_,[],_,_,_,h,_,_=>h.elim
 |_::_,_::_,[],_,_,h,_,_=>h.elim
 |t::y,v::z,d::ds,ps,I,⟨p,q,Y,X,e⟩,O,u=>by
  subst e;refine⟨p,q,WideElems.Trod_stays J (I t (BJ ..)).1 (I t (BJ ..)).2 Y (λx r=>O x (BG _ r)) (λx r=>u x (BG _ r)),
   mK J (λZ R=>I Z (BI _ R)) X (λx r=>O x (BH _ r)) (λx r=>u x (BH _ r)),rfl⟩
theorem rY (hl:laidOutB P=true){f:Func}{s:ChangeSpec}{z a0 u Y:Bool}{W W':World}{J:Array Value}{ds gs:List (DataW H)}{r:List MemPlace}
  (hW:DataW.Whole enc P f.params.toList s.vars z W J.toList ds gs r) (y:s.vars=[]) (hb:Below W.heap.size W W') (O:∀ t∈f.params.toList,P.readableRec t=true/\t<P.types.size)
  {tb:TypeId} (a1:f.resultTypes=#[tb]) (I:P.underlying tb=some .bool) (a2:(s.fn H (ds++gs)).results=[.lit (.bool true)]) (X:(s.fn H (ds++gs)).args=ds) (a6:(s.fn H (ds++gs)).vars=[]) :
  s.post enc P f z a0 u Y W J (.bool true) W':=by
 have R:∀ p∈r,p.block<W.heap.size:=λp hp=>by simpa using hW.lt p hp
 have a5:=hW;obtain⟨p,q,hA,hV,e,hz,hn⟩:=hW;rw[y]at hV;obtain⟨rfl,rfl⟩:=trodVars_none hV;simp only[List.append_nil]at e;subst e;have Z:∀ x∈r,W.sameAt W' x:=λx hx=>hb.same (R x hx)
 have a3:(Value.bool true).resultList f.resultTypes.size=[.bool true]:=by rw[a1];rfl
 have hr:∀ (b:Nat) (M:Nat->Bool) (hd:Bool),DataW.TrodAll enc P W' b M hd f.resultTypes.toList ((Value.bool true).resultList f.resultTypes.size) (s.fn H (ds++[])).results []:=by
  intro b M hd;rw[a3,a2,a1];exact trodAll_mk1 (shut_bool I true)
 have ha:∀ (M:Nat->Bool),(∀ x∈r,M x.block=true)->DataW.TrodAll enc P W' 0 M true f.params.toList J.toList (s.fn H (ds++[])).args r:=by
  intro M a9;rw[X];exact mK hl O hA Z a9
 have hv:∀ (M:Nat->Bool),DataW.TrodVars enc P W' M s.vars (s.fn H (ds++[])).vars []:=by
  intro M;rw[y,a6];rfl
 refine⟨ds,[],r,[],r,[],a5,hr _ _ _,ha _ (λx hx=>by simpa using R x hx),hv _,hb.frame _,λ_=>⟨ok_one a1 rfl (okWide_bool_mk I true),_,_,([]++r)++[],⟨[]++r,[],trodAll_append (ha _ (λ_ _=>rfl)) (hr _ _ _),hv _,rfl,?_,?_⟩,?_⟩⟩
 ·intro b off hp;have hp:MemPlace.cell b off∈r:=by simpa using hp
  rw[hb.frozen (p:=⟨b,off,none⟩) (R _ hp)];exact hz b off hp
 ·intro a4;have:=hn a4;simpa using this
 ·intro x hx _;simpa using hx
end
section
variable {H:Type} {enc:TypeId×Value->H} {P:Program} {w:World} {base:Nat} {spare:Nat->Bool} {held:Bool}
def shF (P:Program)(g:Ty->TypeId->Bool):List Field->Nat->Ty->Bool
 |[],_,_=>false
 |[f],off,b=>BM f.offset off&&BM (P.cellsOf f.type) b.cells&&g b f.type
 |f::r,off,.pair b c=>BM f.offset off&&BM (P.cellsOf f.type) b.cells&&g b f.type&&shF P g r (off+b.cells) c
 |_,_,_=>false
def shT (P:Program):Nat->Ty->TypeId->Bool
 |0,_,_=>false
 |n+1,a,t=>match a with
  |.int k=>(match P.underlying t with|some (.int k')=>decide (k'=k)|_=>false)
  |.bool=>(match P.underlying t with|some .bool=>true|_=>false)
  |.str=>(match P.underlying t with|some .string=>true|_=>false)
  |.pair b c=>(match P.underlying t with|some (.struct fs)=>shF P (shT P n) fs.toList 0 (.pair b c)&&BM (P.cellsOf t) (b.cells+c.cells)|_=>false)
  |.list _ E e=>(match P.underlying t with|some (.slice E')=>BM E' E&&BM (P.cellsOf E) e.cells&&Ci 0 e.cells&&shT P n e E|_=>false)
  |.unit=>false
  |.hdr=>false
def Sm:(a:Ty)->a.den->Prop
 |.int k,n=>(Lit.int k n).wf=true
 |.pair a b,x=>Sm a x.1/\Sm b x.2
 |.list _ _ e,r=>r.length<=maxLen/\∀ x∈(r:List e.den),Sm e x
 |.bool,_=>True
 |.str,s=>s.size<=maxLen
 |.unit,_=>True
 |.hdr,_=>True
theorem k6 {α β:Type}{f:α->Option β}:∀ (l:List α) (r:List β),l.mapM f=some r->r.length=l.length/\∀ (i:Nat) (x:α),l[i]?=some x->∃ y,f x=some y/\r[i]?=some y
 |[],r,h=>by
  simp at h;subst h;exact⟨rfl,λi x M=>by simp at M⟩
 |x::l,r,h=>by
  rw[Co]at h;cases z:f x with
  |none=>rw[z]at h;cases h
  |some y =>
   rw[z]at h;cases I:l.mapM f with
   |none=>rw[I]at h;cases h
   |some X =>
    rw[I]at h;cases h;obtain⟨R,O⟩:=k6 l X I;refine⟨by simp[R],λi u J=>?_⟩;cases i with
    |zero=>simp at J;subst J;exact⟨y,z,rfl⟩
    |succ i=>simpa using O i u (by simpa using J)
theorem rQ {a:Addr}{n:Nat}{cs:List Value}(h:w.cells? base a n=some cs):base<=a.block/\cs.length=n/\∀ i u,cs[i]?=some u->w.cell? (a.add i)=some u:=by
 unfold World.cells? at h;split at h
 ·rename_i R;obtain⟨I,M⟩:=k6 _ _ h;refine⟨R,by simpa using I,λi u z=>?_⟩;have J:i<n:=by have:=(BN.1 z).1;rw[I]at this;simpa using this
  obtain⟨y,O,r⟩:=M i i (by simp[J]);rw[z]at r;cases r;exact O
 ·cases h
theorem oG {g:Ty->TypeId->Bool}{rd:TypeId->List Value->Option (DataW H×List MemPlace)}
  (Y:∀ b t,g b t=true->∀ cs d,rd t cs=some d->∃ x:b.den,Rd w (λk=>k<w.heap.size) b x cs/\Sm b x) :
  ∀ (fs:List Field) (off:Nat) (b:Ty),shF P g fs off b=true->∀ (cs:List Value),cs.length=off+b.cells ->
   (∀ f∈fs,∃ d,rd f.type ((cs.drop f.offset).take (P.cellsOf f.type))=some d)->∃ x:b.den,Rd w (λk=>k<w.heap.size) b x (cs.drop off)/\Sm b x
 |[],_,_,h=>by simp[shF]at h
 |[f],off,b,h=>by
  intro cs z M;simp only[shF,BF]at h;obtain⟨⟨u,r⟩,R⟩:=h;have u:=BK u;have r:=BK r;obtain⟨d,J⟩:=M f (BJ ..);rw[u,r,List.take_of_length_le (by simp;omega)]at J;exact Y b f.type R _ d J
 |f::I::fs,off,.pair b c,h=>by
  intro cs z M;simp only[shF,BF]at h;obtain⟨⟨⟨u,r⟩,R⟩,h4⟩:=h;have u:=BK u;have r:=BK r;have z:cs.length=off+(b.cells+c.cells):=z;obtain⟨d,J⟩:=M f (BJ ..);rw[u,r]at J;obtain⟨x,hx,O⟩:=Y b f.type R _ d J;obtain⟨y,hy,X⟩:=oG Y (I::fs) (off+b.cells) c h4 cs (by omega) (λf0 Z=>M f0 (BI _ Z));refine⟨(x,y),⟨_,_,?_,hx,hy⟩,O,X⟩;rw[<- Cm,List.take_append_drop]
 |f::I::fs,off,.int _,h=>by simp[shF]at h
 |f::I::fs,off,.bool,h=>by simp[shF]at h
 |f::I::fs,off,.str,h=>by simp[shF]at h
 |f::I::fs,off,.unit,h=>by simp[shF]at h
 |f::I::fs,off,.list _ _ _,h=>by simp[shF]at h
 |f::I::fs,off,.hdr,h=>by simp[shF]at h
theorem oH {β:Type}(Q:Nat->β->Prop):∀ (n:Nat),(∀ i,i<n->∃ x,Q i x)->∃ u:List β,u.length=n/\∀ i x,u[i]?=some x->Q i x
 |0,_=>⟨[],rfl,λi x h=>by simp at h⟩
 |n+1,h=>by
  obtain⟨u,I,O⟩:=oH Q n (λi M=>h i (by omega));obtain⟨x,J⟩:=h n (by omega);refine⟨u++[x],by simp[I],λi y r=>?_⟩;by_cases M:i<n
  ·rw[B7 (by omega)]at r;exact O i y r
  ·have z:i<(u++[x]).length:=(BN.1 r).1;have:i=n:=by simp at z;omega
   subst this;rw[B5 (by omega),I,Nat.sub_self]at r;simp at r;subst r;exact J
theorem qS:∀ (n:Nat) (a:Ty) (t:TypeId),shT P n a t=true->∀ (I:Nat) (cs:List Value) (d:DataW H×List MemPlace),DataW.trod enc P w base spare held I t cs=some d ->
    ∃ x:a.den,Rd w (λk=>k<w.heap.size) a x cs/\Sm a x
  |0,_,_,h=>by simp[shT]at h
  |n+1,a,t,h=>by
    intro I cs d z;cases I with
    |zero=>simp[DataW.trod]at z
    |succ I =>
      cases a with
      |int k =>
        simp only[shT]at h;split at h
        · rename_i k' O
          have hk:=of_decide_eq_true h;subst hk;simp only[DataW.trod,O]at z;split at z <;> first|(rename_i M;cases M;done)|skip
          all_goals first
            | (rename_i k1 k2 m J
               cases J;split at z
               · rename_i hw
                 obtain⟨rfl,hw⟩:=hw;exact⟨m,rfl,hw⟩
               · cases z)
            |cases z
        · cases h
      |bool =>
        simp only[shT]at h;split at h
        · rename_i O
          simp only[DataW.trod,O]at z;split at z <;> first|(rename_i M;cases M;done)|skip
          all_goals first
            |(rename_i b J;exact⟨b,rfl,trivial⟩)
            |cases z
        · cases h
      |str =>
        simp only[shT]at h;split at h
        · rename_i O
          simp only[DataW.trod,O]at z;split at z <;> first|(rename_i M;cases M;done)|skip
          all_goals first
            | (rename_i b J
               split at z
               · rename_i hb
                 exact⟨b,rfl,hb⟩
               · cases z)
            |cases z
        · cases h
      |unit=>simp[shT]at h
      |hdr=>simp[shT]at h
      |pair b c =>
        simp only[shT]at h;split at h
        · rename_i fs O
          simp only[BF]at h;obtain⟨h1,Z⟩:=h;have Z:=BK Z;simp only[DataW.trod,O]at z;split at z
          · rename_i a5
            simp only[BL]at z;obtain⟨ys,b3,_⟩:=z;obtain⟨h3,h4⟩:=k6 _ _ b3;have:=oG (w:=w) (rd:=DataW.trod enc P w base spare held I) (λb t hb cs d z=>qS n b t hb I cs d z) fs.toList 0 (.pair b c) h1 cs (by rw[a5,Z,CN];rfl) (λf hf=>by
              obtain⟨i,hi,e⟩:=Cu hf;obtain⟨y,h5,_⟩:=h4 i f (by rw[BU hi,e]);exact⟨y,h5⟩)
            simpa using this
          · cases z
        · cases h
      |list m E e =>
        simp only[shT]at h;split at h
        · rename_i E' O
          simp only[BF]at h;obtain⟨⟨⟨h1,Z⟩,h3⟩,h4⟩:=h;have h1:=BK h1;subst h1;have Z:=BK Z;have h3:0<e.cells:=by simpa[CP]using h3
          simp only[DataW.trod,O]at z;split at z <;> first|(rename_i M;cases M;done)|skip
          all_goals first
            |cases z;done
            |skip
          · exact⟨[],Rd.nil w _ m _ e,C8 _,by simp⟩
          · rename_i E2 R a9 b9 J
            cases J;split at z
            · rename_i hc
              obtain⟨b4,ba,bl⟩:=hc;obtain⟨bb,a3,_⟩:=CB.1 z;obtain⟨h5,h6⟩:=k6 _ _ a3;have b1:∀ i,i<a9->∃ x:e.den,∃ c,w.cells? base (R.add (i*e.cells)) e.cells=some c/\Rd w (λk=>k<w.heap.size) e x c/\Sm e x:=by
                intro i hi;obtain⟨y,h7,_⟩:=h6 i i (by simp[hi]);obtain⟨c,h8,h9⟩:=CB.1 h7;rw[Z]at h8;obtain⟨x,hx,b0⟩:=qS n e _ h4 I c y h9;exact⟨x,c,h8,hx,b0⟩
              obtain⟨xs,b2,a0⟩:=oH (λi (x:e.den)=>∃ c,w.cells? base (R.add (i*e.cells)) e.cells=some c/\Rd w (λk=>k<w.heap.size) e x c/\Sm e x) a9 b1;refine⟨xs,⟨some R,b9,by rw[b2],by omega,λhp=>?_⟩,by omega,λx hx=>?_⟩
              · have b5:0<xs.length:=hp
                obtain⟨c,Y,a6,_⟩:=a0 0 xs[0] (BU b5);obtain⟨_,bn,X⟩:=rQ Y;have h0:0<c.length:=by omega
                have r:=X 0 c[0] (BU h0);have e0:(R.add (0*e.cells)).add 0=R:=by simp[Addr.add]
                rw[e0]at r;have a1:R.spot=none/\R.block<w.heap.size:=by
                  unfold World.cell? at r;split at r
                  · rename_i hh
                    split at r
                    · cases r
                    · rename_i hs
                      refine⟨by simpa using hs,(CY.1 hh).1⟩
                  · cases r
                obtain⟨g,o,sp⟩:=R;obtain⟨a2,a4⟩:=a1;simp only at a2 a4;subst a2;refine⟨g,o,rfl,a4,λj x hj=>?_⟩;obtain⟨c,Y,a6,_⟩:=a0 j x hj;obtain⟨_,_,X⟩:=rQ Y;refine⟨c,a6,λi u hi=>?_⟩;have:=X i u hi
                rwa [fa,fa]at this
              · obtain⟨j,hj,e1⟩:=Cu hx
                obtain⟨c,_,_,hs⟩:=a0 j x (by rw[BU hj,e1]);exact hs
            · cases z
        · cases h
end
section
variable {H:Type} {enc:TypeId×Value->H} {P:Program} {w:World}
theorem zz {n:Nat}{a:Ty}{t:TypeId}(r:shT P (n+1) a t=true){v:Value}{d:DataW H}{p:List MemPlace}(J:DataW.Trod enc P w 0 (λ_=>true) true t v d p){base:Nat}(u:DF P w .any base t v) :
  ∃ x:a.den,(∃ I,de a.isAgg v I/\Rd w (λk=>k<w.heap.size) a x I)/\Sm a x:=by
 obtain⟨z,J⟩:=J;obtain⟨x,O,M⟩:=qS (n+1) a t r z _ _ J;refine⟨x,⟨v.cells.toList,?_,O⟩,M⟩;cases a with
 |int k =>
  simp only[shT]at r;split at r
  ·rename_i k' y;obtain⟨n,rfl⟩:=okWide_int y u;rfl
  ·cases r
 |bool =>
  simp only[shT]at r;split at r
  ·rename_i y;obtain⟨n,rfl⟩:=okWide_bool y u;rfl
  ·cases r
 |str =>
  simp only[shT]at r;split at r
  ·rename_i y;obtain⟨n,rfl⟩:=okWide_string y u;rfl
  ·cases r
 |list m E e =>
  simp only[shT]at r;split at r
  ·rename_i Y y;obtain⟨A,R,X,rfl⟩:=okWide_slice y u;rfl
  ·cases r
 |unit=>simp[shT]at r
 |hdr=>simp[shT]at r
 |pair b c =>
  simp only[shT]at r;split at r
  ·rename_i Z y;obtain⟨I,rfl,_⟩:=okWide_struct y u;show Value.agg I=.agg (Value.agg I).cells.toList.toArray;simp[Value.cells]
  ·cases r
def Sms:(as:List Ty)->ab (as.map .rd)->Prop
 |[],_=>True
 |a::as,x=>Sm a x.1/\Sms as x.2
def ua (P:Program):List Ty->List TypeId->Bool
 |[],[]=>true
 |a::as,t::r=>shT P 64 a t&&ua P as r
 |_,_=>false
theorem rR {pr:Nat->Prop}:∀ (as:List Ty) (z:List TypeId) (u:List Value) (ds:List (DataW H)) (ps:List MemPlace),ua P as z=true->DataW.TrodAll enc P w 0 (λ_=>true) true z u ds ps ->
  (∃ r,∀ (j:Nat) (t:TypeId) (v:Value),z[j]?=some t->u[j]?=some v->DF P w .any r t v)->∃ x:ab (as.map .rd),da P w (λk=>k<w.heap.size) pr (as.map .rd) x u (as.map λ_=>[])/\Sms as x
 |[],[],[],[],_,_,_,_=>⟨(),⟨rfl,rfl⟩,trivial⟩
 |[],[],[],_::_,_,_,h,_=>h.elim
 |[],[],_::_,_,_,_,h,_=>h.elim
 |[],_::_,_,_,_,h,_,_=>by simp[ua]at h
 |_::_,[],_,_,_,h,_,_=>by simp[ua]at h
 |_::_,_::_,[],_,_,_,h,_=>h.elim
 |_::_,_::_,_::_,[],_,_,h,_=>h.elim
 |a::as,t::z,v::u,d::ds,ps,O,⟨p,q,h1,Y,_⟩,⟨r,I⟩=>by
  simp only[ua,BF]at O;obtain⟨x,hx,J⟩:=zz (n:=63) O.1 h1 (I 0 t v rfl rfl);obtain⟨y,X,M⟩:=rR as z u ds q O.2 Y ⟨r,λj t' R Z h4=>I (j+1) t' R (by simpa using Z) (by simpa using h4)⟩;exact⟨(x,y),⟨v,u,[],_,rfl,rfl,⟨rfl,hx⟩,X⟩,J,M⟩
theorem zA (tys:List Ty):(tys.map λ_=>([]:List Nat)).flatten=[]:=by
 induction tys with
 |nil=>rfl
 |cons a tys r=>simp
theorem ym {f:FuncId}{tys:List Ty}{z:Bool}{I:ab (tys.map PK.rd)->Option (ai [.v .bool]×ah (tys.map PK.rd))}(hs:bO P ⟨f,tys.map .rd,[.v .bool],z,I⟩){x:ab (tys.map .rd)}{Y:List Value}{o:ah (tys.map .rd)}
  (hx:da P w (λk=>k<w.heap.size) (λk=>k<w.heap.size) (tys.map .rd) x Y (tys.map λ_=>[])) (hd:I x=some ((true,()),o)):Calls P f Y.toArray w (λe w'=>e=.returned (.bool true)/\Below w.heap.size w w'):=by
 have R:=zA tys;have:=hs.2 w (λk=>k<w.heap.size) x Y _ _ (hx.mono (λ_ h=>h) (λk M=>⟨M,by rw[R];simp⟩)) (λk M=>⟨M,by rw[R];simp⟩) (by rw[R];exact Ca) hd;refine this.mono λe w' hp=>?_
 obtain⟨v,us,N,a4,a6,rfl,r,Z,a2,X,a0,a1,_,_,J,_,_⟩:=hp;refine⟨?_,⟨a2,X,a0,Z,λk M=>a1 k M (by rw[R];simp)⟩⟩;obtain⟨u,a5,b,a3,e1,e2,⟨cs,y,O⟩,e3,e4⟩:=J;subst e3;subst e1;have r:v=u:=r;subst r;have y:cs=[v]:=y;have O:cs=[.bool true]:=O.1;rw[y]at O;simp only[Cj,and_true]at O;rw[O]
end
end Go.Proofs.YtaegajachoklkaaGreatEv
